/- Sessions: rows of one's own (VNext, VMLaw). -/
import Derived.Test.YtoonepmnlgfikaaVD
import Derived.Test.YtoonepmnlgfikaaUxM
/-! VNext -/
namespace Go.Proofs.Ytoonepmnlgfikaa.D
open Go.RowKit Go.Proofs.YtoonepmnlgfikaaW.PrintWords Go.Proofs.YtoonepmnlgfikaaW.PrintLast Go.Proofs.YtoonepmnlgfikaaW.PrintMore Go.Proofs.Ytoonepmnlgfikaa.Base Go.Maps Go.Sort Go.Shelf
set_option linter.unusedVariables false
set_option linter.unusedSimpArgs false
theorem num_is' (x : Int) : U.lecternref0_Num.f x = some (decide (0 ≤ x ∧ x < 1099511627776)) := by
  unfold U.lecternref0_Num.f
  by_cases h0 : 0 ≤ x
  · rw [if_pos h0]
    by_cases h1 : x < 1099511627776
    · rw [decide_eq_true h1, decide_eq_true ⟨h0, h1⟩]
    · rw [decide_eq_false h1, decide_eq_false (fun h => h1 h.2)]
  · rw [if_neg h0, decide_eq_false (fun h => h0 h.1)]
def kCells (k : Kept) : Array Value := #[.int .i64 k.term, .int .i64 k.vote, .int .i64 k.index, .int .i64 k.last, .string k.data]
set_option maxHeartbeats 3200000 in
set_option maxRecDepth 100000 in
theorem next_calls_ (vt : Option (Int × Int)) (sn : Option (Int × Int × ByteArray)) (k : Kept) (hk : k = keptOf vt sn) (w : World) (o t v ix : Int) (d : ByteArray) (hd : d.size ≤ 30000) (p : Value) (r : Nat) (hr6 : r < 6) (hr : lecternlaw0_Within.f o 6 = some (r : Int)) :
    Calls Try.prog 31 #[.agg #[.int .i64 k.term, .int .i64 k.vote, .int .i64 k.index, .int .i64 k.last, .string k.data], .agg #[.int .i64 o, .int .i64 t, .int .i64 v, .int .i64 ix, .string d, p]] w fun e w' => e = .returned (.tuple #[.agg (kCells (keptOf (actP vt sn r t v ix d).1 (actP vt sn r t v ix d).2.1)), .int .i64 (actP vt sn r t v ix d).2.2]) ∧ Below w.heap.size w w' := by
  have hu74 := Try.underlying74
  have hu70 := Try.underlying70
  have HK := Aside0.mk hk
  clear hk
  obtain ⟨k1, k2, k3, k4, k5⟩ := k
  have hds : decide ((d.size : Int) > 524288) = false := decide_eq_false (by omega)
  have hds2 : decide ((524288 : Int) < d.size) = false := decide_eq_false (by omega)
  have hds3 : decide (524288 < d.size) = false := decide_eq_false (by omega)
  go_enter Try.func31, Try.ntmps31
  go_wp2_with fail
  have x0 := heap_alloc_new w (.cells #[.int .i64 k1, .int .i64 k2, .int .i64 k3, .int .i64 k4, .string k5] 70)
  have b0 : Below w.heap.size w (w.alloc (.cells #[.int .i64 k1, .int .i64 k2, .int .i64 k3, .int .i64 k4, .string k5] 70)) := below_alloc (Below.refl _ _) _
  have z0 : (w.alloc (.cells #[.int .i64 k1, .int .i64 k2, .int .i64 k3, .int .i64 k4, .string k5] 70)).heap.size = w.heap.size + 1 := Array.size_push _
  generalize w.alloc (.cells #[.int .i64 k1, .int .i64 k2, .int .i64 k3, .int .i64 k4, .string k5] 70) = wa at *
  have x1 := heap_alloc_new wa (.cells #[.int .i64 o, .int .i64 t, .int .i64 v, .int .i64 ix, .string d, p] 74)
  have y0 := blk_alloc x0 (.cells #[.int .i64 o, .int .i64 t, .int .i64 v, .int .i64 ix, .string d, p] 74)
  have b1 := below_alloc b0 (.cells #[.int .i64 o, .int .i64 t, .int .i64 v, .int .i64 ix, .string d, p] 74)
  have z1 : (wa.alloc (.cells #[.int .i64 o, .int .i64 t, .int .i64 v, .int .i64 ix, .string d, p] 74)).heap.size = wa.heap.size + 1 := Array.size_push _
  rw [z0] at x1 z1
  generalize wa.alloc (.cells #[.int .i64 o, .int .i64 t, .int .i64 v, .int .i64 ix, .string d, p] 74) = wb at *
  have x2 := heap_alloc_new wb (.cells #[.int .i64 0, .int .i64 0, .int .i64 0, .int .i64 0, .string ⟨#[]⟩] 70)
  have y1 := blk_alloc x1 (.cells #[.int .i64 0, .int .i64 0, .int .i64 0, .int .i64 0, .string ⟨#[]⟩] 70)
  have yy0 := blk_alloc y0 (.cells #[.int .i64 0, .int .i64 0, .int .i64 0, .int .i64 0, .string ⟨#[]⟩] 70)
  have b2 := below_alloc b1 (.cells #[.int .i64 0, .int .i64 0, .int .i64 0, .int .i64 0, .string ⟨#[]⟩] 70)
  rw [z1] at x2
  generalize wb.alloc (.cells #[.int .i64 0, .int .i64 0, .int .i64 0, .int .i64 0, .string ⟨#[]⟩] 70) = wc at *
  clear x0 x1 y0 b0 b1 z0 z1
  obtain ⟨q0, hq0⟩ : ∃ q, q = w.heap.size := ⟨_, rfl⟩
  obtain ⟨q1, hq1⟩ : ∃ q, q = w.heap.size + 1 := ⟨_, rfl⟩
  obtain ⟨q2, hq2⟩ : ∃ q, q = w.heap.size + 1 + 1 := ⟨_, rfl⟩
  rw [← hq2] at x2 ⊢
  rw [← hq1] at y1 ⊢
  have HQ : Aside0 (w.heap.size ≤ q0 ∧ w.heap.size ≤ q2 ∧ q2 ≠ q0) := ⟨by omega⟩
  rw [← hq0] at yy0 ⊢
  refine (lecternlaw0_Within.calls o 6 (r : Int) wc hr).mono ?_
  rintro e w1 ⟨rfl, hdr⟩
  have hb1 : Below w.heap.size w w1 := below_step b2 hdr.below
  obtain ⟨Z0, Z1, Z2⟩ : w1.heap[q0]? = some (.cells #[.int .i64 k1, .int .i64 k2, .int .i64 k3, .int .i64 k4, .string k5] 70 (0, 0)) ∧ w1.heap[q1]? = some (.cells #[.int .i64 o, .int .i64 t, .int .i64 v, .int .i64 ix, .string d, p] 74 (0, 0)) ∧ w1.heap[q2]? = some (.cells #[.int .i64 0, .int .i64 0, .int .i64 0, .int .i64 0, .string ⟨#[]⟩] 70 (0, 0)) := by obtain ⟨m, rfl⟩ := hdr; exact ⟨yy0, y1, x2⟩
  have HB1 := Aside0.mk hb1
  have HZ0 := Aside0.mk Z0
  have HZ1 := Aside0.mk Z1
  have HZ2 := Aside0.mk Z2
  have ca0 : w1.cell? ⟨q1, 0, none⟩ = some (.int .i64 o) := (blk_cell HZ1.out 0).trans rfl
  have ca1 : w1.cell? ⟨q1, 1, none⟩ = some (.int .i64 t) := (blk_cell HZ1.out 1).trans rfl
  have ca2 : w1.cell? ⟨q1, 2, none⟩ = some (.int .i64 v) := (blk_cell HZ1.out 2).trans rfl
  have ca3 : w1.cell? ⟨q1, 3, none⟩ = some (.int .i64 ix) := (blk_cell HZ1.out 3).trans rfl
  have ca4 : w1.cell? ⟨q1, 4, none⟩ = some (.string d) := (blk_cell HZ1.out 4).trans rfl
  have cb0 : w1.cell? ⟨q0, 0, none⟩ = some (.int .i64 k1) := (blk_cell HZ0.out 0).trans rfl
  have cb1 : w1.cell? ⟨q0, 1, none⟩ = some (.int .i64 k2) := (blk_cell HZ0.out 1).trans rfl
  have cb2 : w1.cell? ⟨q0, 2, none⟩ = some (.int .i64 k3) := (blk_cell HZ0.out 2).trans rfl
  have cb3 : w1.cell? ⟨q0, 3, none⟩ = some (.int .i64 k4) := (blk_cell HZ0.out 3).trans rfl
  have cb4 : w1.cell? ⟨q0, 4, none⟩ = some (.string k5) := (blk_cell HZ0.out 4).trans rfl
  have cc0 : w1.cell? ⟨q2, 0, none⟩ = some (.int .i64 0) := (blk_cell HZ2.out 0).trans rfl
  have cc1 : w1.cell? ⟨q2, 1, none⟩ = some (.int .i64 0) := (blk_cell HZ2.out 1).trans rfl
  have cc2 : w1.cell? ⟨q2, 2, none⟩ = some (.int .i64 0) := (blk_cell HZ2.out 2).trans rfl
  have cc3 : w1.cell? ⟨q2, 3, none⟩ = some (.int .i64 0) := (blk_cell HZ2.out 3).trans rfl
  have cc4 : w1.cell? ⟨q2, 4, none⟩ = some (.string ⟨#[]⟩) := (blk_cell HZ2.out 4).trans rfl
  have fb0 := blk_frozen HZ0.out 0
  have fc0 := blk_frozen HZ2.out 0
  have fb1 := blk_frozen HZ0.out 1
  have fc1 := blk_frozen HZ2.out 1
  have fb2 := blk_frozen HZ0.out 2
  have fc2 := blk_frozen HZ2.out 2
  have fb3 := blk_frozen HZ0.out 3
  have fc3 := blk_frozen HZ2.out 3
  have fb4 := blk_frozen HZ0.out 4
  have fc4 := blk_frozen HZ2.out 4
  have hne : (q2 = q0) = False := eq_false HQ.out.2.2
  have hne' : (q0 = q2) = False := eq_false (fun e => HQ.out.2.2 e.symm)
  clear yy0 y1 x2 b2 hdr hb1 hq0 hq1 hq2 hr Z0 Z1 Z2
  rcases (show r = 0 ∨ r = 1 ∨ r = 2 ∨ r = 3 ∨ r = 4 ∨ r = 5 by omega) with rfl | rfl | rfl | rfl | rfl | rfl
  · by_cases ht : 0 ≤ t ∧ t < 1099511627776
    · go_wp2_with fail
      refine (U.lecternref0_Num.calls _ _ _ ((num_is' _).trans (congrArg some (decide_eq_true ht)))).mono ?_
      rintro e w2 ⟨rfl, ⟨m2, rfl⟩⟩
      have HB1 : Aside0 (Below w.heap.size w (w1.drewN m2)) := ⟨pw_below_drewN HB1.out m2⟩
      have HZ0 := Aside0.mk (blk_drewN HZ0.out m2)
      have HZ1 := Aside0.mk (blk_drewN HZ1.out m2)
      have HZ2 := Aside0.mk (blk_drewN HZ2.out m2)
      clear ca0 cb0 cc0 fb0 fc0 ca1 cb1 cc1 fb1 fc1 ca2 cb2 cc2 fb2 fc2 ca3 cb3 cc3 fb3 fc3 ca4 cb4 cc4 fb4 fc4
      generalize w1.drewN m2 = wd at *
      have ca0 : wd.cell? ⟨q1, 0, none⟩ = some (.int .i64 o) := (blk_cell HZ1.out 0).trans rfl
      have ca1 : wd.cell? ⟨q1, 1, none⟩ = some (.int .i64 t) := (blk_cell HZ1.out 1).trans rfl
      have ca2 : wd.cell? ⟨q1, 2, none⟩ = some (.int .i64 v) := (blk_cell HZ1.out 2).trans rfl
      have ca3 : wd.cell? ⟨q1, 3, none⟩ = some (.int .i64 ix) := (blk_cell HZ1.out 3).trans rfl
      have ca4 : wd.cell? ⟨q1, 4, none⟩ = some (.string d) := (blk_cell HZ1.out 4).trans rfl
      have cb0 : wd.cell? ⟨q0, 0, none⟩ = some (.int .i64 k1) := (blk_cell HZ0.out 0).trans rfl
      have cb1 : wd.cell? ⟨q0, 1, none⟩ = some (.int .i64 k2) := (blk_cell HZ0.out 1).trans rfl
      have cb2 : wd.cell? ⟨q0, 2, none⟩ = some (.int .i64 k3) := (blk_cell HZ0.out 2).trans rfl
      have cb3 : wd.cell? ⟨q0, 3, none⟩ = some (.int .i64 k4) := (blk_cell HZ0.out 3).trans rfl
      have cb4 : wd.cell? ⟨q0, 4, none⟩ = some (.string k5) := (blk_cell HZ0.out 4).trans rfl
      have cc0 : wd.cell? ⟨q2, 0, none⟩ = some (.int .i64 0) := (blk_cell HZ2.out 0).trans rfl
      have cc1 : wd.cell? ⟨q2, 1, none⟩ = some (.int .i64 0) := (blk_cell HZ2.out 1).trans rfl
      have cc2 : wd.cell? ⟨q2, 2, none⟩ = some (.int .i64 0) := (blk_cell HZ2.out 2).trans rfl
      have cc3 : wd.cell? ⟨q2, 3, none⟩ = some (.int .i64 0) := (blk_cell HZ2.out 3).trans rfl
      have cc4 : wd.cell? ⟨q2, 4, none⟩ = some (.string ⟨#[]⟩) := (blk_cell HZ2.out 4).trans rfl
      have fb0 := blk_frozen HZ0.out 0
      have fc0 := blk_frozen HZ2.out 0
      have fb1 := blk_frozen HZ0.out 1
      have fc1 := blk_frozen HZ2.out 1
      have fb2 := blk_frozen HZ0.out 2
      have fc2 := blk_frozen HZ2.out 2
      have fb3 := blk_frozen HZ0.out 3
      have fc3 := blk_frozen HZ2.out 3
      have fb4 := blk_frozen HZ0.out 4
      have fc4 := blk_frozen HZ2.out 4
      by_cases h0 : v < 0
      · have HA : Aside0 (actP vt sn 0 t v ix d = (vt, sn, 1)) := ⟨by unfold actP; rw [if_pos (by decide), if_neg (fun h => by omega)]⟩
        have HFIN : Aside0 (keptOf vt sn = ⟨k1, k2, k3, k4, k5⟩) := ⟨HK.out.symm⟩
        have e0 : decide (v < 0) = true := decide_eq_true h0
        go_wp2_with fail
        refine bodyPost_ret (results_ct rfl _ _ q2 70 #[(.int .i64 k1), (.int .i64 k2), (.int .i64 k3), (.int .i64 k4), (.string k5)] (0, 0) _ rfl (blk_set (blk_set (blk_set (blk_set (blk_set HZ2.out 0 _) 1 _) 2 _) 3 _) 4 _) Try.underlying70 rfl (by kernel_rfl)) rfl ?_
        exact ⟨by rw [HA.out, HFIN.out]; rfl, below_set (below_set (below_set (below_set (below_set HB1.out HQ.out.2.1 0 _) HQ.out.2.1 1 _) HQ.out.2.1 2 _) HQ.out.2.1 3 _) HQ.out.2.1 4 _⟩
      · have e0 : decide (v < 0) = false := decide_eq_false h0
        by_cases h7 : 7 < v
        · have HA : Aside0 (actP vt sn 0 t v ix d = (vt, sn, 1)) := ⟨by unfold actP; rw [if_pos (by decide), if_neg (fun h => by omega)]⟩
          have HFIN : Aside0 (keptOf vt sn = ⟨k1, k2, k3, k4, k5⟩) := ⟨HK.out.symm⟩
          have e7 : decide (7 < v) = true := decide_eq_true h7
          go_wp2_with fail
          refine bodyPost_ret (results_ct rfl _ _ q2 70 #[(.int .i64 k1), (.int .i64 k2), (.int .i64 k3), (.int .i64 k4), (.string k5)] (0, 0) _ rfl (blk_set (blk_set (blk_set (blk_set (blk_set HZ2.out 0 _) 1 _) 2 _) 3 _) 4 _) Try.underlying70 rfl (by kernel_rfl)) rfl ?_
          exact ⟨by rw [HA.out, HFIN.out]; rfl, below_set (below_set (below_set (below_set (below_set HB1.out HQ.out.2.1 0 _) HQ.out.2.1 1 _) HQ.out.2.1 2 _) HQ.out.2.1 3 _) HQ.out.2.1 4 _⟩
        · have HA : Aside0 (actP vt sn 0 t v ix d = (some (t, v), sn, 0)) := ⟨by unfold actP; rw [if_pos (by decide), if_pos ⟨ht.1, ht.2, by omega, by omega⟩]⟩
          have HFIN : Aside0 (keptOf (some (t, v)) sn = ⟨t, v, k3, k4, k5⟩) := ⟨(show keptOf (some (t, v)) sn = { keptOf vt sn with term := t, vote := v } from rfl).trans (by rw [← HK.out])⟩
          have e7 : decide (7 < v) = false := decide_eq_false h7
          go_wp2_with fail
          go_region
          have HZ0b : Aside0 (((wd.setCell ⟨q0, 0, none⟩ (.int .i64 t)).setCell ⟨q0, 1, none⟩ (.int .i64 v)).drew.heap[q0]? = some (.cells #[(.int .i64 t), (.int .i64 v), (.int .i64 k3), (.int .i64 k4), (.string k5)] 70 (0, 0))) := ⟨blk_drew (blk_set (blk_set HZ0.out 0 _) 1 _)⟩
          have HZ2b : Aside0 (((wd.setCell ⟨q0, 0, none⟩ (.int .i64 t)).setCell ⟨q0, 1, none⟩ (.int .i64 v)).drew.heap[q2]? = some (.cells #[.int .i64 0, .int .i64 0, .int .i64 0, .int .i64 0, .string ⟨#[]⟩] 70 (0, 0))) := ⟨blk_drew (blk_far (blk_far HZ2.out (p := ⟨q0, 0, none⟩) HQ.out.2.2 _) (p := ⟨q0, 1, none⟩) HQ.out.2.2 _)⟩
          have HBb : Aside0 (Below w.heap.size w ((wd.setCell ⟨q0, 0, none⟩ (.int .i64 t)).setCell ⟨q0, 1, none⟩ (.int .i64 v)).drew) := ⟨below_drew (below_set (below_set HB1.out HQ.out.1 0 _) HQ.out.1 1 _)⟩
          clear HZ0 HZ1 HZ2 HB1 ca0 cb0 cc0 fb0 fc0 ca1 cb1 cc1 fb1 fc1 ca2 cb2 cc2 fb2 fc2 ca3 cb3 cc3 fb3 fc3 ca4 cb4 cc4 fb4 fc4
          generalize ((wd.setCell ⟨q0, 0, none⟩ (.int .i64 t)).setCell ⟨q0, 1, none⟩ (.int .i64 v)).drew = we at *
          have HZ0 := HZ0b
          have HZ2 := HZ2b
          have HB1 := HBb
          clear HZ0b HZ2b HBb
          have cb0 : we.cell? ⟨q0, 0, none⟩ = some (.int .i64 t) := (blk_cell HZ0.out 0).trans rfl
          have cb1 : we.cell? ⟨q0, 1, none⟩ = some (.int .i64 v) := (blk_cell HZ0.out 1).trans rfl
          have cb2 : we.cell? ⟨q0, 2, none⟩ = some (.int .i64 k3) := (blk_cell HZ0.out 2).trans rfl
          have cb3 : we.cell? ⟨q0, 3, none⟩ = some (.int .i64 k4) := (blk_cell HZ0.out 3).trans rfl
          have cb4 : we.cell? ⟨q0, 4, none⟩ = some (.string k5) := (blk_cell HZ0.out 4).trans rfl
          have cc0 : we.cell? ⟨q2, 0, none⟩ = some (.int .i64 0) := (blk_cell HZ2.out 0).trans rfl
          have cc1 : we.cell? ⟨q2, 1, none⟩ = some (.int .i64 0) := (blk_cell HZ2.out 1).trans rfl
          have cc2 : we.cell? ⟨q2, 2, none⟩ = some (.int .i64 0) := (blk_cell HZ2.out 2).trans rfl
          have cc3 : we.cell? ⟨q2, 3, none⟩ = some (.int .i64 0) := (blk_cell HZ2.out 3).trans rfl
          have cc4 : we.cell? ⟨q2, 4, none⟩ = some (.string ⟨#[]⟩) := (blk_cell HZ2.out 4).trans rfl
          have fc0 := blk_frozen HZ2.out 0
          have fc1 := blk_frozen HZ2.out 1
          have fc2 := blk_frozen HZ2.out 2
          have fc3 := blk_frozen HZ2.out 3
          have fc4 := blk_frozen HZ2.out 4
          go_wp2_with fail
          refine bodyPost_ret (results_ct rfl _ _ q2 70 #[(.int .i64 t), (.int .i64 v), (.int .i64 k3), (.int .i64 k4), (.string k5)] (0, 0) _ rfl (blk_set (blk_set (blk_set (blk_set (blk_set HZ2.out 0 _) 1 _) 2 _) 3 _) 4 _) Try.underlying70 rfl (by kernel_rfl)) rfl ?_
          exact ⟨by rw [HA.out, HFIN.out]; rfl, below_set (below_set (below_set (below_set (below_set HB1.out HQ.out.2.1 0 _) HQ.out.2.1 1 _) HQ.out.2.1 2 _) HQ.out.2.1 3 _) HQ.out.2.1 4 _⟩
    · have HA : Aside0 (actP vt sn 0 t v ix d = (vt, sn, 1)) := ⟨by unfold actP; rw [if_pos (by decide), if_neg (fun h => ht ⟨h.1, h.2.1⟩)]⟩
      have HFIN : Aside0 (keptOf vt sn = ⟨k1, k2, k3, k4, k5⟩) := ⟨HK.out.symm⟩
      go_wp2_with fail
      refine (U.lecternref0_Num.calls _ _ _ ((num_is' _).trans (congrArg some (decide_eq_false ht)))).mono ?_
      rintro e w2 ⟨rfl, ⟨m2, rfl⟩⟩
      have HB1 : Aside0 (Below w.heap.size w (w1.drewN m2)) := ⟨pw_below_drewN HB1.out m2⟩
      have HZ0 := Aside0.mk (blk_drewN HZ0.out m2)
      have HZ1 := Aside0.mk (blk_drewN HZ1.out m2)
      have HZ2 := Aside0.mk (blk_drewN HZ2.out m2)
      clear ca0 cb0 cc0 fb0 fc0 ca1 cb1 cc1 fb1 fc1 ca2 cb2 cc2 fb2 fc2 ca3 cb3 cc3 fb3 fc3 ca4 cb4 cc4 fb4 fc4
      generalize w1.drewN m2 = wd at *
      have ca0 : wd.cell? ⟨q1, 0, none⟩ = some (.int .i64 o) := (blk_cell HZ1.out 0).trans rfl
      have ca1 : wd.cell? ⟨q1, 1, none⟩ = some (.int .i64 t) := (blk_cell HZ1.out 1).trans rfl
      have ca2 : wd.cell? ⟨q1, 2, none⟩ = some (.int .i64 v) := (blk_cell HZ1.out 2).trans rfl
      have ca3 : wd.cell? ⟨q1, 3, none⟩ = some (.int .i64 ix) := (blk_cell HZ1.out 3).trans rfl
      have ca4 : wd.cell? ⟨q1, 4, none⟩ = some (.string d) := (blk_cell HZ1.out 4).trans rfl
      have cb0 : wd.cell? ⟨q0, 0, none⟩ = some (.int .i64 k1) := (blk_cell HZ0.out 0).trans rfl
      have cb1 : wd.cell? ⟨q0, 1, none⟩ = some (.int .i64 k2) := (blk_cell HZ0.out 1).trans rfl
      have cb2 : wd.cell? ⟨q0, 2, none⟩ = some (.int .i64 k3) := (blk_cell HZ0.out 2).trans rfl
      have cb3 : wd.cell? ⟨q0, 3, none⟩ = some (.int .i64 k4) := (blk_cell HZ0.out 3).trans rfl
      have cb4 : wd.cell? ⟨q0, 4, none⟩ = some (.string k5) := (blk_cell HZ0.out 4).trans rfl
      have cc0 : wd.cell? ⟨q2, 0, none⟩ = some (.int .i64 0) := (blk_cell HZ2.out 0).trans rfl
      have cc1 : wd.cell? ⟨q2, 1, none⟩ = some (.int .i64 0) := (blk_cell HZ2.out 1).trans rfl
      have cc2 : wd.cell? ⟨q2, 2, none⟩ = some (.int .i64 0) := (blk_cell HZ2.out 2).trans rfl
      have cc3 : wd.cell? ⟨q2, 3, none⟩ = some (.int .i64 0) := (blk_cell HZ2.out 3).trans rfl
      have cc4 : wd.cell? ⟨q2, 4, none⟩ = some (.string ⟨#[]⟩) := (blk_cell HZ2.out 4).trans rfl
      have fb0 := blk_frozen HZ0.out 0
      have fc0 := blk_frozen HZ2.out 0
      have fb1 := blk_frozen HZ0.out 1
      have fc1 := blk_frozen HZ2.out 1
      have fb2 := blk_frozen HZ0.out 2
      have fc2 := blk_frozen HZ2.out 2
      have fb3 := blk_frozen HZ0.out 3
      have fc3 := blk_frozen HZ2.out 3
      have fb4 := blk_frozen HZ0.out 4
      have fc4 := blk_frozen HZ2.out 4
      go_wp2_with fail
      refine bodyPost_ret (results_ct rfl _ _ q2 70 #[(.int .i64 k1), (.int .i64 k2), (.int .i64 k3), (.int .i64 k4), (.string k5)] (0, 0) _ rfl (blk_set (blk_set (blk_set (blk_set (blk_set HZ2.out 0 _) 1 _) 2 _) 3 _) 4 _) Try.underlying70 rfl (by kernel_rfl)) rfl ?_
      exact ⟨by rw [HA.out, HFIN.out]; rfl, below_set (below_set (below_set (below_set (below_set HB1.out HQ.out.2.1 0 _) HQ.out.2.1 1 _) HQ.out.2.1 2 _) HQ.out.2.1 3 _) HQ.out.2.1 4 _⟩
  · by_cases ht : 0 ≤ t ∧ t < 1099511627776
    · go_wp2_with fail
      refine (U.lecternref0_Num.calls _ _ _ ((num_is' _).trans (congrArg some (decide_eq_true ht)))).mono ?_
      rintro e w2 ⟨rfl, ⟨m2, rfl⟩⟩
      have HB1 : Aside0 (Below w.heap.size w (w1.drewN m2)) := ⟨pw_below_drewN HB1.out m2⟩
      have HZ0 := Aside0.mk (blk_drewN HZ0.out m2)
      have HZ1 := Aside0.mk (blk_drewN HZ1.out m2)
      have HZ2 := Aside0.mk (blk_drewN HZ2.out m2)
      clear ca0 cb0 cc0 fb0 fc0 ca1 cb1 cc1 fb1 fc1 ca2 cb2 cc2 fb2 fc2 ca3 cb3 cc3 fb3 fc3 ca4 cb4 cc4 fb4 fc4
      generalize w1.drewN m2 = wd at *
      have ca0 : wd.cell? ⟨q1, 0, none⟩ = some (.int .i64 o) := (blk_cell HZ1.out 0).trans rfl
      have ca1 : wd.cell? ⟨q1, 1, none⟩ = some (.int .i64 t) := (blk_cell HZ1.out 1).trans rfl
      have ca2 : wd.cell? ⟨q1, 2, none⟩ = some (.int .i64 v) := (blk_cell HZ1.out 2).trans rfl
      have ca3 : wd.cell? ⟨q1, 3, none⟩ = some (.int .i64 ix) := (blk_cell HZ1.out 3).trans rfl
      have ca4 : wd.cell? ⟨q1, 4, none⟩ = some (.string d) := (blk_cell HZ1.out 4).trans rfl
      have cb0 : wd.cell? ⟨q0, 0, none⟩ = some (.int .i64 k1) := (blk_cell HZ0.out 0).trans rfl
      have cb1 : wd.cell? ⟨q0, 1, none⟩ = some (.int .i64 k2) := (blk_cell HZ0.out 1).trans rfl
      have cb2 : wd.cell? ⟨q0, 2, none⟩ = some (.int .i64 k3) := (blk_cell HZ0.out 2).trans rfl
      have cb3 : wd.cell? ⟨q0, 3, none⟩ = some (.int .i64 k4) := (blk_cell HZ0.out 3).trans rfl
      have cb4 : wd.cell? ⟨q0, 4, none⟩ = some (.string k5) := (blk_cell HZ0.out 4).trans rfl
      have cc0 : wd.cell? ⟨q2, 0, none⟩ = some (.int .i64 0) := (blk_cell HZ2.out 0).trans rfl
      have cc1 : wd.cell? ⟨q2, 1, none⟩ = some (.int .i64 0) := (blk_cell HZ2.out 1).trans rfl
      have cc2 : wd.cell? ⟨q2, 2, none⟩ = some (.int .i64 0) := (blk_cell HZ2.out 2).trans rfl
      have cc3 : wd.cell? ⟨q2, 3, none⟩ = some (.int .i64 0) := (blk_cell HZ2.out 3).trans rfl
      have cc4 : wd.cell? ⟨q2, 4, none⟩ = some (.string ⟨#[]⟩) := (blk_cell HZ2.out 4).trans rfl
      have fb0 := blk_frozen HZ0.out 0
      have fc0 := blk_frozen HZ2.out 0
      have fb1 := blk_frozen HZ0.out 1
      have fc1 := blk_frozen HZ2.out 1
      have fb2 := blk_frozen HZ0.out 2
      have fc2 := blk_frozen HZ2.out 2
      have fb3 := blk_frozen HZ0.out 3
      have fc3 := blk_frozen HZ2.out 3
      have fb4 := blk_frozen HZ0.out 4
      have fc4 := blk_frozen HZ2.out 4
      by_cases h0 : v < 0
      · have HA : Aside0 (actP vt sn 1 t v ix d = (vt, sn, 1)) := ⟨by unfold actP; rw [if_pos (by decide), if_neg (fun h => by omega)]⟩
        have HFIN : Aside0 (keptOf vt sn = ⟨k1, k2, k3, k4, k5⟩) := ⟨HK.out.symm⟩
        have e0 : decide (v < 0) = true := decide_eq_true h0
        go_wp2_with fail
        refine bodyPost_ret (results_ct rfl _ _ q2 70 #[(.int .i64 k1), (.int .i64 k2), (.int .i64 k3), (.int .i64 k4), (.string k5)] (0, 0) _ rfl (blk_set (blk_set (blk_set (blk_set (blk_set HZ2.out 0 _) 1 _) 2 _) 3 _) 4 _) Try.underlying70 rfl (by kernel_rfl)) rfl ?_
        exact ⟨by rw [HA.out, HFIN.out]; rfl, below_set (below_set (below_set (below_set (below_set HB1.out HQ.out.2.1 0 _) HQ.out.2.1 1 _) HQ.out.2.1 2 _) HQ.out.2.1 3 _) HQ.out.2.1 4 _⟩
      · have e0 : decide (v < 0) = false := decide_eq_false h0
        by_cases h7 : 7 < v
        · have HA : Aside0 (actP vt sn 1 t v ix d = (vt, sn, 1)) := ⟨by unfold actP; rw [if_pos (by decide), if_neg (fun h => by omega)]⟩
          have HFIN : Aside0 (keptOf vt sn = ⟨k1, k2, k3, k4, k5⟩) := ⟨HK.out.symm⟩
          have e7 : decide (7 < v) = true := decide_eq_true h7
          go_wp2_with fail
          refine bodyPost_ret (results_ct rfl _ _ q2 70 #[(.int .i64 k1), (.int .i64 k2), (.int .i64 k3), (.int .i64 k4), (.string k5)] (0, 0) _ rfl (blk_set (blk_set (blk_set (blk_set (blk_set HZ2.out 0 _) 1 _) 2 _) 3 _) 4 _) Try.underlying70 rfl (by kernel_rfl)) rfl ?_
          exact ⟨by rw [HA.out, HFIN.out]; rfl, below_set (below_set (below_set (below_set (below_set HB1.out HQ.out.2.1 0 _) HQ.out.2.1 1 _) HQ.out.2.1 2 _) HQ.out.2.1 3 _) HQ.out.2.1 4 _⟩
        · have HA : Aside0 (actP vt sn 1 t v ix d = (some (t, v), sn, 0)) := ⟨by unfold actP; rw [if_pos (by decide), if_pos ⟨ht.1, ht.2, by omega, by omega⟩]⟩
          have HFIN : Aside0 (keptOf (some (t, v)) sn = ⟨t, v, k3, k4, k5⟩) := ⟨(show keptOf (some (t, v)) sn = { keptOf vt sn with term := t, vote := v } from rfl).trans (by rw [← HK.out])⟩
          have e7 : decide (7 < v) = false := decide_eq_false h7
          go_wp2_with fail
          go_region
          have HZ0b : Aside0 (((wd.setCell ⟨q0, 0, none⟩ (.int .i64 t)).setCell ⟨q0, 1, none⟩ (.int .i64 v)).drew.heap[q0]? = some (.cells #[(.int .i64 t), (.int .i64 v), (.int .i64 k3), (.int .i64 k4), (.string k5)] 70 (0, 0))) := ⟨blk_drew (blk_set (blk_set HZ0.out 0 _) 1 _)⟩
          have HZ2b : Aside0 (((wd.setCell ⟨q0, 0, none⟩ (.int .i64 t)).setCell ⟨q0, 1, none⟩ (.int .i64 v)).drew.heap[q2]? = some (.cells #[.int .i64 0, .int .i64 0, .int .i64 0, .int .i64 0, .string ⟨#[]⟩] 70 (0, 0))) := ⟨blk_drew (blk_far (blk_far HZ2.out (p := ⟨q0, 0, none⟩) HQ.out.2.2 _) (p := ⟨q0, 1, none⟩) HQ.out.2.2 _)⟩
          have HBb : Aside0 (Below w.heap.size w ((wd.setCell ⟨q0, 0, none⟩ (.int .i64 t)).setCell ⟨q0, 1, none⟩ (.int .i64 v)).drew) := ⟨below_drew (below_set (below_set HB1.out HQ.out.1 0 _) HQ.out.1 1 _)⟩
          clear HZ0 HZ1 HZ2 HB1 ca0 cb0 cc0 fb0 fc0 ca1 cb1 cc1 fb1 fc1 ca2 cb2 cc2 fb2 fc2 ca3 cb3 cc3 fb3 fc3 ca4 cb4 cc4 fb4 fc4
          generalize ((wd.setCell ⟨q0, 0, none⟩ (.int .i64 t)).setCell ⟨q0, 1, none⟩ (.int .i64 v)).drew = we at *
          have HZ0 := HZ0b
          have HZ2 := HZ2b
          have HB1 := HBb
          clear HZ0b HZ2b HBb
          have cb0 : we.cell? ⟨q0, 0, none⟩ = some (.int .i64 t) := (blk_cell HZ0.out 0).trans rfl
          have cb1 : we.cell? ⟨q0, 1, none⟩ = some (.int .i64 v) := (blk_cell HZ0.out 1).trans rfl
          have cb2 : we.cell? ⟨q0, 2, none⟩ = some (.int .i64 k3) := (blk_cell HZ0.out 2).trans rfl
          have cb3 : we.cell? ⟨q0, 3, none⟩ = some (.int .i64 k4) := (blk_cell HZ0.out 3).trans rfl
          have cb4 : we.cell? ⟨q0, 4, none⟩ = some (.string k5) := (blk_cell HZ0.out 4).trans rfl
          have cc0 : we.cell? ⟨q2, 0, none⟩ = some (.int .i64 0) := (blk_cell HZ2.out 0).trans rfl
          have cc1 : we.cell? ⟨q2, 1, none⟩ = some (.int .i64 0) := (blk_cell HZ2.out 1).trans rfl
          have cc2 : we.cell? ⟨q2, 2, none⟩ = some (.int .i64 0) := (blk_cell HZ2.out 2).trans rfl
          have cc3 : we.cell? ⟨q2, 3, none⟩ = some (.int .i64 0) := (blk_cell HZ2.out 3).trans rfl
          have cc4 : we.cell? ⟨q2, 4, none⟩ = some (.string ⟨#[]⟩) := (blk_cell HZ2.out 4).trans rfl
          have fc0 := blk_frozen HZ2.out 0
          have fc1 := blk_frozen HZ2.out 1
          have fc2 := blk_frozen HZ2.out 2
          have fc3 := blk_frozen HZ2.out 3
          have fc4 := blk_frozen HZ2.out 4
          go_wp2_with fail
          refine bodyPost_ret (results_ct rfl _ _ q2 70 #[(.int .i64 t), (.int .i64 v), (.int .i64 k3), (.int .i64 k4), (.string k5)] (0, 0) _ rfl (blk_set (blk_set (blk_set (blk_set (blk_set HZ2.out 0 _) 1 _) 2 _) 3 _) 4 _) Try.underlying70 rfl (by kernel_rfl)) rfl ?_
          exact ⟨by rw [HA.out, HFIN.out]; rfl, below_set (below_set (below_set (below_set (below_set HB1.out HQ.out.2.1 0 _) HQ.out.2.1 1 _) HQ.out.2.1 2 _) HQ.out.2.1 3 _) HQ.out.2.1 4 _⟩
    · have HA : Aside0 (actP vt sn 1 t v ix d = (vt, sn, 1)) := ⟨by unfold actP; rw [if_pos (by decide), if_neg (fun h => ht ⟨h.1, h.2.1⟩)]⟩
      have HFIN : Aside0 (keptOf vt sn = ⟨k1, k2, k3, k4, k5⟩) := ⟨HK.out.symm⟩
      go_wp2_with fail
      refine (U.lecternref0_Num.calls _ _ _ ((num_is' _).trans (congrArg some (decide_eq_false ht)))).mono ?_
      rintro e w2 ⟨rfl, ⟨m2, rfl⟩⟩
      have HB1 : Aside0 (Below w.heap.size w (w1.drewN m2)) := ⟨pw_below_drewN HB1.out m2⟩
      have HZ0 := Aside0.mk (blk_drewN HZ0.out m2)
      have HZ1 := Aside0.mk (blk_drewN HZ1.out m2)
      have HZ2 := Aside0.mk (blk_drewN HZ2.out m2)
      clear ca0 cb0 cc0 fb0 fc0 ca1 cb1 cc1 fb1 fc1 ca2 cb2 cc2 fb2 fc2 ca3 cb3 cc3 fb3 fc3 ca4 cb4 cc4 fb4 fc4
      generalize w1.drewN m2 = wd at *
      have ca0 : wd.cell? ⟨q1, 0, none⟩ = some (.int .i64 o) := (blk_cell HZ1.out 0).trans rfl
      have ca1 : wd.cell? ⟨q1, 1, none⟩ = some (.int .i64 t) := (blk_cell HZ1.out 1).trans rfl
      have ca2 : wd.cell? ⟨q1, 2, none⟩ = some (.int .i64 v) := (blk_cell HZ1.out 2).trans rfl
      have ca3 : wd.cell? ⟨q1, 3, none⟩ = some (.int .i64 ix) := (blk_cell HZ1.out 3).trans rfl
      have ca4 : wd.cell? ⟨q1, 4, none⟩ = some (.string d) := (blk_cell HZ1.out 4).trans rfl
      have cb0 : wd.cell? ⟨q0, 0, none⟩ = some (.int .i64 k1) := (blk_cell HZ0.out 0).trans rfl
      have cb1 : wd.cell? ⟨q0, 1, none⟩ = some (.int .i64 k2) := (blk_cell HZ0.out 1).trans rfl
      have cb2 : wd.cell? ⟨q0, 2, none⟩ = some (.int .i64 k3) := (blk_cell HZ0.out 2).trans rfl
      have cb3 : wd.cell? ⟨q0, 3, none⟩ = some (.int .i64 k4) := (blk_cell HZ0.out 3).trans rfl
      have cb4 : wd.cell? ⟨q0, 4, none⟩ = some (.string k5) := (blk_cell HZ0.out 4).trans rfl
      have cc0 : wd.cell? ⟨q2, 0, none⟩ = some (.int .i64 0) := (blk_cell HZ2.out 0).trans rfl
      have cc1 : wd.cell? ⟨q2, 1, none⟩ = some (.int .i64 0) := (blk_cell HZ2.out 1).trans rfl
      have cc2 : wd.cell? ⟨q2, 2, none⟩ = some (.int .i64 0) := (blk_cell HZ2.out 2).trans rfl
      have cc3 : wd.cell? ⟨q2, 3, none⟩ = some (.int .i64 0) := (blk_cell HZ2.out 3).trans rfl
      have cc4 : wd.cell? ⟨q2, 4, none⟩ = some (.string ⟨#[]⟩) := (blk_cell HZ2.out 4).trans rfl
      have fb0 := blk_frozen HZ0.out 0
      have fc0 := blk_frozen HZ2.out 0
      have fb1 := blk_frozen HZ0.out 1
      have fc1 := blk_frozen HZ2.out 1
      have fb2 := blk_frozen HZ0.out 2
      have fc2 := blk_frozen HZ2.out 2
      have fb3 := blk_frozen HZ0.out 3
      have fc3 := blk_frozen HZ2.out 3
      have fb4 := blk_frozen HZ0.out 4
      have fc4 := blk_frozen HZ2.out 4
      go_wp2_with fail
      refine bodyPost_ret (results_ct rfl _ _ q2 70 #[(.int .i64 k1), (.int .i64 k2), (.int .i64 k3), (.int .i64 k4), (.string k5)] (0, 0) _ rfl (blk_set (blk_set (blk_set (blk_set (blk_set HZ2.out 0 _) 1 _) 2 _) 3 _) 4 _) Try.underlying70 rfl (by kernel_rfl)) rfl ?_
      exact ⟨by rw [HA.out, HFIN.out]; rfl, below_set (below_set (below_set (below_set (below_set HB1.out HQ.out.2.1 0 _) HQ.out.2.1 1 _) HQ.out.2.1 2 _) HQ.out.2.1 3 _) HQ.out.2.1 4 _⟩
  · by_cases ht : 0 ≤ t ∧ t < 1099511627776
    · go_wp2_with fail
      refine (U.lecternref0_Num.calls _ _ _ ((num_is' _).trans (congrArg some (decide_eq_true ht)))).mono ?_
      rintro e w2 ⟨rfl, ⟨m2, rfl⟩⟩
      have HB1 : Aside0 (Below w.heap.size w (w1.drewN m2)) := ⟨pw_below_drewN HB1.out m2⟩
      have HZ0 := Aside0.mk (blk_drewN HZ0.out m2)
      have HZ1 := Aside0.mk (blk_drewN HZ1.out m2)
      have HZ2 := Aside0.mk (blk_drewN HZ2.out m2)
      clear ca0 cb0 cc0 fb0 fc0 ca1 cb1 cc1 fb1 fc1 ca2 cb2 cc2 fb2 fc2 ca3 cb3 cc3 fb3 fc3 ca4 cb4 cc4 fb4 fc4
      generalize w1.drewN m2 = wd at *
      have ca0 : wd.cell? ⟨q1, 0, none⟩ = some (.int .i64 o) := (blk_cell HZ1.out 0).trans rfl
      have ca1 : wd.cell? ⟨q1, 1, none⟩ = some (.int .i64 t) := (blk_cell HZ1.out 1).trans rfl
      have ca2 : wd.cell? ⟨q1, 2, none⟩ = some (.int .i64 v) := (blk_cell HZ1.out 2).trans rfl
      have ca3 : wd.cell? ⟨q1, 3, none⟩ = some (.int .i64 ix) := (blk_cell HZ1.out 3).trans rfl
      have ca4 : wd.cell? ⟨q1, 4, none⟩ = some (.string d) := (blk_cell HZ1.out 4).trans rfl
      have cb0 : wd.cell? ⟨q0, 0, none⟩ = some (.int .i64 k1) := (blk_cell HZ0.out 0).trans rfl
      have cb1 : wd.cell? ⟨q0, 1, none⟩ = some (.int .i64 k2) := (blk_cell HZ0.out 1).trans rfl
      have cb2 : wd.cell? ⟨q0, 2, none⟩ = some (.int .i64 k3) := (blk_cell HZ0.out 2).trans rfl
      have cb3 : wd.cell? ⟨q0, 3, none⟩ = some (.int .i64 k4) := (blk_cell HZ0.out 3).trans rfl
      have cb4 : wd.cell? ⟨q0, 4, none⟩ = some (.string k5) := (blk_cell HZ0.out 4).trans rfl
      have cc0 : wd.cell? ⟨q2, 0, none⟩ = some (.int .i64 0) := (blk_cell HZ2.out 0).trans rfl
      have cc1 : wd.cell? ⟨q2, 1, none⟩ = some (.int .i64 0) := (blk_cell HZ2.out 1).trans rfl
      have cc2 : wd.cell? ⟨q2, 2, none⟩ = some (.int .i64 0) := (blk_cell HZ2.out 2).trans rfl
      have cc3 : wd.cell? ⟨q2, 3, none⟩ = some (.int .i64 0) := (blk_cell HZ2.out 3).trans rfl
      have cc4 : wd.cell? ⟨q2, 4, none⟩ = some (.string ⟨#[]⟩) := (blk_cell HZ2.out 4).trans rfl
      have fb0 := blk_frozen HZ0.out 0
      have fc0 := blk_frozen HZ2.out 0
      have fb1 := blk_frozen HZ0.out 1
      have fc1 := blk_frozen HZ2.out 1
      have fb2 := blk_frozen HZ0.out 2
      have fc2 := blk_frozen HZ2.out 2
      have fb3 := blk_frozen HZ0.out 3
      have fc3 := blk_frozen HZ2.out 3
      have fb4 := blk_frozen HZ0.out 4
      have fc4 := blk_frozen HZ2.out 4
      by_cases h0 : v < 0
      · have HA : Aside0 (actP vt sn 2 t v ix d = (vt, sn, 1)) := ⟨by unfold actP; rw [if_pos (by decide), if_neg (fun h => by omega)]⟩
        have HFIN : Aside0 (keptOf vt sn = ⟨k1, k2, k3, k4, k5⟩) := ⟨HK.out.symm⟩
        have e0 : decide (v < 0) = true := decide_eq_true h0
        go_wp2_with fail
        refine bodyPost_ret (results_ct rfl _ _ q2 70 #[(.int .i64 k1), (.int .i64 k2), (.int .i64 k3), (.int .i64 k4), (.string k5)] (0, 0) _ rfl (blk_set (blk_set (blk_set (blk_set (blk_set HZ2.out 0 _) 1 _) 2 _) 3 _) 4 _) Try.underlying70 rfl (by kernel_rfl)) rfl ?_
        exact ⟨by rw [HA.out, HFIN.out]; rfl, below_set (below_set (below_set (below_set (below_set HB1.out HQ.out.2.1 0 _) HQ.out.2.1 1 _) HQ.out.2.1 2 _) HQ.out.2.1 3 _) HQ.out.2.1 4 _⟩
      · have e0 : decide (v < 0) = false := decide_eq_false h0
        by_cases h7 : 7 < v
        · have HA : Aside0 (actP vt sn 2 t v ix d = (vt, sn, 1)) := ⟨by unfold actP; rw [if_pos (by decide), if_neg (fun h => by omega)]⟩
          have HFIN : Aside0 (keptOf vt sn = ⟨k1, k2, k3, k4, k5⟩) := ⟨HK.out.symm⟩
          have e7 : decide (7 < v) = true := decide_eq_true h7
          go_wp2_with fail
          refine bodyPost_ret (results_ct rfl _ _ q2 70 #[(.int .i64 k1), (.int .i64 k2), (.int .i64 k3), (.int .i64 k4), (.string k5)] (0, 0) _ rfl (blk_set (blk_set (blk_set (blk_set (blk_set HZ2.out 0 _) 1 _) 2 _) 3 _) 4 _) Try.underlying70 rfl (by kernel_rfl)) rfl ?_
          exact ⟨by rw [HA.out, HFIN.out]; rfl, below_set (below_set (below_set (below_set (below_set HB1.out HQ.out.2.1 0 _) HQ.out.2.1 1 _) HQ.out.2.1 2 _) HQ.out.2.1 3 _) HQ.out.2.1 4 _⟩
        · have HA : Aside0 (actP vt sn 2 t v ix d = (some (t, v), sn, 0)) := ⟨by unfold actP; rw [if_pos (by decide), if_pos ⟨ht.1, ht.2, by omega, by omega⟩]⟩
          have HFIN : Aside0 (keptOf (some (t, v)) sn = ⟨t, v, k3, k4, k5⟩) := ⟨(show keptOf (some (t, v)) sn = { keptOf vt sn with term := t, vote := v } from rfl).trans (by rw [← HK.out])⟩
          have e7 : decide (7 < v) = false := decide_eq_false h7
          go_wp2_with fail
          go_region
          have HZ0b : Aside0 (((wd.setCell ⟨q0, 0, none⟩ (.int .i64 t)).setCell ⟨q0, 1, none⟩ (.int .i64 v)).drew.heap[q0]? = some (.cells #[(.int .i64 t), (.int .i64 v), (.int .i64 k3), (.int .i64 k4), (.string k5)] 70 (0, 0))) := ⟨blk_drew (blk_set (blk_set HZ0.out 0 _) 1 _)⟩
          have HZ2b : Aside0 (((wd.setCell ⟨q0, 0, none⟩ (.int .i64 t)).setCell ⟨q0, 1, none⟩ (.int .i64 v)).drew.heap[q2]? = some (.cells #[.int .i64 0, .int .i64 0, .int .i64 0, .int .i64 0, .string ⟨#[]⟩] 70 (0, 0))) := ⟨blk_drew (blk_far (blk_far HZ2.out (p := ⟨q0, 0, none⟩) HQ.out.2.2 _) (p := ⟨q0, 1, none⟩) HQ.out.2.2 _)⟩
          have HBb : Aside0 (Below w.heap.size w ((wd.setCell ⟨q0, 0, none⟩ (.int .i64 t)).setCell ⟨q0, 1, none⟩ (.int .i64 v)).drew) := ⟨below_drew (below_set (below_set HB1.out HQ.out.1 0 _) HQ.out.1 1 _)⟩
          clear HZ0 HZ1 HZ2 HB1 ca0 cb0 cc0 fb0 fc0 ca1 cb1 cc1 fb1 fc1 ca2 cb2 cc2 fb2 fc2 ca3 cb3 cc3 fb3 fc3 ca4 cb4 cc4 fb4 fc4
          generalize ((wd.setCell ⟨q0, 0, none⟩ (.int .i64 t)).setCell ⟨q0, 1, none⟩ (.int .i64 v)).drew = we at *
          have HZ0 := HZ0b
          have HZ2 := HZ2b
          have HB1 := HBb
          clear HZ0b HZ2b HBb
          have cb0 : we.cell? ⟨q0, 0, none⟩ = some (.int .i64 t) := (blk_cell HZ0.out 0).trans rfl
          have cb1 : we.cell? ⟨q0, 1, none⟩ = some (.int .i64 v) := (blk_cell HZ0.out 1).trans rfl
          have cb2 : we.cell? ⟨q0, 2, none⟩ = some (.int .i64 k3) := (blk_cell HZ0.out 2).trans rfl
          have cb3 : we.cell? ⟨q0, 3, none⟩ = some (.int .i64 k4) := (blk_cell HZ0.out 3).trans rfl
          have cb4 : we.cell? ⟨q0, 4, none⟩ = some (.string k5) := (blk_cell HZ0.out 4).trans rfl
          have cc0 : we.cell? ⟨q2, 0, none⟩ = some (.int .i64 0) := (blk_cell HZ2.out 0).trans rfl
          have cc1 : we.cell? ⟨q2, 1, none⟩ = some (.int .i64 0) := (blk_cell HZ2.out 1).trans rfl
          have cc2 : we.cell? ⟨q2, 2, none⟩ = some (.int .i64 0) := (blk_cell HZ2.out 2).trans rfl
          have cc3 : we.cell? ⟨q2, 3, none⟩ = some (.int .i64 0) := (blk_cell HZ2.out 3).trans rfl
          have cc4 : we.cell? ⟨q2, 4, none⟩ = some (.string ⟨#[]⟩) := (blk_cell HZ2.out 4).trans rfl
          have fc0 := blk_frozen HZ2.out 0
          have fc1 := blk_frozen HZ2.out 1
          have fc2 := blk_frozen HZ2.out 2
          have fc3 := blk_frozen HZ2.out 3
          have fc4 := blk_frozen HZ2.out 4
          go_wp2_with fail
          refine bodyPost_ret (results_ct rfl _ _ q2 70 #[(.int .i64 t), (.int .i64 v), (.int .i64 k3), (.int .i64 k4), (.string k5)] (0, 0) _ rfl (blk_set (blk_set (blk_set (blk_set (blk_set HZ2.out 0 _) 1 _) 2 _) 3 _) 4 _) Try.underlying70 rfl (by kernel_rfl)) rfl ?_
          exact ⟨by rw [HA.out, HFIN.out]; rfl, below_set (below_set (below_set (below_set (below_set HB1.out HQ.out.2.1 0 _) HQ.out.2.1 1 _) HQ.out.2.1 2 _) HQ.out.2.1 3 _) HQ.out.2.1 4 _⟩
    · have HA : Aside0 (actP vt sn 2 t v ix d = (vt, sn, 1)) := ⟨by unfold actP; rw [if_pos (by decide), if_neg (fun h => ht ⟨h.1, h.2.1⟩)]⟩
      have HFIN : Aside0 (keptOf vt sn = ⟨k1, k2, k3, k4, k5⟩) := ⟨HK.out.symm⟩
      go_wp2_with fail
      refine (U.lecternref0_Num.calls _ _ _ ((num_is' _).trans (congrArg some (decide_eq_false ht)))).mono ?_
      rintro e w2 ⟨rfl, ⟨m2, rfl⟩⟩
      have HB1 : Aside0 (Below w.heap.size w (w1.drewN m2)) := ⟨pw_below_drewN HB1.out m2⟩
      have HZ0 := Aside0.mk (blk_drewN HZ0.out m2)
      have HZ1 := Aside0.mk (blk_drewN HZ1.out m2)
      have HZ2 := Aside0.mk (blk_drewN HZ2.out m2)
      clear ca0 cb0 cc0 fb0 fc0 ca1 cb1 cc1 fb1 fc1 ca2 cb2 cc2 fb2 fc2 ca3 cb3 cc3 fb3 fc3 ca4 cb4 cc4 fb4 fc4
      generalize w1.drewN m2 = wd at *
      have ca0 : wd.cell? ⟨q1, 0, none⟩ = some (.int .i64 o) := (blk_cell HZ1.out 0).trans rfl
      have ca1 : wd.cell? ⟨q1, 1, none⟩ = some (.int .i64 t) := (blk_cell HZ1.out 1).trans rfl
      have ca2 : wd.cell? ⟨q1, 2, none⟩ = some (.int .i64 v) := (blk_cell HZ1.out 2).trans rfl
      have ca3 : wd.cell? ⟨q1, 3, none⟩ = some (.int .i64 ix) := (blk_cell HZ1.out 3).trans rfl
      have ca4 : wd.cell? ⟨q1, 4, none⟩ = some (.string d) := (blk_cell HZ1.out 4).trans rfl
      have cb0 : wd.cell? ⟨q0, 0, none⟩ = some (.int .i64 k1) := (blk_cell HZ0.out 0).trans rfl
      have cb1 : wd.cell? ⟨q0, 1, none⟩ = some (.int .i64 k2) := (blk_cell HZ0.out 1).trans rfl
      have cb2 : wd.cell? ⟨q0, 2, none⟩ = some (.int .i64 k3) := (blk_cell HZ0.out 2).trans rfl
      have cb3 : wd.cell? ⟨q0, 3, none⟩ = some (.int .i64 k4) := (blk_cell HZ0.out 3).trans rfl
      have cb4 : wd.cell? ⟨q0, 4, none⟩ = some (.string k5) := (blk_cell HZ0.out 4).trans rfl
      have cc0 : wd.cell? ⟨q2, 0, none⟩ = some (.int .i64 0) := (blk_cell HZ2.out 0).trans rfl
      have cc1 : wd.cell? ⟨q2, 1, none⟩ = some (.int .i64 0) := (blk_cell HZ2.out 1).trans rfl
      have cc2 : wd.cell? ⟨q2, 2, none⟩ = some (.int .i64 0) := (blk_cell HZ2.out 2).trans rfl
      have cc3 : wd.cell? ⟨q2, 3, none⟩ = some (.int .i64 0) := (blk_cell HZ2.out 3).trans rfl
      have cc4 : wd.cell? ⟨q2, 4, none⟩ = some (.string ⟨#[]⟩) := (blk_cell HZ2.out 4).trans rfl
      have fb0 := blk_frozen HZ0.out 0
      have fc0 := blk_frozen HZ2.out 0
      have fb1 := blk_frozen HZ0.out 1
      have fc1 := blk_frozen HZ2.out 1
      have fb2 := blk_frozen HZ0.out 2
      have fc2 := blk_frozen HZ2.out 2
      have fb3 := blk_frozen HZ0.out 3
      have fc3 := blk_frozen HZ2.out 3
      have fb4 := blk_frozen HZ0.out 4
      have fc4 := blk_frozen HZ2.out 4
      go_wp2_with fail
      refine bodyPost_ret (results_ct rfl _ _ q2 70 #[(.int .i64 k1), (.int .i64 k2), (.int .i64 k3), (.int .i64 k4), (.string k5)] (0, 0) _ rfl (blk_set (blk_set (blk_set (blk_set (blk_set HZ2.out 0 _) 1 _) 2 _) 3 _) 4 _) Try.underlying70 rfl (by kernel_rfl)) rfl ?_
      exact ⟨by rw [HA.out, HFIN.out]; rfl, below_set (below_set (below_set (below_set (below_set HB1.out HQ.out.2.1 0 _) HQ.out.2.1 1 _) HQ.out.2.1 2 _) HQ.out.2.1 3 _) HQ.out.2.1 4 _⟩
  · by_cases hi : 0 ≤ ix ∧ ix < 1099511627776
    · go_wp2_with fail
      refine (U.lecternref0_Num.calls _ _ _ ((num_is' _).trans (congrArg some (decide_eq_true hi)))).mono ?_
      rintro e w2 ⟨rfl, ⟨m2, rfl⟩⟩
      have HB1 : Aside0 (Below w.heap.size w (w1.drewN m2)) := ⟨pw_below_drewN HB1.out m2⟩
      have HZ0 := Aside0.mk (blk_drewN HZ0.out m2)
      have HZ1 := Aside0.mk (blk_drewN HZ1.out m2)
      have HZ2 := Aside0.mk (blk_drewN HZ2.out m2)
      clear ca0 cb0 cc0 fb0 fc0 ca1 cb1 cc1 fb1 fc1 ca2 cb2 cc2 fb2 fc2 ca3 cb3 cc3 fb3 fc3 ca4 cb4 cc4 fb4 fc4
      generalize w1.drewN m2 = wd0 at *
      have ca0 : wd0.cell? ⟨q1, 0, none⟩ = some (.int .i64 o) := (blk_cell HZ1.out 0).trans rfl
      have ca1 : wd0.cell? ⟨q1, 1, none⟩ = some (.int .i64 t) := (blk_cell HZ1.out 1).trans rfl
      have ca2 : wd0.cell? ⟨q1, 2, none⟩ = some (.int .i64 v) := (blk_cell HZ1.out 2).trans rfl
      have ca3 : wd0.cell? ⟨q1, 3, none⟩ = some (.int .i64 ix) := (blk_cell HZ1.out 3).trans rfl
      have ca4 : wd0.cell? ⟨q1, 4, none⟩ = some (.string d) := (blk_cell HZ1.out 4).trans rfl
      have cb0 : wd0.cell? ⟨q0, 0, none⟩ = some (.int .i64 k1) := (blk_cell HZ0.out 0).trans rfl
      have cb1 : wd0.cell? ⟨q0, 1, none⟩ = some (.int .i64 k2) := (blk_cell HZ0.out 1).trans rfl
      have cb2 : wd0.cell? ⟨q0, 2, none⟩ = some (.int .i64 k3) := (blk_cell HZ0.out 2).trans rfl
      have cb3 : wd0.cell? ⟨q0, 3, none⟩ = some (.int .i64 k4) := (blk_cell HZ0.out 3).trans rfl
      have cb4 : wd0.cell? ⟨q0, 4, none⟩ = some (.string k5) := (blk_cell HZ0.out 4).trans rfl
      have cc0 : wd0.cell? ⟨q2, 0, none⟩ = some (.int .i64 0) := (blk_cell HZ2.out 0).trans rfl
      have cc1 : wd0.cell? ⟨q2, 1, none⟩ = some (.int .i64 0) := (blk_cell HZ2.out 1).trans rfl
      have cc2 : wd0.cell? ⟨q2, 2, none⟩ = some (.int .i64 0) := (blk_cell HZ2.out 2).trans rfl
      have cc3 : wd0.cell? ⟨q2, 3, none⟩ = some (.int .i64 0) := (blk_cell HZ2.out 3).trans rfl
      have cc4 : wd0.cell? ⟨q2, 4, none⟩ = some (.string ⟨#[]⟩) := (blk_cell HZ2.out 4).trans rfl
      have fb0 := blk_frozen HZ0.out 0
      have fc0 := blk_frozen HZ2.out 0
      have fb1 := blk_frozen HZ0.out 1
      have fc1 := blk_frozen HZ2.out 1
      have fb2 := blk_frozen HZ0.out 2
      have fc2 := blk_frozen HZ2.out 2
      have fb3 := blk_frozen HZ0.out 3
      have fc3 := blk_frozen HZ2.out 3
      have fb4 := blk_frozen HZ0.out 4
      have fc4 := blk_frozen HZ2.out 4
      by_cases ht : 0 ≤ t ∧ t < 1099511627776
      · go_wp2_with fail
        refine (U.lecternref0_Num.calls _ _ _ ((num_is' _).trans (congrArg some (decide_eq_true ht)))).mono ?_
        rintro e w2 ⟨rfl, ⟨m2, rfl⟩⟩
        have HB1 : Aside0 (Below w.heap.size w (wd0.drewN m2)) := ⟨pw_below_drewN HB1.out m2⟩
        have HZ0 := Aside0.mk (blk_drewN HZ0.out m2)
        have HZ1 := Aside0.mk (blk_drewN HZ1.out m2)
        have HZ2 := Aside0.mk (blk_drewN HZ2.out m2)
        clear ca0 cb0 cc0 fb0 fc0 ca1 cb1 cc1 fb1 fc1 ca2 cb2 cc2 fb2 fc2 ca3 cb3 cc3 fb3 fc3 ca4 cb4 cc4 fb4 fc4
        generalize wd0.drewN m2 = wd at *
        have ca0 : wd.cell? ⟨q1, 0, none⟩ = some (.int .i64 o) := (blk_cell HZ1.out 0).trans rfl
        have ca1 : wd.cell? ⟨q1, 1, none⟩ = some (.int .i64 t) := (blk_cell HZ1.out 1).trans rfl
        have ca2 : wd.cell? ⟨q1, 2, none⟩ = some (.int .i64 v) := (blk_cell HZ1.out 2).trans rfl
        have ca3 : wd.cell? ⟨q1, 3, none⟩ = some (.int .i64 ix) := (blk_cell HZ1.out 3).trans rfl
        have ca4 : wd.cell? ⟨q1, 4, none⟩ = some (.string d) := (blk_cell HZ1.out 4).trans rfl
        have cb0 : wd.cell? ⟨q0, 0, none⟩ = some (.int .i64 k1) := (blk_cell HZ0.out 0).trans rfl
        have cb1 : wd.cell? ⟨q0, 1, none⟩ = some (.int .i64 k2) := (blk_cell HZ0.out 1).trans rfl
        have cb2 : wd.cell? ⟨q0, 2, none⟩ = some (.int .i64 k3) := (blk_cell HZ0.out 2).trans rfl
        have cb3 : wd.cell? ⟨q0, 3, none⟩ = some (.int .i64 k4) := (blk_cell HZ0.out 3).trans rfl
        have cb4 : wd.cell? ⟨q0, 4, none⟩ = some (.string k5) := (blk_cell HZ0.out 4).trans rfl
        have cc0 : wd.cell? ⟨q2, 0, none⟩ = some (.int .i64 0) := (blk_cell HZ2.out 0).trans rfl
        have cc1 : wd.cell? ⟨q2, 1, none⟩ = some (.int .i64 0) := (blk_cell HZ2.out 1).trans rfl
        have cc2 : wd.cell? ⟨q2, 2, none⟩ = some (.int .i64 0) := (blk_cell HZ2.out 2).trans rfl
        have cc3 : wd.cell? ⟨q2, 3, none⟩ = some (.int .i64 0) := (blk_cell HZ2.out 3).trans rfl
        have cc4 : wd.cell? ⟨q2, 4, none⟩ = some (.string ⟨#[]⟩) := (blk_cell HZ2.out 4).trans rfl
        have fb0 := blk_frozen HZ0.out 0
        have fc0 := blk_frozen HZ2.out 0
        have fb1 := blk_frozen HZ0.out 1
        have fc1 := blk_frozen HZ2.out 1
        have fb2 := blk_frozen HZ0.out 2
        have fc2 := blk_frozen HZ2.out 2
        have fb3 := blk_frozen HZ0.out 3
        have fc3 := blk_frozen HZ2.out 3
        have fb4 := blk_frozen HZ0.out 4
        have fc4 := blk_frozen HZ2.out 4
        have HA : Aside0 (actP vt sn 3 t v ix d = (vt, some (ix, t, d), 0)) := ⟨by unfold actP; rw [if_neg (by decide), if_pos (by decide), if_pos ⟨hi.1, hi.2, ht.1, ht.2⟩]⟩
        have HFIN : Aside0 (keptOf vt (some (ix, t, d)) = ⟨k1, k2, ix, t, d⟩) := ⟨(show keptOf vt (some (ix, t, d)) = { keptOf vt sn with index := ix, last := t, data := d } from rfl).trans (by rw [← HK.out])⟩
        go_wp2_with fail
        go_region
        have HZ0b : Aside0 ((((wd.setCell ⟨q0, 2, none⟩ (.int .i64 ix)).setCell ⟨q0, 3, none⟩ (.int .i64 t)).setCell ⟨q0, 4, none⟩ (.string d)).drew.heap[q0]? = some (.cells #[(.int .i64 k1), (.int .i64 k2), (.int .i64 ix), (.int .i64 t), (.string d)] 70 (0, 0))) := ⟨blk_drew (blk_set (blk_set (blk_set HZ0.out 2 _) 3 _) 4 _)⟩
        have HZ2b : Aside0 ((((wd.setCell ⟨q0, 2, none⟩ (.int .i64 ix)).setCell ⟨q0, 3, none⟩ (.int .i64 t)).setCell ⟨q0, 4, none⟩ (.string d)).drew.heap[q2]? = some (.cells #[.int .i64 0, .int .i64 0, .int .i64 0, .int .i64 0, .string ⟨#[]⟩] 70 (0, 0))) := ⟨blk_drew (blk_far (blk_far (blk_far HZ2.out (p := ⟨q0, 2, none⟩) HQ.out.2.2 _) (p := ⟨q0, 3, none⟩) HQ.out.2.2 _) (p := ⟨q0, 4, none⟩) HQ.out.2.2 _)⟩
        have HBb : Aside0 (Below w.heap.size w (((wd.setCell ⟨q0, 2, none⟩ (.int .i64 ix)).setCell ⟨q0, 3, none⟩ (.int .i64 t)).setCell ⟨q0, 4, none⟩ (.string d)).drew) := ⟨below_drew (below_set (below_set (below_set HB1.out HQ.out.1 2 _) HQ.out.1 3 _) HQ.out.1 4 _)⟩
        clear HZ0 HZ1 HZ2 HB1 ca0 cb0 cc0 fb0 fc0 ca1 cb1 cc1 fb1 fc1 ca2 cb2 cc2 fb2 fc2 ca3 cb3 cc3 fb3 fc3 ca4 cb4 cc4 fb4 fc4
        generalize (((wd.setCell ⟨q0, 2, none⟩ (.int .i64 ix)).setCell ⟨q0, 3, none⟩ (.int .i64 t)).setCell ⟨q0, 4, none⟩ (.string d)).drew = we at *
        have HZ0 := HZ0b
        have HZ2 := HZ2b
        have HB1 := HBb
        clear HZ0b HZ2b HBb
        have cb0 : we.cell? ⟨q0, 0, none⟩ = some (.int .i64 k1) := (blk_cell HZ0.out 0).trans rfl
        have cb1 : we.cell? ⟨q0, 1, none⟩ = some (.int .i64 k2) := (blk_cell HZ0.out 1).trans rfl
        have cb2 : we.cell? ⟨q0, 2, none⟩ = some (.int .i64 ix) := (blk_cell HZ0.out 2).trans rfl
        have cb3 : we.cell? ⟨q0, 3, none⟩ = some (.int .i64 t) := (blk_cell HZ0.out 3).trans rfl
        have cb4 : we.cell? ⟨q0, 4, none⟩ = some (.string d) := (blk_cell HZ0.out 4).trans rfl
        have cc0 : we.cell? ⟨q2, 0, none⟩ = some (.int .i64 0) := (blk_cell HZ2.out 0).trans rfl
        have cc1 : we.cell? ⟨q2, 1, none⟩ = some (.int .i64 0) := (blk_cell HZ2.out 1).trans rfl
        have cc2 : we.cell? ⟨q2, 2, none⟩ = some (.int .i64 0) := (blk_cell HZ2.out 2).trans rfl
        have cc3 : we.cell? ⟨q2, 3, none⟩ = some (.int .i64 0) := (blk_cell HZ2.out 3).trans rfl
        have cc4 : we.cell? ⟨q2, 4, none⟩ = some (.string ⟨#[]⟩) := (blk_cell HZ2.out 4).trans rfl
        have fc0 := blk_frozen HZ2.out 0
        have fc1 := blk_frozen HZ2.out 1
        have fc2 := blk_frozen HZ2.out 2
        have fc3 := blk_frozen HZ2.out 3
        have fc4 := blk_frozen HZ2.out 4
        go_wp2_with fail
        refine bodyPost_ret (results_ct rfl _ _ q2 70 #[(.int .i64 k1), (.int .i64 k2), (.int .i64 ix), (.int .i64 t), (.string d)] (0, 0) _ rfl (blk_set (blk_set (blk_set (blk_set (blk_set HZ2.out 0 _) 1 _) 2 _) 3 _) 4 _) Try.underlying70 rfl (by kernel_rfl)) rfl ?_
        exact ⟨by rw [HA.out, HFIN.out]; rfl, below_set (below_set (below_set (below_set (below_set HB1.out HQ.out.2.1 0 _) HQ.out.2.1 1 _) HQ.out.2.1 2 _) HQ.out.2.1 3 _) HQ.out.2.1 4 _⟩
      · have HA : Aside0 (actP vt sn 3 t v ix d = (vt, sn, 1)) := ⟨by unfold actP; rw [if_neg (by decide), if_pos (by decide), if_neg (fun h => ht ⟨h.2.2.1, h.2.2.2⟩)]⟩
        have HFIN : Aside0 (keptOf vt sn = ⟨k1, k2, k3, k4, k5⟩) := ⟨HK.out.symm⟩
        go_wp2_with fail
        refine (U.lecternref0_Num.calls _ _ _ ((num_is' _).trans (congrArg some (decide_eq_false ht)))).mono ?_
        rintro e w2 ⟨rfl, ⟨m2, rfl⟩⟩
        have HB1 : Aside0 (Below w.heap.size w (wd0.drewN m2)) := ⟨pw_below_drewN HB1.out m2⟩
        have HZ0 := Aside0.mk (blk_drewN HZ0.out m2)
        have HZ1 := Aside0.mk (blk_drewN HZ1.out m2)
        have HZ2 := Aside0.mk (blk_drewN HZ2.out m2)
        clear ca0 cb0 cc0 fb0 fc0 ca1 cb1 cc1 fb1 fc1 ca2 cb2 cc2 fb2 fc2 ca3 cb3 cc3 fb3 fc3 ca4 cb4 cc4 fb4 fc4
        generalize wd0.drewN m2 = wd at *
        have ca0 : wd.cell? ⟨q1, 0, none⟩ = some (.int .i64 o) := (blk_cell HZ1.out 0).trans rfl
        have ca1 : wd.cell? ⟨q1, 1, none⟩ = some (.int .i64 t) := (blk_cell HZ1.out 1).trans rfl
        have ca2 : wd.cell? ⟨q1, 2, none⟩ = some (.int .i64 v) := (blk_cell HZ1.out 2).trans rfl
        have ca3 : wd.cell? ⟨q1, 3, none⟩ = some (.int .i64 ix) := (blk_cell HZ1.out 3).trans rfl
        have ca4 : wd.cell? ⟨q1, 4, none⟩ = some (.string d) := (blk_cell HZ1.out 4).trans rfl
        have cb0 : wd.cell? ⟨q0, 0, none⟩ = some (.int .i64 k1) := (blk_cell HZ0.out 0).trans rfl
        have cb1 : wd.cell? ⟨q0, 1, none⟩ = some (.int .i64 k2) := (blk_cell HZ0.out 1).trans rfl
        have cb2 : wd.cell? ⟨q0, 2, none⟩ = some (.int .i64 k3) := (blk_cell HZ0.out 2).trans rfl
        have cb3 : wd.cell? ⟨q0, 3, none⟩ = some (.int .i64 k4) := (blk_cell HZ0.out 3).trans rfl
        have cb4 : wd.cell? ⟨q0, 4, none⟩ = some (.string k5) := (blk_cell HZ0.out 4).trans rfl
        have cc0 : wd.cell? ⟨q2, 0, none⟩ = some (.int .i64 0) := (blk_cell HZ2.out 0).trans rfl
        have cc1 : wd.cell? ⟨q2, 1, none⟩ = some (.int .i64 0) := (blk_cell HZ2.out 1).trans rfl
        have cc2 : wd.cell? ⟨q2, 2, none⟩ = some (.int .i64 0) := (blk_cell HZ2.out 2).trans rfl
        have cc3 : wd.cell? ⟨q2, 3, none⟩ = some (.int .i64 0) := (blk_cell HZ2.out 3).trans rfl
        have cc4 : wd.cell? ⟨q2, 4, none⟩ = some (.string ⟨#[]⟩) := (blk_cell HZ2.out 4).trans rfl
        have fb0 := blk_frozen HZ0.out 0
        have fc0 := blk_frozen HZ2.out 0
        have fb1 := blk_frozen HZ0.out 1
        have fc1 := blk_frozen HZ2.out 1
        have fb2 := blk_frozen HZ0.out 2
        have fc2 := blk_frozen HZ2.out 2
        have fb3 := blk_frozen HZ0.out 3
        have fc3 := blk_frozen HZ2.out 3
        have fb4 := blk_frozen HZ0.out 4
        have fc4 := blk_frozen HZ2.out 4
        go_wp2_with fail
        refine bodyPost_ret (results_ct rfl _ _ q2 70 #[(.int .i64 k1), (.int .i64 k2), (.int .i64 k3), (.int .i64 k4), (.string k5)] (0, 0) _ rfl (blk_set (blk_set (blk_set (blk_set (blk_set HZ2.out 0 _) 1 _) 2 _) 3 _) 4 _) Try.underlying70 rfl (by kernel_rfl)) rfl ?_
        exact ⟨by rw [HA.out, HFIN.out]; rfl, below_set (below_set (below_set (below_set (below_set HB1.out HQ.out.2.1 0 _) HQ.out.2.1 1 _) HQ.out.2.1 2 _) HQ.out.2.1 3 _) HQ.out.2.1 4 _⟩
    · have HA : Aside0 (actP vt sn 3 t v ix d = (vt, sn, 1)) := ⟨by unfold actP; rw [if_neg (by decide), if_pos (by decide), if_neg (fun h => hi ⟨h.1, h.2.1⟩)]⟩
      have HFIN : Aside0 (keptOf vt sn = ⟨k1, k2, k3, k4, k5⟩) := ⟨HK.out.symm⟩
      go_wp2_with fail
      refine (U.lecternref0_Num.calls _ _ _ ((num_is' _).trans (congrArg some (decide_eq_false hi)))).mono ?_
      rintro e w2 ⟨rfl, ⟨m2, rfl⟩⟩
      have HB1 : Aside0 (Below w.heap.size w (w1.drewN m2)) := ⟨pw_below_drewN HB1.out m2⟩
      have HZ0 := Aside0.mk (blk_drewN HZ0.out m2)
      have HZ1 := Aside0.mk (blk_drewN HZ1.out m2)
      have HZ2 := Aside0.mk (blk_drewN HZ2.out m2)
      clear ca0 cb0 cc0 fb0 fc0 ca1 cb1 cc1 fb1 fc1 ca2 cb2 cc2 fb2 fc2 ca3 cb3 cc3 fb3 fc3 ca4 cb4 cc4 fb4 fc4
      generalize w1.drewN m2 = wd at *
      have ca0 : wd.cell? ⟨q1, 0, none⟩ = some (.int .i64 o) := (blk_cell HZ1.out 0).trans rfl
      have ca1 : wd.cell? ⟨q1, 1, none⟩ = some (.int .i64 t) := (blk_cell HZ1.out 1).trans rfl
      have ca2 : wd.cell? ⟨q1, 2, none⟩ = some (.int .i64 v) := (blk_cell HZ1.out 2).trans rfl
      have ca3 : wd.cell? ⟨q1, 3, none⟩ = some (.int .i64 ix) := (blk_cell HZ1.out 3).trans rfl
      have ca4 : wd.cell? ⟨q1, 4, none⟩ = some (.string d) := (blk_cell HZ1.out 4).trans rfl
      have cb0 : wd.cell? ⟨q0, 0, none⟩ = some (.int .i64 k1) := (blk_cell HZ0.out 0).trans rfl
      have cb1 : wd.cell? ⟨q0, 1, none⟩ = some (.int .i64 k2) := (blk_cell HZ0.out 1).trans rfl
      have cb2 : wd.cell? ⟨q0, 2, none⟩ = some (.int .i64 k3) := (blk_cell HZ0.out 2).trans rfl
      have cb3 : wd.cell? ⟨q0, 3, none⟩ = some (.int .i64 k4) := (blk_cell HZ0.out 3).trans rfl
      have cb4 : wd.cell? ⟨q0, 4, none⟩ = some (.string k5) := (blk_cell HZ0.out 4).trans rfl
      have cc0 : wd.cell? ⟨q2, 0, none⟩ = some (.int .i64 0) := (blk_cell HZ2.out 0).trans rfl
      have cc1 : wd.cell? ⟨q2, 1, none⟩ = some (.int .i64 0) := (blk_cell HZ2.out 1).trans rfl
      have cc2 : wd.cell? ⟨q2, 2, none⟩ = some (.int .i64 0) := (blk_cell HZ2.out 2).trans rfl
      have cc3 : wd.cell? ⟨q2, 3, none⟩ = some (.int .i64 0) := (blk_cell HZ2.out 3).trans rfl
      have cc4 : wd.cell? ⟨q2, 4, none⟩ = some (.string ⟨#[]⟩) := (blk_cell HZ2.out 4).trans rfl
      have fb0 := blk_frozen HZ0.out 0
      have fc0 := blk_frozen HZ2.out 0
      have fb1 := blk_frozen HZ0.out 1
      have fc1 := blk_frozen HZ2.out 1
      have fb2 := blk_frozen HZ0.out 2
      have fc2 := blk_frozen HZ2.out 2
      have fb3 := blk_frozen HZ0.out 3
      have fc3 := blk_frozen HZ2.out 3
      have fb4 := blk_frozen HZ0.out 4
      have fc4 := blk_frozen HZ2.out 4
      go_wp2_with fail
      refine bodyPost_ret (results_ct rfl _ _ q2 70 #[(.int .i64 k1), (.int .i64 k2), (.int .i64 k3), (.int .i64 k4), (.string k5)] (0, 0) _ rfl (blk_set (blk_set (blk_set (blk_set (blk_set HZ2.out 0 _) 1 _) 2 _) 3 _) 4 _) Try.underlying70 rfl (by kernel_rfl)) rfl ?_
      exact ⟨by rw [HA.out, HFIN.out]; rfl, below_set (below_set (below_set (below_set (below_set HB1.out HQ.out.2.1 0 _) HQ.out.2.1 1 _) HQ.out.2.1 2 _) HQ.out.2.1 3 _) HQ.out.2.1 4 _⟩
  · by_cases hi : 0 ≤ ix ∧ ix < 1099511627776
    · go_wp2_with fail
      refine (U.lecternref0_Num.calls _ _ _ ((num_is' _).trans (congrArg some (decide_eq_true hi)))).mono ?_
      rintro e w2 ⟨rfl, ⟨m2, rfl⟩⟩
      have HB1 : Aside0 (Below w.heap.size w (w1.drewN m2)) := ⟨pw_below_drewN HB1.out m2⟩
      have HZ0 := Aside0.mk (blk_drewN HZ0.out m2)
      have HZ1 := Aside0.mk (blk_drewN HZ1.out m2)
      have HZ2 := Aside0.mk (blk_drewN HZ2.out m2)
      clear ca0 cb0 cc0 fb0 fc0 ca1 cb1 cc1 fb1 fc1 ca2 cb2 cc2 fb2 fc2 ca3 cb3 cc3 fb3 fc3 ca4 cb4 cc4 fb4 fc4
      generalize w1.drewN m2 = wd0 at *
      have ca0 : wd0.cell? ⟨q1, 0, none⟩ = some (.int .i64 o) := (blk_cell HZ1.out 0).trans rfl
      have ca1 : wd0.cell? ⟨q1, 1, none⟩ = some (.int .i64 t) := (blk_cell HZ1.out 1).trans rfl
      have ca2 : wd0.cell? ⟨q1, 2, none⟩ = some (.int .i64 v) := (blk_cell HZ1.out 2).trans rfl
      have ca3 : wd0.cell? ⟨q1, 3, none⟩ = some (.int .i64 ix) := (blk_cell HZ1.out 3).trans rfl
      have ca4 : wd0.cell? ⟨q1, 4, none⟩ = some (.string d) := (blk_cell HZ1.out 4).trans rfl
      have cb0 : wd0.cell? ⟨q0, 0, none⟩ = some (.int .i64 k1) := (blk_cell HZ0.out 0).trans rfl
      have cb1 : wd0.cell? ⟨q0, 1, none⟩ = some (.int .i64 k2) := (blk_cell HZ0.out 1).trans rfl
      have cb2 : wd0.cell? ⟨q0, 2, none⟩ = some (.int .i64 k3) := (blk_cell HZ0.out 2).trans rfl
      have cb3 : wd0.cell? ⟨q0, 3, none⟩ = some (.int .i64 k4) := (blk_cell HZ0.out 3).trans rfl
      have cb4 : wd0.cell? ⟨q0, 4, none⟩ = some (.string k5) := (blk_cell HZ0.out 4).trans rfl
      have cc0 : wd0.cell? ⟨q2, 0, none⟩ = some (.int .i64 0) := (blk_cell HZ2.out 0).trans rfl
      have cc1 : wd0.cell? ⟨q2, 1, none⟩ = some (.int .i64 0) := (blk_cell HZ2.out 1).trans rfl
      have cc2 : wd0.cell? ⟨q2, 2, none⟩ = some (.int .i64 0) := (blk_cell HZ2.out 2).trans rfl
      have cc3 : wd0.cell? ⟨q2, 3, none⟩ = some (.int .i64 0) := (blk_cell HZ2.out 3).trans rfl
      have cc4 : wd0.cell? ⟨q2, 4, none⟩ = some (.string ⟨#[]⟩) := (blk_cell HZ2.out 4).trans rfl
      have fb0 := blk_frozen HZ0.out 0
      have fc0 := blk_frozen HZ2.out 0
      have fb1 := blk_frozen HZ0.out 1
      have fc1 := blk_frozen HZ2.out 1
      have fb2 := blk_frozen HZ0.out 2
      have fc2 := blk_frozen HZ2.out 2
      have fb3 := blk_frozen HZ0.out 3
      have fc3 := blk_frozen HZ2.out 3
      have fb4 := blk_frozen HZ0.out 4
      have fc4 := blk_frozen HZ2.out 4
      by_cases ht : 0 ≤ t ∧ t < 1099511627776
      · go_wp2_with fail
        refine (U.lecternref0_Num.calls _ _ _ ((num_is' _).trans (congrArg some (decide_eq_true ht)))).mono ?_
        rintro e w2 ⟨rfl, ⟨m2, rfl⟩⟩
        have HB1 : Aside0 (Below w.heap.size w (wd0.drewN m2)) := ⟨pw_below_drewN HB1.out m2⟩
        have HZ0 := Aside0.mk (blk_drewN HZ0.out m2)
        have HZ1 := Aside0.mk (blk_drewN HZ1.out m2)
        have HZ2 := Aside0.mk (blk_drewN HZ2.out m2)
        clear ca0 cb0 cc0 fb0 fc0 ca1 cb1 cc1 fb1 fc1 ca2 cb2 cc2 fb2 fc2 ca3 cb3 cc3 fb3 fc3 ca4 cb4 cc4 fb4 fc4
        generalize wd0.drewN m2 = wd at *
        have ca0 : wd.cell? ⟨q1, 0, none⟩ = some (.int .i64 o) := (blk_cell HZ1.out 0).trans rfl
        have ca1 : wd.cell? ⟨q1, 1, none⟩ = some (.int .i64 t) := (blk_cell HZ1.out 1).trans rfl
        have ca2 : wd.cell? ⟨q1, 2, none⟩ = some (.int .i64 v) := (blk_cell HZ1.out 2).trans rfl
        have ca3 : wd.cell? ⟨q1, 3, none⟩ = some (.int .i64 ix) := (blk_cell HZ1.out 3).trans rfl
        have ca4 : wd.cell? ⟨q1, 4, none⟩ = some (.string d) := (blk_cell HZ1.out 4).trans rfl
        have cb0 : wd.cell? ⟨q0, 0, none⟩ = some (.int .i64 k1) := (blk_cell HZ0.out 0).trans rfl
        have cb1 : wd.cell? ⟨q0, 1, none⟩ = some (.int .i64 k2) := (blk_cell HZ0.out 1).trans rfl
        have cb2 : wd.cell? ⟨q0, 2, none⟩ = some (.int .i64 k3) := (blk_cell HZ0.out 2).trans rfl
        have cb3 : wd.cell? ⟨q0, 3, none⟩ = some (.int .i64 k4) := (blk_cell HZ0.out 3).trans rfl
        have cb4 : wd.cell? ⟨q0, 4, none⟩ = some (.string k5) := (blk_cell HZ0.out 4).trans rfl
        have cc0 : wd.cell? ⟨q2, 0, none⟩ = some (.int .i64 0) := (blk_cell HZ2.out 0).trans rfl
        have cc1 : wd.cell? ⟨q2, 1, none⟩ = some (.int .i64 0) := (blk_cell HZ2.out 1).trans rfl
        have cc2 : wd.cell? ⟨q2, 2, none⟩ = some (.int .i64 0) := (blk_cell HZ2.out 2).trans rfl
        have cc3 : wd.cell? ⟨q2, 3, none⟩ = some (.int .i64 0) := (blk_cell HZ2.out 3).trans rfl
        have cc4 : wd.cell? ⟨q2, 4, none⟩ = some (.string ⟨#[]⟩) := (blk_cell HZ2.out 4).trans rfl
        have fb0 := blk_frozen HZ0.out 0
        have fc0 := blk_frozen HZ2.out 0
        have fb1 := blk_frozen HZ0.out 1
        have fc1 := blk_frozen HZ2.out 1
        have fb2 := blk_frozen HZ0.out 2
        have fc2 := blk_frozen HZ2.out 2
        have fb3 := blk_frozen HZ0.out 3
        have fc3 := blk_frozen HZ2.out 3
        have fb4 := blk_frozen HZ0.out 4
        have fc4 := blk_frozen HZ2.out 4
        have HA : Aside0 (actP vt sn 4 t v ix d = (vt, some (ix, t, d), 0)) := ⟨by unfold actP; rw [if_neg (by decide), if_pos (by decide), if_pos ⟨hi.1, hi.2, ht.1, ht.2⟩]⟩
        have HFIN : Aside0 (keptOf vt (some (ix, t, d)) = ⟨k1, k2, ix, t, d⟩) := ⟨(show keptOf vt (some (ix, t, d)) = { keptOf vt sn with index := ix, last := t, data := d } from rfl).trans (by rw [← HK.out])⟩
        go_wp2_with fail
        go_region
        have HZ0b : Aside0 ((((wd.setCell ⟨q0, 2, none⟩ (.int .i64 ix)).setCell ⟨q0, 3, none⟩ (.int .i64 t)).setCell ⟨q0, 4, none⟩ (.string d)).drew.heap[q0]? = some (.cells #[(.int .i64 k1), (.int .i64 k2), (.int .i64 ix), (.int .i64 t), (.string d)] 70 (0, 0))) := ⟨blk_drew (blk_set (blk_set (blk_set HZ0.out 2 _) 3 _) 4 _)⟩
        have HZ2b : Aside0 ((((wd.setCell ⟨q0, 2, none⟩ (.int .i64 ix)).setCell ⟨q0, 3, none⟩ (.int .i64 t)).setCell ⟨q0, 4, none⟩ (.string d)).drew.heap[q2]? = some (.cells #[.int .i64 0, .int .i64 0, .int .i64 0, .int .i64 0, .string ⟨#[]⟩] 70 (0, 0))) := ⟨blk_drew (blk_far (blk_far (blk_far HZ2.out (p := ⟨q0, 2, none⟩) HQ.out.2.2 _) (p := ⟨q0, 3, none⟩) HQ.out.2.2 _) (p := ⟨q0, 4, none⟩) HQ.out.2.2 _)⟩
        have HBb : Aside0 (Below w.heap.size w (((wd.setCell ⟨q0, 2, none⟩ (.int .i64 ix)).setCell ⟨q0, 3, none⟩ (.int .i64 t)).setCell ⟨q0, 4, none⟩ (.string d)).drew) := ⟨below_drew (below_set (below_set (below_set HB1.out HQ.out.1 2 _) HQ.out.1 3 _) HQ.out.1 4 _)⟩
        clear HZ0 HZ1 HZ2 HB1 ca0 cb0 cc0 fb0 fc0 ca1 cb1 cc1 fb1 fc1 ca2 cb2 cc2 fb2 fc2 ca3 cb3 cc3 fb3 fc3 ca4 cb4 cc4 fb4 fc4
        generalize (((wd.setCell ⟨q0, 2, none⟩ (.int .i64 ix)).setCell ⟨q0, 3, none⟩ (.int .i64 t)).setCell ⟨q0, 4, none⟩ (.string d)).drew = we at *
        have HZ0 := HZ0b
        have HZ2 := HZ2b
        have HB1 := HBb
        clear HZ0b HZ2b HBb
        have cb0 : we.cell? ⟨q0, 0, none⟩ = some (.int .i64 k1) := (blk_cell HZ0.out 0).trans rfl
        have cb1 : we.cell? ⟨q0, 1, none⟩ = some (.int .i64 k2) := (blk_cell HZ0.out 1).trans rfl
        have cb2 : we.cell? ⟨q0, 2, none⟩ = some (.int .i64 ix) := (blk_cell HZ0.out 2).trans rfl
        have cb3 : we.cell? ⟨q0, 3, none⟩ = some (.int .i64 t) := (blk_cell HZ0.out 3).trans rfl
        have cb4 : we.cell? ⟨q0, 4, none⟩ = some (.string d) := (blk_cell HZ0.out 4).trans rfl
        have cc0 : we.cell? ⟨q2, 0, none⟩ = some (.int .i64 0) := (blk_cell HZ2.out 0).trans rfl
        have cc1 : we.cell? ⟨q2, 1, none⟩ = some (.int .i64 0) := (blk_cell HZ2.out 1).trans rfl
        have cc2 : we.cell? ⟨q2, 2, none⟩ = some (.int .i64 0) := (blk_cell HZ2.out 2).trans rfl
        have cc3 : we.cell? ⟨q2, 3, none⟩ = some (.int .i64 0) := (blk_cell HZ2.out 3).trans rfl
        have cc4 : we.cell? ⟨q2, 4, none⟩ = some (.string ⟨#[]⟩) := (blk_cell HZ2.out 4).trans rfl
        have fc0 := blk_frozen HZ2.out 0
        have fc1 := blk_frozen HZ2.out 1
        have fc2 := blk_frozen HZ2.out 2
        have fc3 := blk_frozen HZ2.out 3
        have fc4 := blk_frozen HZ2.out 4
        go_wp2_with fail
        refine bodyPost_ret (results_ct rfl _ _ q2 70 #[(.int .i64 k1), (.int .i64 k2), (.int .i64 ix), (.int .i64 t), (.string d)] (0, 0) _ rfl (blk_set (blk_set (blk_set (blk_set (blk_set HZ2.out 0 _) 1 _) 2 _) 3 _) 4 _) Try.underlying70 rfl (by kernel_rfl)) rfl ?_
        exact ⟨by rw [HA.out, HFIN.out]; rfl, below_set (below_set (below_set (below_set (below_set HB1.out HQ.out.2.1 0 _) HQ.out.2.1 1 _) HQ.out.2.1 2 _) HQ.out.2.1 3 _) HQ.out.2.1 4 _⟩
      · have HA : Aside0 (actP vt sn 4 t v ix d = (vt, sn, 1)) := ⟨by unfold actP; rw [if_neg (by decide), if_pos (by decide), if_neg (fun h => ht ⟨h.2.2.1, h.2.2.2⟩)]⟩
        have HFIN : Aside0 (keptOf vt sn = ⟨k1, k2, k3, k4, k5⟩) := ⟨HK.out.symm⟩
        go_wp2_with fail
        refine (U.lecternref0_Num.calls _ _ _ ((num_is' _).trans (congrArg some (decide_eq_false ht)))).mono ?_
        rintro e w2 ⟨rfl, ⟨m2, rfl⟩⟩
        have HB1 : Aside0 (Below w.heap.size w (wd0.drewN m2)) := ⟨pw_below_drewN HB1.out m2⟩
        have HZ0 := Aside0.mk (blk_drewN HZ0.out m2)
        have HZ1 := Aside0.mk (blk_drewN HZ1.out m2)
        have HZ2 := Aside0.mk (blk_drewN HZ2.out m2)
        clear ca0 cb0 cc0 fb0 fc0 ca1 cb1 cc1 fb1 fc1 ca2 cb2 cc2 fb2 fc2 ca3 cb3 cc3 fb3 fc3 ca4 cb4 cc4 fb4 fc4
        generalize wd0.drewN m2 = wd at *
        have ca0 : wd.cell? ⟨q1, 0, none⟩ = some (.int .i64 o) := (blk_cell HZ1.out 0).trans rfl
        have ca1 : wd.cell? ⟨q1, 1, none⟩ = some (.int .i64 t) := (blk_cell HZ1.out 1).trans rfl
        have ca2 : wd.cell? ⟨q1, 2, none⟩ = some (.int .i64 v) := (blk_cell HZ1.out 2).trans rfl
        have ca3 : wd.cell? ⟨q1, 3, none⟩ = some (.int .i64 ix) := (blk_cell HZ1.out 3).trans rfl
        have ca4 : wd.cell? ⟨q1, 4, none⟩ = some (.string d) := (blk_cell HZ1.out 4).trans rfl
        have cb0 : wd.cell? ⟨q0, 0, none⟩ = some (.int .i64 k1) := (blk_cell HZ0.out 0).trans rfl
        have cb1 : wd.cell? ⟨q0, 1, none⟩ = some (.int .i64 k2) := (blk_cell HZ0.out 1).trans rfl
        have cb2 : wd.cell? ⟨q0, 2, none⟩ = some (.int .i64 k3) := (blk_cell HZ0.out 2).trans rfl
        have cb3 : wd.cell? ⟨q0, 3, none⟩ = some (.int .i64 k4) := (blk_cell HZ0.out 3).trans rfl
        have cb4 : wd.cell? ⟨q0, 4, none⟩ = some (.string k5) := (blk_cell HZ0.out 4).trans rfl
        have cc0 : wd.cell? ⟨q2, 0, none⟩ = some (.int .i64 0) := (blk_cell HZ2.out 0).trans rfl
        have cc1 : wd.cell? ⟨q2, 1, none⟩ = some (.int .i64 0) := (blk_cell HZ2.out 1).trans rfl
        have cc2 : wd.cell? ⟨q2, 2, none⟩ = some (.int .i64 0) := (blk_cell HZ2.out 2).trans rfl
        have cc3 : wd.cell? ⟨q2, 3, none⟩ = some (.int .i64 0) := (blk_cell HZ2.out 3).trans rfl
        have cc4 : wd.cell? ⟨q2, 4, none⟩ = some (.string ⟨#[]⟩) := (blk_cell HZ2.out 4).trans rfl
        have fb0 := blk_frozen HZ0.out 0
        have fc0 := blk_frozen HZ2.out 0
        have fb1 := blk_frozen HZ0.out 1
        have fc1 := blk_frozen HZ2.out 1
        have fb2 := blk_frozen HZ0.out 2
        have fc2 := blk_frozen HZ2.out 2
        have fb3 := blk_frozen HZ0.out 3
        have fc3 := blk_frozen HZ2.out 3
        have fb4 := blk_frozen HZ0.out 4
        have fc4 := blk_frozen HZ2.out 4
        go_wp2_with fail
        refine bodyPost_ret (results_ct rfl _ _ q2 70 #[(.int .i64 k1), (.int .i64 k2), (.int .i64 k3), (.int .i64 k4), (.string k5)] (0, 0) _ rfl (blk_set (blk_set (blk_set (blk_set (blk_set HZ2.out 0 _) 1 _) 2 _) 3 _) 4 _) Try.underlying70 rfl (by kernel_rfl)) rfl ?_
        exact ⟨by rw [HA.out, HFIN.out]; rfl, below_set (below_set (below_set (below_set (below_set HB1.out HQ.out.2.1 0 _) HQ.out.2.1 1 _) HQ.out.2.1 2 _) HQ.out.2.1 3 _) HQ.out.2.1 4 _⟩
    · have HA : Aside0 (actP vt sn 4 t v ix d = (vt, sn, 1)) := ⟨by unfold actP; rw [if_neg (by decide), if_pos (by decide), if_neg (fun h => hi ⟨h.1, h.2.1⟩)]⟩
      have HFIN : Aside0 (keptOf vt sn = ⟨k1, k2, k3, k4, k5⟩) := ⟨HK.out.symm⟩
      go_wp2_with fail
      refine (U.lecternref0_Num.calls _ _ _ ((num_is' _).trans (congrArg some (decide_eq_false hi)))).mono ?_
      rintro e w2 ⟨rfl, ⟨m2, rfl⟩⟩
      have HB1 : Aside0 (Below w.heap.size w (w1.drewN m2)) := ⟨pw_below_drewN HB1.out m2⟩
      have HZ0 := Aside0.mk (blk_drewN HZ0.out m2)
      have HZ1 := Aside0.mk (blk_drewN HZ1.out m2)
      have HZ2 := Aside0.mk (blk_drewN HZ2.out m2)
      clear ca0 cb0 cc0 fb0 fc0 ca1 cb1 cc1 fb1 fc1 ca2 cb2 cc2 fb2 fc2 ca3 cb3 cc3 fb3 fc3 ca4 cb4 cc4 fb4 fc4
      generalize w1.drewN m2 = wd at *
      have ca0 : wd.cell? ⟨q1, 0, none⟩ = some (.int .i64 o) := (blk_cell HZ1.out 0).trans rfl
      have ca1 : wd.cell? ⟨q1, 1, none⟩ = some (.int .i64 t) := (blk_cell HZ1.out 1).trans rfl
      have ca2 : wd.cell? ⟨q1, 2, none⟩ = some (.int .i64 v) := (blk_cell HZ1.out 2).trans rfl
      have ca3 : wd.cell? ⟨q1, 3, none⟩ = some (.int .i64 ix) := (blk_cell HZ1.out 3).trans rfl
      have ca4 : wd.cell? ⟨q1, 4, none⟩ = some (.string d) := (blk_cell HZ1.out 4).trans rfl
      have cb0 : wd.cell? ⟨q0, 0, none⟩ = some (.int .i64 k1) := (blk_cell HZ0.out 0).trans rfl
      have cb1 : wd.cell? ⟨q0, 1, none⟩ = some (.int .i64 k2) := (blk_cell HZ0.out 1).trans rfl
      have cb2 : wd.cell? ⟨q0, 2, none⟩ = some (.int .i64 k3) := (blk_cell HZ0.out 2).trans rfl
      have cb3 : wd.cell? ⟨q0, 3, none⟩ = some (.int .i64 k4) := (blk_cell HZ0.out 3).trans rfl
      have cb4 : wd.cell? ⟨q0, 4, none⟩ = some (.string k5) := (blk_cell HZ0.out 4).trans rfl
      have cc0 : wd.cell? ⟨q2, 0, none⟩ = some (.int .i64 0) := (blk_cell HZ2.out 0).trans rfl
      have cc1 : wd.cell? ⟨q2, 1, none⟩ = some (.int .i64 0) := (blk_cell HZ2.out 1).trans rfl
      have cc2 : wd.cell? ⟨q2, 2, none⟩ = some (.int .i64 0) := (blk_cell HZ2.out 2).trans rfl
      have cc3 : wd.cell? ⟨q2, 3, none⟩ = some (.int .i64 0) := (blk_cell HZ2.out 3).trans rfl
      have cc4 : wd.cell? ⟨q2, 4, none⟩ = some (.string ⟨#[]⟩) := (blk_cell HZ2.out 4).trans rfl
      have fb0 := blk_frozen HZ0.out 0
      have fc0 := blk_frozen HZ2.out 0
      have fb1 := blk_frozen HZ0.out 1
      have fc1 := blk_frozen HZ2.out 1
      have fb2 := blk_frozen HZ0.out 2
      have fc2 := blk_frozen HZ2.out 2
      have fb3 := blk_frozen HZ0.out 3
      have fc3 := blk_frozen HZ2.out 3
      have fb4 := blk_frozen HZ0.out 4
      have fc4 := blk_frozen HZ2.out 4
      go_wp2_with fail
      refine bodyPost_ret (results_ct rfl _ _ q2 70 #[(.int .i64 k1), (.int .i64 k2), (.int .i64 k3), (.int .i64 k4), (.string k5)] (0, 0) _ rfl (blk_set (blk_set (blk_set (blk_set (blk_set HZ2.out 0 _) 1 _) 2 _) 3 _) 4 _) Try.underlying70 rfl (by kernel_rfl)) rfl ?_
      exact ⟨by rw [HA.out, HFIN.out]; rfl, below_set (below_set (below_set (below_set (below_set HB1.out HQ.out.2.1 0 _) HQ.out.2.1 1 _) HQ.out.2.1 2 _) HQ.out.2.1 3 _) HQ.out.2.1 4 _⟩
  · have HA : Aside0 (actP vt sn 5 t v ix d = (vt, sn, 0)) := ⟨by unfold actP; rw [if_neg (by decide), if_neg (by decide)]⟩
    have HFIN : Aside0 (keptOf vt sn = ⟨k1, k2, k3, k4, k5⟩) := ⟨HK.out.symm⟩
    go_wp2_with fail
    refine bodyPost_ret (results_ct rfl _ _ q2 70 #[(.int .i64 k1), (.int .i64 k2), (.int .i64 k3), (.int .i64 k4), (.string k5)] (0, 0) _ rfl (blk_set (blk_set (blk_set (blk_set (blk_set HZ2.out 0 _) 1 _) 2 _) 3 _) 4 _) Try.underlying70 rfl (by kernel_rfl)) rfl ?_
    exact ⟨by rw [HA.out, HFIN.out]; rfl, below_set (below_set (below_set (below_set (below_set HB1.out HQ.out.2.1 0 _) HQ.out.2.1 1 _) HQ.out.2.1 2 _) HQ.out.2.1 3 _) HQ.out.2.1 4 _⟩
end Go.Proofs.Ytoonepmnlgfikaa.D
/-! VMLaw -/
namespace Go.Proofs.Ytoonepmnlgfikaa.D
open Go.ChangeShapes Go.WideShapes Go.RowKit Go.Proofs.YtoonepmnlgfikaaW.PrintWords Go.Proofs.YtoonepmnlgfikaaW.PrintLast Go.Proofs.YtoonepmnlgfikaaW.PrintMore Go.Proofs.Ytoonepmnlgfikaa.Base Go.Proofs.Ytoonepmnlgfikaa.Opening Go.Maps Go.Sort Go.Shelf
set_option linter.unusedVariables false
set_option linter.unusedSimpArgs false
theorem actP_vt {vt : Option (Int × Int)} {sn : Option (Int × Int × ByteArray)} (hv : VtOk vt) (r : Nat) (t v ix : Int) (d : ByteArray) : VtOk (actP vt sn r t v ix d).1 := by
  unfold actP
  repeat' split
  · rename_i h
    exact ⟨fun x e => by cases e; exact ⟨h.1, h.2.1, h.2.2.1, by have := h.2.2.2; show v < 1099511627776; omega⟩⟩
  all_goals exact hv
theorem actP_sn {vt : Option (Int × Int)} {sn : Option (Int × Int × ByteArray)} (hs : SnOk sn) (r : Nat) (t v ix : Int) (d : ByteArray) (hd : d.size ≤ 30000) : SnOk (actP vt sn r t v ix d).2.1 := by
  unfold actP
  split
  · split <;> exact hs
  · split
    · split
      · rename_i h
        exact ⟨fun x e => by cases e; exact ⟨h.1, h.2.1, h.2.2.1, h.2.2.2, hd⟩⟩
      · exact hs
    · exact hs
theorem below_setn {w W : World} (h : Below w.heap.size w W) (j : Nat) (v : Value) : Below w.heap.size w (W.setCell ⟨w.heap.size, j, none⟩ v) := h.setCell (Nat.le_refl _) v
theorem Dsk.grown70 {w : World} {B g b cnt : Nat} {n : Int} {D : DataW Unit} {F : Model} (h : Dsk w B g b cnt n D F) {s : Nat} {c : Array Value} {z : Nat × Nat} (hs : w.heap[s]? = some (.cells c 70 z)) {W : World} (hg : w.grownBy W (some s)) : Dsk W B g b cnt n D F := by
  have hk : ∀ i, i < w.heap.size → i ≠ s → W.heap[i]? = w.heap[i]? := fun i hi hne => hg.block i hi (by simpa using hne)
  have hne : ∀ {i : Nat} {o : Obj}, w.heap[i]? = some o → (∀ c z, o ≠ .cells c 70 z) → i ≠ s := fun {i o} hi ho => by
    rintro rfl
    rw [hs] at hi
    injection hi with hi
    exact ho _ _ hi.symm
  have hrow : ∀ {v : Value} {l : List Int}, Kd.R (Kd.int .u8) 5 w B (fun _ => True) v l → Kd.R (Kd.int .u8) 5 W B (fun _ => True) v l := fun {v l} hr =>
    Kd.R_mono (Kd.R_step (Kd.R_bound hr) (fun k hk2 hl => hk k hl (by
      obtain ⟨q, hq, c, hc⟩ := hk2.2.2.2
      obtain rfl : q = 5 := by
        rcases List.mem_cons.1 hq with h | h
        · exact h
        · cases h
      exact hne hc (fun c z e => by injection e with _ e _; exact absurd e (by decide))))) (fun _ _ => trivial)
  obtain ⟨es, clock, hb, _⟩ := h.files
  exact { h with
    pow := (hk g (blk_lt h.pow) (hne h.pow (fun c z e => by injection e with _ e _; exact absurd e (by decide)))).trans h.pow
    files := Files.of_block h.files (hk b (World.ownsMap.lt h.files) (hne hb (fun c z e => by cases e)))
    some_ := fun nm s1 l1 e => by
      obtain ⟨f, h1, ⟨⟨v0, v1, h3, h4, h5⟩, h6, h7, h8⟩⟩ := h.some_ nm s1 l1 e
      exact ⟨f, h1, ⟨⟨v0, v1, (hk f (blk_lt h3) (hne h3 (fun c z e => by injection e with _ e _; exact absurd e (by decide)))).trans h3, hrow h4, hrow h5⟩, h6, h7, h8⟩⟩ }
/-- What is expected is copied. -/
theorem copy_k {w : World} {B g b cnt q kb : Nat} {n : Int} {D : DataW Unit} {F : Model} {k k0 : Kept} (h : Dsk w B g b cnt n D F) (hs : StoreAt w q g k) (hk : w.heap[kb]? = some (.cells (kCells k0) 70 (0, 0))) (hB : B ≤ kb) (k1 : Kept) :
    (fun W : World => Dsk W B g b cnt n D F ∧ StoreAt W q g k ∧ W.heap[kb]? = some (.cells (kCells k1) 70 (0, 0)) ∧ Below B w W) (((((w.setCell ⟨kb, 0, none⟩ (.int .i64 k1.term)).setCell ⟨kb, 1, none⟩ (.int .i64 k1.vote)).setCell ⟨kb, 2, none⟩ (.int .i64 k1.index)).setCell ⟨kb, 3, none⟩ (.int .i64 k1.last)).setCell ⟨kb, 4, none⟩ (.string k1.data)) := by
  have step : ∀ (W : World) (c : Array Value) (j : Nat) (v : Value), Dsk W B g b cnt n D F → StoreAt W q g k → W.heap[kb]? = some (.cells c 70 (0, 0)) → Below B w W → Dsk (W.setCell ⟨kb, j, none⟩ v) B g b cnt n D F ∧ StoreAt (W.setCell ⟨kb, j, none⟩ v) q g k ∧ (W.setCell ⟨kb, j, none⟩ v).heap[kb]? = some (.cells (c.setIfInBounds j v) 70 (0, 0)) ∧ Below B w (W.setCell ⟨kb, j, none⟩ v) := fun W c j v a1 a2 a3 a4 =>
    ⟨a1.grown70 a3 (grown_set W ⟨kb, j, none⟩ v), (Below.heap_setCell W ⟨kb, j, none⟩ v q (blk_ne a2 a3 (by decide))).trans a2, blk_set a3 j v, a4.setCell hB v⟩
  obtain ⟨a1, a2, a3, a4⟩ := step w _ 0 (.int .i64 k1.term) h hs hk (Below.refl _ _)
  obtain ⟨a1, a2, a3, a4⟩ := step _ _ 1 (.int .i64 k1.vote) a1 a2 a3 a4
  obtain ⟨a1, a2, a3, a4⟩ := step _ _ 2 (.int .i64 k1.index) a1 a2 a3 a4
  obtain ⟨a1, a2, a3, a4⟩ := step _ _ 3 (.int .i64 k1.last) a1 a2 a3 a4
  obtain ⟨a1, a2, a3, a4⟩ := step _ _ 4 (.string k1.data) a1 a2 a3 a4
  exact ⟨a1, a2, a3, a4⟩
/-- Ahead of round i. -/
structure RoundM (w1 W : World) (kb : Nat) (d s : Value) (i : Nat) : Prop where
  ok : ∃ g b cnt n D vt sn q, d = .pointer (some ⟨g, 0, none⟩) ∧ s = .pointer (some ⟨q, 0, none⟩) ∧ Dsk W w1.heap.size g b cnt n D (snapF vt sn) ∧ VtOk vt ∧ SnOk sn ∧ StoreAt W q g (keptOf vt sn) ∧ w1.heap.size ≤ q ∧ W.heap[kb]? = some (.cells (kCells (keptOf vt sn)) 70 (0, 0)) ∧ 0 ≤ n ∧ n ≤ 3 * i ∧ cnt ≤ 16 + 2 * i
  below : Below w1.heap.size w1 W
set_option maxRecDepth 100000 in
set_option maxHeartbeats 6400000 in
theorem model_walk0 (A0 : Option Addr) (c0 : Nat) (l0 : List V.S74) (A1 : Option Addr) (c1 : Nat) (l1 : List Int) (w : World) (hr0 : Kd.C V.k74 w A0 l0.length l0) (hc0 : l0.length ≤ c0) (hr1 : Kd.C (Kd.int .i64) w A1 l1.length l1) (hc1 : l1.length ≤ c1) (hl0 : l0.length ≤ 140737488351232) (hok : ∀ y ∈ l0, ok74 y) :
    Calls Try.prog 6 #[.agg #[.slice A0 l0.length c0, .slice A1 l1.length c1]] w fun e w' => e = .returned (.bool true) ∧ Below w.heap.size w w' := by
  obtain ⟨b, hb⟩ := heavyV_some l0 l1 (by omega)
  have HSM : Aside0 (b = false → ∀ j : Nat, j < l0.length → (V.rd_T74 l0 (j : Int)).f4.size ≤ 30000) := ⟨fun e j hj => by
    subst e
    exact (heavyV_small l0 l1 (by omega) (rd74_ok hok) l0.length _ 0 0 (by omega) (by omega) (by decide) hb).2 j (Nat.zero_le j) hj⟩
  have HB := Aside0.mk hb
  have HR0 := Aside0.mk hr0
  have HC0 := Aside0.mk hc0
  have HR1 := Aside0.mk hr1
  have HC1 := Aside0.mk hc1
  have hu62 := Try.underlying62
  have hu70 := Try.underlying70
  clear hb hr0 hc0 hr1 hc1 hok
  go_enter Try.func6, Try.ntmps6
  go_wp2_with fail
  have hbx := heap_alloc_new w (.cells #[.slice A0 l0.length c0, .slice A1 l1.length c1] 62)
  have hbl : Below w.heap.size w (w.alloc (.cells #[.slice A0 l0.length c0, .slice A1 l1.length c1] 62)) := below_alloc (Below.refl _ _) _
  have HL := Aside0.mk hbl
  clear hbl
  generalize w.alloc (.cells #[.slice A0 l0.length c0, .slice A1 l1.length c1] 62) = w0 at *
  refine (V.lecternlaw20_heavy.calls (l0.length + 1) A0 c0 l0 A1 c1 l1 b _ (Kd.C_below HR0.out HL.out) HC0.out (Kd.C_below HR1.out HL.out) HC1.out HB.out).mono ?_
  rintro e w1 ⟨rfl, hbel⟩
  have hbx1 := (hbel.block _ (blk_lt hbx)).trans hbx
  have HBX := Aside0.mk hbx1
  have HP1 : Aside0 (w.heap.size < w1.heap.size) := ⟨blk_lt hbx1⟩
  have HR0' : Aside0 (Kd.C V.k74 w1 A0 l0.length l0) := ⟨Kd.C_below (Kd.C_below HR0.out HL.out) hbel⟩
  have HL1 : Aside0 (Below w.heap.size w w1) := ⟨below_step HL.out hbel⟩
  clear hbel hbx hbx1 HR0 HC0 HR1 HL HB
  cases b with
  | true =>
    go_wp2_with fail
    go_ret
    exact ⟨rfl, HL1.out⟩
  | false =>
    have HSM2 := Aside0.mk (HSM.out rfl)
    have hbb : (false = true) = False := by simp
    go_wp2_with fail
    refine (disk27_calls w1).mono ?_
    rintro e w2 ⟨g, b, rfl, hD2, hb2⟩
    have HD2 := Aside0.mk hD2
    have HB2 := Aside0.mk hb2
    clear hD2 hb2
    go_wp2_with fail
    refine (open_calls HD2.out ⟨fun x e => by cases e⟩ ⟨fun x e => by cases e⟩).mono ?_
    rintro e w3 ⟨s, rfl, hs3, hD3, hst3, hb3⟩
    have HD3 := Aside0.mk hD3
    have HS3 := Aside0.mk hst3
    have HSW : Aside0 (w1.heap.size ≤ s) := ⟨by have := HB2.out.size; omega⟩
    have HB3 := Aside0.mk (below_step HB2.out hb3)
    clear hs3 hD3 hst3 hb3 HD2 HB2
    go_wp2_with fail
    refine (V.lecternlaw20_num.calls _ _ _ rfl).mono ?_
    rintro e w' ⟨rfl, ⟨n3, rfl⟩⟩
    go_wp2_with fail
    refine (same_calls s g (keptOf none none) _ (show StoreAt (w3.drewN n3) s g _ from HS3.out)).mono ?_
    rintro e w4 ⟨rfl, hb4⟩
    have HB4 : Aside0 (Below w1.heap.size w1 w4) := ⟨below_step (pw_below_drewN HB3.out n3) hb4⟩
    have HD4 := Aside0.mk ((HD3.out.drewN n3).below hb4)
    have HS4 : Aside0 (StoreAt w4 s g (keptOf none none)) := ⟨(hb4.block s (blk_lt (show (w3.drewN n3).heap[s]? = _ from HS3.out))).trans HS3.out⟩
    clear hb4 HD3 HS3 HB3
    go_wp2_with fail
    have hkb := heap_alloc_new w4 (.cells #[.int .i64 0, .int .i64 0, .int .i64 0, .int .i64 0, .string ⟨#[]⟩] 70)
    have hbk : Below w4.heap.size w4 (w4.alloc (.cells #[.int .i64 0, .int .i64 0, .int .i64 0, .int .i64 0, .string ⟨#[]⟩] 70)) := below_alloc (Below.refl _ _) _
    have HRM : Aside0 (RoundM w1 (w4.alloc (.cells #[.int .i64 0, .int .i64 0, .int .i64 0, .int .i64 0, .string ⟨#[]⟩] 70)) w4.heap.size (.pointer (some ⟨g, 0, none⟩)) (.pointer (some ⟨s, 0, none⟩)) 0) := ⟨⟨⟨g, b, 0, 0, _, none, none, s, rfl, rfl, HD4.out.below hbk, ⟨fun x e => by cases e⟩, ⟨fun x e => by cases e⟩, blk_alloc HS4.out _, HSW.out, hkb, by decide, by decide, by decide⟩, below_step HB4.out hbk⟩⟩
    have HKB : Aside0 (w1.heap.size ≤ w4.heap.size) := ⟨HB4.out.size⟩
    obtain ⟨kb, hkbe⟩ : ∃ kb, kb = w4.heap.size := ⟨_, rfl⟩
    rw [← hkbe] at HRM HKB ⊢
    clear hkb hbk hkbe HD4 HS4 HB4 HSW
    generalize w4.alloc (.cells #[.int .i64 0, .int .i64 0, .int .i64 0, .int .i64 0, .string ⟨#[]⟩] 70) = w5 at *
    go_loopg [3, 4, 5, 7, 8, 9] 15 (fun kq v3 v4 v5 v7 v8 v9 w' => ∃ i : Nat, Aside0 (i + kq = 15) ∧ v7 = .int .i64 i ∧ Aside0 (RoundM w1 w' kb v3 v4 i))
    case atStart => exact ⟨0, ⟨rfl⟩, rfl, HRM⟩
    case round =>
      obtain ⟨i, HIK, rfl, HRV⟩ := hrel
      clear HRM
      have x0 : wr.cell? ⟨w.heap.size, 0, none⟩ = some (.slice A0 l0.length c0) := (blk_cell ((HRV.out.below.block _ HP1.out).trans HBX.out) 0).trans rfl
      by_cases hlt : i < l0.length
      · by_cases h15 : i < 15
        · have hd1 : decide (i < l0.length) = true := decide_eq_true hlt
          have hd2 : decide ((i : Int) < 15) = true := decide_eq_true (by omega)
          have HLT := Aside0.mk hlt
          obtain ⟨⟨g, b, cnt, n, D, vt, sn, q, rfl, rfl, hD, hvt, hsn, hst, hq, hk, hn0, hn1, hcn⟩, hbw⟩ := HRV.out
          have HD := Aside0.mk hD
          have HVT := Aside0.mk hvt
          have HSN := Aside0.mk hsn
          have HST := Aside0.mk hst
          have HQ := Aside0.mk hq
          have HKC := Aside0.mk hk
          have HN : Aside0 (0 ≤ n ∧ n ≤ 45 ∧ cnt ≤ 46) := ⟨by omega⟩
          have HN1 : Aside0 (n ≤ 3 * i ∧ cnt ≤ 16 + 2 * i) := ⟨by omega⟩
          have HBW := Aside0.mk hbw
          have HGM : Aside0 (gk - 1 < gk ∧ i + 1 + (gk - 1) = 15) := ⟨by have := HIK.out; omega⟩
          have hw1 : wrap64 ((i : Int) + 1) = ((i + 1 : Nat) : Int) := by rw [wrap64_in _ (by omega) (by omega)]; rfl
          have HI15 : Aside0 (i < 15) := ⟨h15⟩
          obtain ⟨ad, A5, c5, eA, d0, d1, d2, d3, d4, d5, hc5, hC5⟩ := V.at_T74 HR0'.out (i : Int) (by omega) (by omega)
          rw [Int.toNat_natCast] at d0 d1 d2 d3 d4 d5
          have hadb := World.block_lt_of_cell? w1 _ d0
          have hsz := HSM2.out i hlt
          generalize hact : V.rd_T74 l0 (i : Int) = act at *
          obtain ⟨do_, t_, v_, ii_, dt_, ps⟩ := act
          dsimp only at *
          have HC5 := Aside0.mk hC5
          have HK5 := Aside0.mk hc5
          have HSZ := Aside0.mk hsz
          have kc0 : wr.cell? ⟨kb, 0, none⟩ = some (.int .i64 (keptOf vt sn).term) := (blk_cell hk 0).trans rfl
          have kc1 : wr.cell? ⟨kb, 1, none⟩ = some (.int .i64 (keptOf vt sn).vote) := (blk_cell hk 1).trans rfl
          have kc2 : wr.cell? ⟨kb, 2, none⟩ = some (.int .i64 (keptOf vt sn).index) := (blk_cell hk 2).trans rfl
          have kc3 : wr.cell? ⟨kb, 3, none⟩ = some (.int .i64 (keptOf vt sn).last) := (blk_cell hk 3).trans rfl
          have kc4 : wr.cell? ⟨kb, 4, none⟩ = some (.string (keptOf vt sn).data) := (blk_cell hk 4).trans rfl
          have q0 : ((i : Int) < (l0.length : Int)) = True := eq_true (by omega)
          have p0 : ((0 : Int) ≤ (i : Int)) = True := eq_true (by omega)
          have HBX0 := Aside0.mk HBX.out
          rw [eA] at HBX0
          have KQ : Aside0 (∀ W, Below w1.heap.size w1 W → W.cell? ⟨w.heap.size, 0, none⟩ = some (.slice (some ad) l0.length c0) ∧ W.cell? (ad.add (i * 6)) = some (.int .i64 do_) ∧ W.cell? ⟨(ad.add (i * 6)).block, (ad.add (i * 6)).off + 1, none⟩ = some (.int .i64 t_) ∧ W.cell? ⟨(ad.add (i * 6)).block, (ad.add (i * 6)).off + 2, none⟩ = some (.int .i64 v_) ∧ W.cell? ⟨(ad.add (i * 6)).block, (ad.add (i * 6)).off + 3, none⟩ = some (.int .i64 ii_) ∧ W.cell? ⟨(ad.add (i * 6)).block, (ad.add (i * 6)).off + 4, none⟩ = some (.string dt_) ∧ W.cell? ⟨(ad.add (i * 6)).block, (ad.add (i * 6)).off + 5, none⟩ = some (.slice A5 ps.length c5)) := ⟨fun W hb => ⟨(blk_cell ((hb.block _ HP1.out).trans HBX0.out) 0).trans rfl, (hb.cell (World.block_lt_of_cell? w1 _ d0)).trans d0, (hb.cell (World.block_lt_of_cell? w1 _ d1)).trans d1, (hb.cell (World.block_lt_of_cell? w1 _ d2)).trans d2, (hb.cell (World.block_lt_of_cell? w1 _ d3)).trans d3, (hb.cell (World.block_lt_of_cell? w1 _ d4)).trans d4, (hb.cell (World.block_lt_of_cell? w1 _ d5)).trans d5⟩⟩
          obtain ⟨_, e0, e1, e2, e3, e4, e5⟩ := KQ.out wr hbw
          clear hD hvt hsn hst hq hk hn0 hn1 hcn hbw HRV hC5 hc5 hsz hact d0 d1 d2 d3 d4 d5 hadb HBX0
          subst eA
          clear hlt h15
          go_wp2_with fail
          obtain ⟨r, hr6, hr⟩ := within6 do_
          have HR := Aside0.mk hr
          have HR6 := Aside0.mk hr6
          clear hr hr6
          obtain ⟨kx, hkx⟩ : ∃ kx, kx = keptOf (actP vt sn r t_ v_ ii_ dt_).1 (actP vt sn r t_ v_ ii_ dt_).2.1 := ⟨_, rfl⟩
          obtain ⟨bad, hbad⟩ : ∃ bad, bad = (actP vt sn r t_ v_ ii_ dt_).2.2 := ⟨_, rfl⟩
          have HKX := Aside0.mk hkx
          have HBAD := Aside0.mk hbad
          clear hkx hbad
          have H31 : Aside0 (∀ W, Below wr.heap.size wr W → Calls Try.prog 31 #[.agg #[.int .i64 (keptOf vt sn).term, .int .i64 (keptOf vt sn).vote, .int .i64 (keptOf vt sn).index, .int .i64 (keptOf vt sn).last, .string (keptOf vt sn).data], .agg #[.int .i64 do_, .int .i64 t_, .int .i64 v_, .int .i64 ii_, .string dt_, .slice A5 ps.length c5]] W fun e w' => e = .returned (.tuple #[.agg #[.int .i64 kx.term, .int .i64 kx.vote, .int .i64 kx.index, .int .i64 kx.last, .string kx.data], .int .i64 bad]) ∧ Below wr.heap.size wr w' ∧ Below W.heap.size W w') := ⟨fun W hW => by
            refine (next_calls_ vt sn (keptOf vt sn) rfl W do_ t_ v_ ii_ dt_ HSZ.out _ r HR6.out HR.out).mono ?_
            rintro e w' ⟨rfl, hb⟩
            exact ⟨by rw [HKX.out, HBAD.out]; rfl, below_step hW hb, hb⟩⟩
          have KP : Aside0 (∀ W, Below wr.heap.size wr W → W.cell? ⟨kb, 0, none⟩ = some (.int .i64 (keptOf vt sn).term) ∧ W.cell? ⟨kb, 1, none⟩ = some (.int .i64 (keptOf vt sn).vote) ∧ W.cell? ⟨kb, 2, none⟩ = some (.int .i64 (keptOf vt sn).index) ∧ W.cell? ⟨kb, 3, none⟩ = some (.int .i64 (keptOf vt sn).last) ∧ W.cell? ⟨kb, 4, none⟩ = some (.string (keptOf vt sn).data) ∧ W.cell? ⟨w.heap.size, 0, none⟩ = some (.slice (some ad) l0.length c0) ∧ W.cell? (ad.add (i * 6)) = some (.int .i64 do_) ∧ W.cell? ⟨(ad.add (i * 6)).block, (ad.add (i * 6)).off + 1, none⟩ = some (.int .i64 t_) ∧ W.cell? ⟨(ad.add (i * 6)).block, (ad.add (i * 6)).off + 2, none⟩ = some (.int .i64 v_) ∧ W.cell? ⟨(ad.add (i * 6)).block, (ad.add (i * 6)).off + 3, none⟩ = some (.int .i64 ii_) ∧ W.cell? ⟨(ad.add (i * 6)).block, (ad.add (i * 6)).off + 4, none⟩ = some (.string dt_) ∧ W.cell? ⟨(ad.add (i * 6)).block, (ad.add (i * 6)).off + 5, none⟩ = some (.slice A5 ps.length c5)) := ⟨fun W hb => ⟨(hb.cell (World.block_lt_of_cell? wr _ kc0)).trans kc0, (hb.cell (World.block_lt_of_cell? wr _ kc1)).trans kc1, (hb.cell (World.block_lt_of_cell? wr _ kc2)).trans kc2, (hb.cell (World.block_lt_of_cell? wr _ kc3)).trans kc3, (hb.cell (World.block_lt_of_cell? wr _ kc4)).trans kc4, (hb.cell (World.block_lt_of_cell? wr _ x0)).trans x0, (hb.cell (World.block_lt_of_cell? wr _ e0)).trans e0, (hb.cell (World.block_lt_of_cell? wr _ e1)).trans e1, (hb.cell (World.block_lt_of_cell? wr _ e2)).trans e2, (hb.cell (World.block_lt_of_cell? wr _ e3)).trans e3, (hb.cell (World.block_lt_of_cell? wr _ e4)).trans e4, (hb.cell (World.block_lt_of_cell? wr _ e5)).trans e5⟩⟩
          go_region_held3 (fun w' => w'.cell? ⟨kb, 0, none⟩ = some (.int .i64 (keptOf vt sn).term) ∧ w'.cell? ⟨kb, 1, none⟩ = some (.int .i64 (keptOf vt sn).vote) ∧ w'.cell? ⟨kb, 2, none⟩ = some (.int .i64 (keptOf vt sn).index) ∧ w'.cell? ⟨kb, 3, none⟩ = some (.int .i64 (keptOf vt sn).last) ∧ w'.cell? ⟨kb, 4, none⟩ = some (.string (keptOf vt sn).data) ∧ w'.cell? ⟨w.heap.size, 0, none⟩ = some (.slice (some ad) l0.length c0) ∧ w'.cell? (ad.add (i * 6)) = some (.int .i64 do_) ∧ w'.cell? ⟨(ad.add (i * 6)).block, (ad.add (i * 6)).off + 1, none⟩ = some (.int .i64 t_) ∧ w'.cell? ⟨(ad.add (i * 6)).block, (ad.add (i * 6)).off + 2, none⟩ = some (.int .i64 v_) ∧ w'.cell? ⟨(ad.add (i * 6)).block, (ad.add (i * 6)).off + 3, none⟩ = some (.int .i64 ii_) ∧ w'.cell? ⟨(ad.add (i * 6)).block, (ad.add (i * 6)).off + 4, none⟩ = some (.string dt_) ∧ w'.cell? ⟨(ad.add (i * 6)).block, (ad.add (i * 6)).off + 5, none⟩ = some (.slice A5 ps.length c5))
            (exact KP.out _ (by repeat (first | exact Below.refl _ _ | exact (Aside0.out ‹Aside0 (Below wr.heap.size wr _)›) | apply pw_below_drewN | apply below_drew1 | apply below_alloc | apply below_setn)))
            (first
            | (go_at_call 31; refine (H31.out _ (by repeat (first | exact Below.refl _ _ | apply pw_below_drewN | apply below_drew1 | apply below_alloc))).mono ?_; rintro e w6 ⟨rfl, hb6, hb7⟩; have hz : w6.heap[wr.heap.size]? = some (.cells #[.int .i64 0, .int .i64 0, .int .i64 0, .int .i64 0, .string ⟨#[]⟩] 70 (0, 0)) := (by first | exact blk_below (heap_alloc_new _ (.cells #[.int .i64 0, .int .i64 0, .int .i64 0, .int .i64 0, .string ⟨#[]⟩] 70)) hb7 | exact blk_below (blk_drew (heap_alloc_new _ (.cells #[.int .i64 0, .int .i64 0, .int .i64 0, .int .i64 0, .string ⟨#[]⟩] 70))) hb7 | exact blk_below (blk_drewN (heap_alloc_new _ (.cells #[.int .i64 0, .int .i64 0, .int .i64 0, .int .i64 0, .string ⟨#[]⟩] 70)) _) hb7); have cz0 : w6.cell? ⟨wr.heap.size, 0, none⟩ = some (.int .i64 0) := (blk_cell hz 0).trans rfl; have fz0 : w6.frozen? ⟨wr.heap.size, 0, none⟩ = false := blk_frozen hz 0; have cz1 : w6.cell? ⟨wr.heap.size, 1, none⟩ = some (.int .i64 0) := (blk_cell hz 1).trans rfl; have fz1 : w6.frozen? ⟨wr.heap.size, 1, none⟩ = false := blk_frozen hz 1; have cz2 : w6.cell? ⟨wr.heap.size, 2, none⟩ = some (.int .i64 0) := (blk_cell hz 2).trans rfl; have fz2 : w6.frozen? ⟨wr.heap.size, 2, none⟩ = false := blk_frozen hz 2; have cz3 : w6.cell? ⟨wr.heap.size, 3, none⟩ = some (.int .i64 0) := (blk_cell hz 3).trans rfl; have fz3 : w6.frozen? ⟨wr.heap.size, 3, none⟩ = false := blk_frozen hz 3; have cz4 : w6.cell? ⟨wr.heap.size, 4, none⟩ = some (.string ⟨#[]⟩) := (blk_cell hz 4).trans rfl; have fz4 : w6.frozen? ⟨wr.heap.size, 4, none⟩ = false := blk_frozen hz 4; have HZ := Aside0.mk hz; have HB6 := Aside0.mk hb6; clear hb6 hb7 hz)
            | (go_at_call 31; refine (H31.out _ (by repeat (first | exact Below.refl _ _ | apply pw_below_drewN | apply below_drew1 | apply below_alloc))).mono ?_; rintro e w6 ⟨rfl, hb6, hb7⟩; have HB6 := Aside0.mk hb6; clear hb6 hb7))
          · have hX : (w6.alloc (.cells #[.int .i64 kx.term, .int .i64 kx.vote, .int .i64 kx.index, .int .i64 kx.last, .string kx.data] 70)).heap[w6.heap.size]? = some (.cells (kCells kx) 70 (0, 0)) := heap_alloc_new w6 (.cells #[.int .i64 kx.term, .int .i64 kx.vote, .int .i64 kx.index, .int .i64 kx.last, .string kx.data] 70)
            have HWX : Aside0 (Below wr.heap.size wr (w6.alloc (.cells #[.int .i64 kx.term, .int .i64 kx.vote, .int .i64 kx.index, .int .i64 kx.last, .string kx.data] 70))) := ⟨below_alloc HB6.out _⟩
            obtain ⟨nb, hnb⟩ : ∃ nb, nb = w6.heap.size := ⟨_, rfl⟩
            rw [← hnb] at hX ⊢
            have HX := Aside0.mk hX
            clear hX hnb
            generalize w6.alloc (.cells #[.int .i64 kx.term, .int .i64 kx.vote, .int .i64 kx.index, .int .i64 kx.last, .string kx.data] 70) = wX at *
            have HKW : Aside0 (wX.heap[kb]? = some (.cells (kCells (keptOf vt sn)) 70 (0, 0))) := ⟨blk_below HKC.out HWX.out⟩
            obtain ⟨_, _, _, _, _, z0, z1, z2, z3, z4, z5, z6⟩ := KP.out wX HWX.out
            clear kc0 kc1 kc2 kc3 kc4 x0 e0 e1 e2 e3 e4 e5 H31 KP
            go_wp2_with fail
            refine (does_calls (HD.out.below HWX.out) HN.out.1 (by have := HN.out.2.1; omega) (by have := HN.out.2.2; omega) (blk_below HST.out HWX.out) HQ.out do_ t_ v_ ii_ dt_ HSZ.out (.slice A5 ps.length c5) r HR6.out HR.out).mono ?_
            rintro e w7 ⟨rfl, hst⟩
            rw [← HBAD.out]
            rw [← HKX.out] at hst
            have hbb2 : (bad != bad) = false := by simp
            obtain ⟨⟨n7, cn7, D7, hD7, hn70, hn71, hcn7⟩, hs7, hb7, hkk⟩ := hst
            have hvt7 := actP_vt (sn := sn) HVT.out r t_ v_ ii_ dt_
            have hsn7 := actP_sn (vt := vt) HSN.out r t_ v_ ii_ dt_ HSZ.out
            obtain ⟨vt7, hv7⟩ : ∃ z, z = (actP vt sn r t_ v_ ii_ dt_).1 := ⟨_, rfl⟩
            obtain ⟨sn7, hq7⟩ : ∃ z, z = (actP vt sn r t_ v_ ii_ dt_).2.1 := ⟨_, rfl⟩
            have hkx7 := HKX.out
            rw [← hv7] at hD7 hvt7 hkx7
            rw [← hq7] at hD7 hsn7 hkx7
            have HKX7 := Aside0.mk hkx7
            have HVT7 := Aside0.mk hvt7
            have HSN7 := Aside0.mk hsn7
            have HN7 : Aside0 (0 ≤ n7 ∧ n7 ≤ 3 * ((i + 1 : Nat) : Int) ∧ cn7 ≤ 16 + 2 * (i + 1)) := ⟨by have := HN1.out; refine ⟨hn70, ?_, ?_⟩ <;> omega⟩
            have HB7 : Aside0 (Below w1.heap.size w1 w7) := ⟨(HBW.out.trans (HWX.out.mono HBW.out.size)).trans hb7⟩
            have hx7 := (hkk nb _ HX.out).trans HX.out
            have hk7 := (hkk kb _ HKW.out).trans HKW.out
            have HCK := Aside0.mk (copy_k hD7 hs7 hk7 HKB.out kx)
            have a0 : w7.cell? ⟨nb, 0, none⟩ = some (.int .i64 kx.term) := (blk_cell hx7 0).trans rfl
            have a1 : w7.cell? ⟨nb, 1, none⟩ = some (.int .i64 kx.vote) := (blk_cell hx7 1).trans rfl
            have a2 : w7.cell? ⟨nb, 2, none⟩ = some (.int .i64 kx.index) := (blk_cell hx7 2).trans rfl
            have a3 : w7.cell? ⟨nb, 3, none⟩ = some (.int .i64 kx.last) := (blk_cell hx7 3).trans rfl
            have a4 : w7.cell? ⟨nb, 4, none⟩ = some (.string kx.data) := (blk_cell hx7 4).trans rfl
            have b0 : w7.cell? ⟨kb, 0, none⟩ = some (.int .i64 (keptOf vt sn).term) := (blk_cell hk7 0).trans rfl
            have b1 : w7.cell? ⟨kb, 1, none⟩ = some (.int .i64 (keptOf vt sn).vote) := (blk_cell hk7 1).trans rfl
            have b2 : w7.cell? ⟨kb, 2, none⟩ = some (.int .i64 (keptOf vt sn).index) := (blk_cell hk7 2).trans rfl
            have b3 : w7.cell? ⟨kb, 3, none⟩ = some (.int .i64 (keptOf vt sn).last) := (blk_cell hk7 3).trans rfl
            have b4 : w7.cell? ⟨kb, 4, none⟩ = some (.string (keptOf vt sn).data) := (blk_cell hk7 4).trans rfl
            have c0_ := blk_frozen hk7 0
            have c1_ := blk_frozen hk7 1
            have c2_ := blk_frozen hk7 2
            have c3_ := blk_frozen hk7 3
            have c4_ := blk_frozen hk7 4
            clear hD7 hn70 hn71 hcn7 hs7 hb7 hkk hvt7 hsn7 hv7 hq7 hkx7 hx7 hk7 z0 z1 z2 z3 z4 z5 z6 HKW HX HWX
            go_upto_region 15 with (fail)
            have hck := HCK.out
            generalize (((((w7.setCell ⟨kb, 0, none⟩ (.int .i64 kx.term)).setCell ⟨kb, 1, none⟩ (.int .i64 kx.vote)).setCell ⟨kb, 2, none⟩ (.int .i64 kx.index)).setCell ⟨kb, 3, none⟩ (.int .i64 kx.last)).setCell ⟨kb, 4, none⟩ (.string kx.data)) = w8 at *
            obtain ⟨hD8, hs8, hk8, hb8⟩ := hck
            have HB8 : Aside0 (Below w1.heap.size w1 w8) := ⟨HB7.out.trans hb8⟩
            have HD8 := Aside0.mk hD8
            have HS8 := Aside0.mk hs8
            have HK8 := Aside0.mk hk8
            have y0 : w8.cell? ⟨kb, 0, none⟩ = some (.int .i64 kx.term) := (blk_cell hk8 0).trans rfl
            have y1 : w8.cell? ⟨kb, 1, none⟩ = some (.int .i64 kx.vote) := (blk_cell hk8 1).trans rfl
            have y2 : w8.cell? ⟨kb, 2, none⟩ = some (.int .i64 kx.index) := (blk_cell hk8 2).trans rfl
            have y3 : w8.cell? ⟨kb, 3, none⟩ = some (.int .i64 kx.last) := (blk_cell hk8 3).trans rfl
            have y4 : w8.cell? ⟨kb, 4, none⟩ = some (.string kx.data) := (blk_cell hk8 4).trans rfl
            clear hD8 hs8 hk8 hb8 a0 a1 a2 a3 a4 b0 b1 b2 b3 b4 c0_ c1_ c2_ c3_ c4_ HCK HB7
            go_wp2_with fail
            refine (same_calls q g kx w8 HS8.out).mono ?_
            rintro e w9 ⟨rfl, hb9⟩
            have HB9 : Aside0 (Below w1.heap.size w1 w9) := ⟨below_step HB8.out hb9⟩
            have HD9 : Aside0 (Dsk w9 w1.heap.size g b cn7 n7 D7 (snapF vt7 sn7)) := ⟨HD8.out.below hb9⟩
            have HS9 : Aside0 (StoreAt w9 q g kx) := ⟨blk_below HS8.out hb9⟩
            have HK9 : Aside0 (w9.heap[kb]? = some (.cells (kCells kx) 70 (0, 0))) := ⟨blk_below HK8.out hb9⟩
            obtain ⟨x0, e0, e1, e2, e3, e4, e5⟩ := KQ.out w9 HB9.out
            clear hb9 y0 y1 y2 y3 y4 HB8 HD8 HS8 HK8
            go_wp2_with fail
            refine (lecternlaw0_Within.calls do_ 6 (r : Int) w9 HR.out).mono ?_
            rintro e w' ⟨rfl, ⟨m9, rfl⟩⟩
            by_cases hr5 : r = 5
            · have hr5b : ((r : Int) == 5) = true := beq_iff_eq.mpr (by omega)
              clear hr5
              obtain ⟨x0, e0, e1, e2, e3, e4, e5⟩ := KQ.out (w9.drewN m9) (pw_below_drewN HB9.out m9)
              go_wp2_with fail
              refine (again_calls (HD9.out.drewN m9) HSN7.out A5 c5 ps (Kd.C_below HC5.out (pw_below_drewN HB9.out m9)) HK5.out).mono ?_
              rintro e wa ⟨ga, ba, cna, Da, rfl, hDa, hcna, hba⟩
              have HDa := Aside0.mk hDa
              have HCNa := Aside0.mk hcna
              have HBa : Aside0 (Below w1.heap.size w1 wa) := ⟨below_step (pw_below_drewN HB9.out m9) hba⟩
              have HKa : Aside0 (wa.heap[kb]? = some (.cells (kCells kx) 70 (0, 0))) := ⟨blk_below (show (w9.drewN m9).heap[kb]? = _ from HK9.out) hba⟩
              clear hDa hcna hba x0 e0 e1 e2 e3 e4 e5
              go_wp2_with fail
              refine (open_calls HDa.out HVT7.out HSN7.out).mono ?_
              rintro e wb ⟨sb, rfl, hsb, hDb, hstb, hbb⟩
              rw [← HKX7.out] at hstb
              have HDb := Aside0.mk hDb
              have HSb := Aside0.mk hstb
              have HQb : Aside0 (w1.heap.size ≤ sb) := ⟨by have := HBa.out.size; omega⟩
              have HBb : Aside0 (Below w1.heap.size w1 wb) := ⟨below_step HBa.out hbb⟩
              have HKb : Aside0 (wb.heap[kb]? = some (.cells (kCells kx) 70 (0, 0))) := ⟨blk_below HKa.out hbb⟩
              clear hsb hDb hstb hbb HDa HKa HBa
              go_wp2_with fail
              refine (V.lecternlaw20_num.calls _ _ _ rfl).mono ?_
              rintro e w' ⟨rfl, ⟨mb, rfl⟩⟩
              have hkb2 : (wb.drewN mb).heap[kb]? = some (.cells (kCells kx) 70 (0, 0)) := HKb.out
              have y0 : (wb.drewN mb).cell? ⟨kb, 0, none⟩ = some (.int .i64 kx.term) := (blk_cell hkb2 0).trans rfl
              have y1 : (wb.drewN mb).cell? ⟨kb, 1, none⟩ = some (.int .i64 kx.vote) := (blk_cell hkb2 1).trans rfl
              have y2 : (wb.drewN mb).cell? ⟨kb, 2, none⟩ = some (.int .i64 kx.index) := (blk_cell hkb2 2).trans rfl
              have y3 : (wb.drewN mb).cell? ⟨kb, 3, none⟩ = some (.int .i64 kx.last) := (blk_cell hkb2 3).trans rfl
              have y4 : (wb.drewN mb).cell? ⟨kb, 4, none⟩ = some (.string kx.data) := (blk_cell hkb2 4).trans rfl
              have HDc : Aside0 (Dsk (wb.drewN mb) w1.heap.size ga ba cna 0 Da (snapF vt7 sn7)) := ⟨HDb.out.drewN mb⟩
              have HSc : Aside0 (StoreAt (wb.drewN mb) sb ga kx) := ⟨HSb.out⟩
              have HKc := Aside0.mk hkb2
              have HBc : Aside0 (Below w1.heap.size w1 (wb.drewN mb)) := ⟨pw_below_drewN HBb.out mb⟩
              clear hkb2 HDb HSb HKb HBb
              generalize wb.drewN mb = wc at *
              go_wp2_with fail
              refine (same_calls sb ga kx wc HSc.out).mono ?_
              rintro e wd ⟨rfl, hbd⟩
              have HRN : Aside0 (RoundM w1 wd kb (.pointer (some ⟨ga, 0, none⟩)) (.pointer (some ⟨sb, 0, none⟩)) (i + 1)) := ⟨⟨⟨ga, ba, cna, 0, Da, vt7, sn7, sb, rfl, rfl, HDc.out.below hbd, HVT7.out, HSN7.out, by rw [← HKX7.out]; exact blk_below HSc.out hbd, HQb.out, by rw [← HKX7.out]; exact blk_below HKc.out hbd, by omega, by omega, by have := HCNa.out; omega⟩, below_step HBc.out hbd⟩⟩
              clear hbd HDc HSc HKc HBc y0 y1 y2 y3 y4
              go_wp2_with fail
              go_roundg (gk - 1)
              case measure => exact HGM.out.1
              case rel => exact ⟨i + 1, ⟨HGM.out.2⟩, (by rw [hw1]), HRN⟩
            · have hr5b : ((r : Int) == 5) = false := beq_eq_false_iff_ne.mpr (by omega)
              clear hr5
              have HRN : Aside0 (RoundM w1 (w9.drewN m9) kb (.pointer (some ⟨g, 0, none⟩)) (.pointer (some ⟨q, 0, none⟩)) (i + 1)) := ⟨⟨⟨g, b, cn7, n7, D7, vt7, sn7, q, rfl, rfl, HD9.out.drewN m9, HVT7.out, HSN7.out, by rw [← HKX7.out]; exact HS9.out, HQ.out, by rw [← HKX7.out]; exact HK9.out, HN7.out.1, HN7.out.2.1, HN7.out.2.2⟩, pw_below_drewN HB9.out m9⟩⟩
              go_wp2_with fail
              go_roundg (gk - 1)
              case measure => exact HGM.out.1
              case rel => exact ⟨i + 1, ⟨HGM.out.2⟩, (by rw [hw1]), HRN⟩
          · have hX : (((((w6.setCell ⟨wr.heap.size, 0, none⟩ (.int .i64 kx.term)).setCell ⟨wr.heap.size, 1, none⟩ (.int .i64 kx.vote)).setCell ⟨wr.heap.size, 2, none⟩ (.int .i64 kx.index)).setCell ⟨wr.heap.size, 3, none⟩ (.int .i64 kx.last)).setCell ⟨wr.heap.size, 4, none⟩ (.string kx.data)).heap[wr.heap.size]? = some (.cells (kCells kx) 70 (0, 0)) := blk_set (blk_set (blk_set (blk_set (blk_set HZ.out 0 (.int .i64 kx.term)) 1 (.int .i64 kx.vote)) 2 (.int .i64 kx.index)) 3 (.int .i64 kx.last)) 4 (.string kx.data)
            have HWX : Aside0 (Below wr.heap.size wr (((((w6.setCell ⟨wr.heap.size, 0, none⟩ (.int .i64 kx.term)).setCell ⟨wr.heap.size, 1, none⟩ (.int .i64 kx.vote)).setCell ⟨wr.heap.size, 2, none⟩ (.int .i64 kx.index)).setCell ⟨wr.heap.size, 3, none⟩ (.int .i64 kx.last)).setCell ⟨wr.heap.size, 4, none⟩ (.string kx.data))) := ⟨below_setn (below_setn (below_setn (below_setn (below_setn HB6.out 0 _) 1 _) 2 _) 3 _) 4 _⟩
            obtain ⟨nb, hnb⟩ : ∃ nb, nb = wr.heap.size := ⟨_, rfl⟩
            generalize hwX : (((((w6.setCell ⟨wr.heap.size, 0, none⟩ (.int .i64 kx.term)).setCell ⟨wr.heap.size, 1, none⟩ (.int .i64 kx.vote)).setCell ⟨wr.heap.size, 2, none⟩ (.int .i64 kx.index)).setCell ⟨wr.heap.size, 3, none⟩ (.int .i64 kx.last)).setCell ⟨wr.heap.size, 4, none⟩ (.string kx.data)) = wX at *
            rw [← hnb] at hX ⊢
            have HX := Aside0.mk hX
            clear hX hnb hwX
            have HKW : Aside0 (wX.heap[kb]? = some (.cells (kCells (keptOf vt sn)) 70 (0, 0))) := ⟨blk_below HKC.out HWX.out⟩
            obtain ⟨_, _, _, _, _, z0, z1, z2, z3, z4, z5, z6⟩ := KP.out wX HWX.out
            clear kc0 kc1 kc2 kc3 kc4 x0 e0 e1 e2 e3 e4 e5 H31 KP
            go_wp2_with fail
            refine (does_calls (HD.out.below HWX.out) HN.out.1 (by have := HN.out.2.1; omega) (by have := HN.out.2.2; omega) (blk_below HST.out HWX.out) HQ.out do_ t_ v_ ii_ dt_ HSZ.out (.slice A5 ps.length c5) r HR6.out HR.out).mono ?_
            rintro e w7 ⟨rfl, hst⟩
            rw [← HBAD.out]
            rw [← HKX.out] at hst
            have hbb2 : (bad != bad) = false := by simp
            obtain ⟨⟨n7, cn7, D7, hD7, hn70, hn71, hcn7⟩, hs7, hb7, hkk⟩ := hst
            have hvt7 := actP_vt (sn := sn) HVT.out r t_ v_ ii_ dt_
            have hsn7 := actP_sn (vt := vt) HSN.out r t_ v_ ii_ dt_ HSZ.out
            obtain ⟨vt7, hv7⟩ : ∃ z, z = (actP vt sn r t_ v_ ii_ dt_).1 := ⟨_, rfl⟩
            obtain ⟨sn7, hq7⟩ : ∃ z, z = (actP vt sn r t_ v_ ii_ dt_).2.1 := ⟨_, rfl⟩
            have hkx7 := HKX.out
            rw [← hv7] at hD7 hvt7 hkx7
            rw [← hq7] at hD7 hsn7 hkx7
            have HKX7 := Aside0.mk hkx7
            have HVT7 := Aside0.mk hvt7
            have HSN7 := Aside0.mk hsn7
            have HN7 : Aside0 (0 ≤ n7 ∧ n7 ≤ 3 * ((i + 1 : Nat) : Int) ∧ cn7 ≤ 16 + 2 * (i + 1)) := ⟨by have := HN1.out; refine ⟨hn70, ?_, ?_⟩ <;> omega⟩
            have HB7 : Aside0 (Below w1.heap.size w1 w7) := ⟨(HBW.out.trans (HWX.out.mono HBW.out.size)).trans hb7⟩
            have hx7 := (hkk nb _ HX.out).trans HX.out
            have hk7 := (hkk kb _ HKW.out).trans HKW.out
            have HCK := Aside0.mk (copy_k hD7 hs7 hk7 HKB.out kx)
            have a0 : w7.cell? ⟨nb, 0, none⟩ = some (.int .i64 kx.term) := (blk_cell hx7 0).trans rfl
            have a1 : w7.cell? ⟨nb, 1, none⟩ = some (.int .i64 kx.vote) := (blk_cell hx7 1).trans rfl
            have a2 : w7.cell? ⟨nb, 2, none⟩ = some (.int .i64 kx.index) := (blk_cell hx7 2).trans rfl
            have a3 : w7.cell? ⟨nb, 3, none⟩ = some (.int .i64 kx.last) := (blk_cell hx7 3).trans rfl
            have a4 : w7.cell? ⟨nb, 4, none⟩ = some (.string kx.data) := (blk_cell hx7 4).trans rfl
            have b0 : w7.cell? ⟨kb, 0, none⟩ = some (.int .i64 (keptOf vt sn).term) := (blk_cell hk7 0).trans rfl
            have b1 : w7.cell? ⟨kb, 1, none⟩ = some (.int .i64 (keptOf vt sn).vote) := (blk_cell hk7 1).trans rfl
            have b2 : w7.cell? ⟨kb, 2, none⟩ = some (.int .i64 (keptOf vt sn).index) := (blk_cell hk7 2).trans rfl
            have b3 : w7.cell? ⟨kb, 3, none⟩ = some (.int .i64 (keptOf vt sn).last) := (blk_cell hk7 3).trans rfl
            have b4 : w7.cell? ⟨kb, 4, none⟩ = some (.string (keptOf vt sn).data) := (blk_cell hk7 4).trans rfl
            have c0_ := blk_frozen hk7 0
            have c1_ := blk_frozen hk7 1
            have c2_ := blk_frozen hk7 2
            have c3_ := blk_frozen hk7 3
            have c4_ := blk_frozen hk7 4
            clear hD7 hn70 hn71 hcn7 hs7 hb7 hkk hvt7 hsn7 hv7 hq7 hkx7 hx7 hk7 z0 z1 z2 z3 z4 z5 z6 HKW HX HWX
            go_upto_region 15 with (fail)
            have hck := HCK.out
            generalize (((((w7.setCell ⟨kb, 0, none⟩ (.int .i64 kx.term)).setCell ⟨kb, 1, none⟩ (.int .i64 kx.vote)).setCell ⟨kb, 2, none⟩ (.int .i64 kx.index)).setCell ⟨kb, 3, none⟩ (.int .i64 kx.last)).setCell ⟨kb, 4, none⟩ (.string kx.data)) = w8 at *
            obtain ⟨hD8, hs8, hk8, hb8⟩ := hck
            have HB8 : Aside0 (Below w1.heap.size w1 w8) := ⟨HB7.out.trans hb8⟩
            have HD8 := Aside0.mk hD8
            have HS8 := Aside0.mk hs8
            have HK8 := Aside0.mk hk8
            have y0 : w8.cell? ⟨kb, 0, none⟩ = some (.int .i64 kx.term) := (blk_cell hk8 0).trans rfl
            have y1 : w8.cell? ⟨kb, 1, none⟩ = some (.int .i64 kx.vote) := (blk_cell hk8 1).trans rfl
            have y2 : w8.cell? ⟨kb, 2, none⟩ = some (.int .i64 kx.index) := (blk_cell hk8 2).trans rfl
            have y3 : w8.cell? ⟨kb, 3, none⟩ = some (.int .i64 kx.last) := (blk_cell hk8 3).trans rfl
            have y4 : w8.cell? ⟨kb, 4, none⟩ = some (.string kx.data) := (blk_cell hk8 4).trans rfl
            clear hD8 hs8 hk8 hb8 a0 a1 a2 a3 a4 b0 b1 b2 b3 b4 c0_ c1_ c2_ c3_ c4_ HCK HB7
            go_wp2_with fail
            refine (same_calls q g kx w8 HS8.out).mono ?_
            rintro e w9 ⟨rfl, hb9⟩
            have HB9 : Aside0 (Below w1.heap.size w1 w9) := ⟨below_step HB8.out hb9⟩
            have HD9 : Aside0 (Dsk w9 w1.heap.size g b cn7 n7 D7 (snapF vt7 sn7)) := ⟨HD8.out.below hb9⟩
            have HS9 : Aside0 (StoreAt w9 q g kx) := ⟨blk_below HS8.out hb9⟩
            have HK9 : Aside0 (w9.heap[kb]? = some (.cells (kCells kx) 70 (0, 0))) := ⟨blk_below HK8.out hb9⟩
            obtain ⟨x0, e0, e1, e2, e3, e4, e5⟩ := KQ.out w9 HB9.out
            clear hb9 y0 y1 y2 y3 y4 HB8 HD8 HS8 HK8
            go_wp2_with fail
            refine (lecternlaw0_Within.calls do_ 6 (r : Int) w9 HR.out).mono ?_
            rintro e w' ⟨rfl, ⟨m9, rfl⟩⟩
            by_cases hr5 : r = 5
            · have hr5b : ((r : Int) == 5) = true := beq_iff_eq.mpr (by omega)
              clear hr5
              obtain ⟨x0, e0, e1, e2, e3, e4, e5⟩ := KQ.out (w9.drewN m9) (pw_below_drewN HB9.out m9)
              go_wp2_with fail
              refine (again_calls (HD9.out.drewN m9) HSN7.out A5 c5 ps (Kd.C_below HC5.out (pw_below_drewN HB9.out m9)) HK5.out).mono ?_
              rintro e wa ⟨ga, ba, cna, Da, rfl, hDa, hcna, hba⟩
              have HDa := Aside0.mk hDa
              have HCNa := Aside0.mk hcna
              have HBa : Aside0 (Below w1.heap.size w1 wa) := ⟨below_step (pw_below_drewN HB9.out m9) hba⟩
              have HKa : Aside0 (wa.heap[kb]? = some (.cells (kCells kx) 70 (0, 0))) := ⟨blk_below (show (w9.drewN m9).heap[kb]? = _ from HK9.out) hba⟩
              clear hDa hcna hba x0 e0 e1 e2 e3 e4 e5
              go_wp2_with fail
              refine (open_calls HDa.out HVT7.out HSN7.out).mono ?_
              rintro e wb ⟨sb, rfl, hsb, hDb, hstb, hbb⟩
              rw [← HKX7.out] at hstb
              have HDb := Aside0.mk hDb
              have HSb := Aside0.mk hstb
              have HQb : Aside0 (w1.heap.size ≤ sb) := ⟨by have := HBa.out.size; omega⟩
              have HBb : Aside0 (Below w1.heap.size w1 wb) := ⟨below_step HBa.out hbb⟩
              have HKb : Aside0 (wb.heap[kb]? = some (.cells (kCells kx) 70 (0, 0))) := ⟨blk_below HKa.out hbb⟩
              clear hsb hDb hstb hbb HDa HKa HBa
              go_wp2_with fail
              refine (V.lecternlaw20_num.calls _ _ _ rfl).mono ?_
              rintro e w' ⟨rfl, ⟨mb, rfl⟩⟩
              have hkb2 : (wb.drewN mb).heap[kb]? = some (.cells (kCells kx) 70 (0, 0)) := HKb.out
              have y0 : (wb.drewN mb).cell? ⟨kb, 0, none⟩ = some (.int .i64 kx.term) := (blk_cell hkb2 0).trans rfl
              have y1 : (wb.drewN mb).cell? ⟨kb, 1, none⟩ = some (.int .i64 kx.vote) := (blk_cell hkb2 1).trans rfl
              have y2 : (wb.drewN mb).cell? ⟨kb, 2, none⟩ = some (.int .i64 kx.index) := (blk_cell hkb2 2).trans rfl
              have y3 : (wb.drewN mb).cell? ⟨kb, 3, none⟩ = some (.int .i64 kx.last) := (blk_cell hkb2 3).trans rfl
              have y4 : (wb.drewN mb).cell? ⟨kb, 4, none⟩ = some (.string kx.data) := (blk_cell hkb2 4).trans rfl
              have HDc : Aside0 (Dsk (wb.drewN mb) w1.heap.size ga ba cna 0 Da (snapF vt7 sn7)) := ⟨HDb.out.drewN mb⟩
              have HSc : Aside0 (StoreAt (wb.drewN mb) sb ga kx) := ⟨HSb.out⟩
              have HKc := Aside0.mk hkb2
              have HBc : Aside0 (Below w1.heap.size w1 (wb.drewN mb)) := ⟨pw_below_drewN HBb.out mb⟩
              clear hkb2 HDb HSb HKb HBb
              generalize wb.drewN mb = wc at *
              go_wp2_with fail
              refine (same_calls sb ga kx wc HSc.out).mono ?_
              rintro e wd ⟨rfl, hbd⟩
              have HRN : Aside0 (RoundM w1 wd kb (.pointer (some ⟨ga, 0, none⟩)) (.pointer (some ⟨sb, 0, none⟩)) (i + 1)) := ⟨⟨⟨ga, ba, cna, 0, Da, vt7, sn7, sb, rfl, rfl, HDc.out.below hbd, HVT7.out, HSN7.out, by rw [← HKX7.out]; exact blk_below HSc.out hbd, HQb.out, by rw [← HKX7.out]; exact blk_below HKc.out hbd, by omega, by omega, by have := HCNa.out; omega⟩, below_step HBc.out hbd⟩⟩
              clear hbd HDc HSc HKc HBc y0 y1 y2 y3 y4
              go_wp2_with fail
              go_roundg (gk - 1)
              case measure => exact HGM.out.1
              case rel => exact ⟨i + 1, ⟨HGM.out.2⟩, (by rw [hw1]), HRN⟩
            · have hr5b : ((r : Int) == 5) = false := beq_eq_false_iff_ne.mpr (by omega)
              clear hr5
              have HRN : Aside0 (RoundM w1 (w9.drewN m9) kb (.pointer (some ⟨g, 0, none⟩)) (.pointer (some ⟨q, 0, none⟩)) (i + 1)) := ⟨⟨⟨g, b, cn7, n7, D7, vt7, sn7, q, rfl, rfl, HD9.out.drewN m9, HVT7.out, HSN7.out, by rw [← HKX7.out]; exact HS9.out, HQ.out, by rw [← HKX7.out]; exact HK9.out, HN7.out.1, HN7.out.2.1, HN7.out.2.2⟩, pw_below_drewN HB9.out m9⟩⟩
              go_wp2_with fail
              go_roundg (gk - 1)
              case measure => exact HGM.out.1
              case rel => exact ⟨i + 1, ⟨HGM.out.2⟩, (by rw [hw1]), HRN⟩
        · have hd1 : decide (i < l0.length) = true := decide_eq_true hlt
          have hd2 : decide ((i : Int) < 15) = false := decide_eq_false (by omega)
          go_wp2_with (first
            | (go_at_call 28; refine (open_nil _).mono ?_; rintro e w' ⟨rfl, hon⟩)
            | (go_at_call 29; refine (V.lecternlaw20_num.calls _ _ _ rfl).mono ?_; rintro e w' ⟨rfl, ⟨nz, rfl⟩⟩)
            | (go_at_call 34; refine (wakes34 _).mono ?_; rintro e w' ⟨rfl, hwk⟩))
          go_ret
          exact ⟨rfl, below_step HL1.out (below_step (below_step HRV.out.below (pw_below_drewN hon nz)) (by exact hwk))⟩
      · have hd1 : decide (i < l0.length) = false := decide_eq_false hlt
        go_wp2_with (first
          | (go_at_call 28; refine (open_nil _).mono ?_; rintro e w' ⟨rfl, hon⟩)
          | (go_at_call 29; refine (V.lecternlaw20_num.calls _ _ _ rfl).mono ?_; rintro e w' ⟨rfl, ⟨nz, rfl⟩⟩)
          | (go_at_call 34; refine (wakes34 _).mono ?_; rintro e w' ⟨rfl, hwk⟩))
        go_ret
        exact ⟨rfl, below_step HL1.out (below_step (below_step HRV.out.below (pw_below_drewN hon nz)) (by exact hwk))⟩
theorem model_walk (x : S62) (cs : List Value) (w : World) (hk : k62.K w x cs) (ok : ok62 x) :
    Calls Try.prog 6 #[.agg ⟨cs⟩] w fun e w' => e = .returned (.bool true) ∧ Below w.heap.size w w' := by
  obtain ⟨c0, c1, rfl, ⟨A0, n0, rfl, h0, hC0⟩, ⟨A1, n1, rfl, h1, hC1⟩⟩ := hk
  exact model_walk0 A0 n0 x.f0 A1 n1 x.f1 w hC0 h0 hC1 h1 (by have := ok.1.1; omega) ok.1.2
end Go.Proofs.Ytoonepmnlgfikaa.D
