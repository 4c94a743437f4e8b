/- The reference's Apply of the command that opens a session. -/
import Derived.Test.YtpeldaogdeefeaaGreatMApp
import Derived.Test.YtpeldaogdeefeaaGreatMG4
import Derived.Test.YtpeldaogdeefeaaGreatMx62
import Derived.Test.YtpeldaogdeefeaaGreatMG7
import Derived.Test.YtpeldaogdeefeaaGreatMx67
import Derived.Test.YtpeldaogdeefeaaGreatMSPureA
namespace Go.Proofs.YtpeldaogdeefeaaGreat.M
open Go.Proofs.YtpeldaogdeefeaaGreat.H Go.RowKit Go.Maps Go.Sort Go.Proofs.YtpeldaogdeefeaaGreatW.PrintWords Go.Proofs.YtpeldaogdeefeaaGreatW.PrintLast Go.Proofs.YtpeldaogdeefeaaGreatW.PrintMore Go.Proofs.YtpeldaogdeefeaaGreat.Base
set_option linter.unusedVariables false
set_option linter.unusedSimpArgs false
def RefPost (w : World) (g : Nat) (ix : Int) (l : List S36) (ss : List S140) (e0 n0 : Int) (en : Ending) (w' : World) : Prop := ∃ A1 c1 A2 c2, en = .returned (.tuple #[.agg #[.int .i64 ix, .slice A1 l.length c1, .slice A2 ss.length c2], .agg #[.int .i64 e0, .int .i64 n0, .slice none 0 0]]) ∧ l.length ≤ c1 ∧ (∀ W', Kept w' W' (fun i => i = g) → Kd.C k36 W' A1 l.length l) ∧ ss.length ≤ c2 ∧ (∀ W', Kept w' W' (fun i => i = g) → Kd.C k140 W' A2 ss.length ss) ∧ Below w.heap.size w w'
theorem id96 (a : Int) (w : World) : Calls Tryz.prog 96 #[.int .i64 a] w fun e w' => e = .returned (.bool (numB a 1)) ∧ ∃ n, w' = w.drewN n := (lecternref14_id.calls a _ w (id_f a)).mono (fun e w' h => ⟨h.1, h.2.out⟩)
set_option maxRecDepth 100000 in
set_option maxHeartbeats 1600000 in
theorem ref_no {w : World} {ix : Int} {l : List S36} {ss : List S140} {A1 A2 : Option Addr} {c1 c2 : Nat} (hC1 : Kd.C k36 w A1 l.length l) (hc1 : l.length ≤ c1) (hC2 : Kd.C k140 w A2 ss.length ss) (hc2 : ss.length ≤ c2) {g : Nat} {gc : Array Value} (hgb : w.heap[g]? = some (.cells gc 132 (0, 0))) (hS1 : ∀ W', Kept w W' (fun i => i = g) → Kd.C k36 W' A1 l.length l) (hS2 : ∀ W', Kept w W' (fun i => i = g) → Kd.C k140 W' A2 ss.length ss) (k : Int) (hk : ¬ (ix < k ∧ 1 ≤ k ∧ k < 1099511627776)) :
    Calls Tryz.prog 61 #[.agg #[.int .i64 ix, .slice A1 l.length c1, .slice A2 ss.length c2], .int .i64 k, .agg #[.int .i64 1, .int .i64 0, .int .i64 0, .string ⟨#[]⟩, .string ⟨#[]⟩]] w (RefPost w g ix l ss 1 0) := by
  have HC1 := Aside0.mk hC1
  have HC2 := Aside0.mk hC2
  have HCC := Aside0.mk (And.intro hc1 hc2)
  have HGB := Aside0.mk hgb
  have HSB := Aside0.mk (And.intro hS1 hS2)
  have hu60 := Tryz.underlying60
  have hu70 := Tryz.underlying70
  have hu73 := Tryz.underlying73
  clear hC1 hC2 hc1 hc2 hgb hS1 hS2
  go_enter Tryz.func61, Tryz.ntmps61
  go_upto_region 1 with (fail)
  obtain ⟨s, hse⟩ : ∃ b, b = w.heap.size := ⟨_, rfl⟩
  obtain ⟨p, hpe⟩ : ∃ b, b = w.heap.size + 1 := ⟨_, rfl⟩
  obtain ⟨q, hqe⟩ : ∃ b, b = w.heap.size + 1 + 1 := ⟨_, rfl⟩
  obtain ⟨r, hre⟩ : ∃ b, b = w.heap.size + 1 + 1 + 1 := ⟨_, rfl⟩
  obtain ⟨wa, hwa⟩ : ∃ z, z = w.alloc (.cells #[.int .i64 ix, .slice A1 l.length c1, .slice A2 ss.length c2] 60) := ⟨_, rfl⟩
  obtain ⟨wb, hwb⟩ : ∃ z, z = wa.alloc (.cells #[.int .i64 1, .int .i64 0, .int .i64 0, .string ⟨#[]⟩, .string ⟨#[]⟩] 73) := ⟨_, rfl⟩
  obtain ⟨wc, hwc⟩ : ∃ z, z = wb.alloc (.cells #[.int .i64 0, .slice none 0 0, .slice none 0 0] 60) := ⟨_, rfl⟩
  obtain ⟨w1, hw1⟩ : ∃ z, z = wc.alloc (.cells #[.int .i64 0, .int .i64 0, .slice none 0 0] 70) := ⟨_, rfl⟩
  have hsa : wa.heap.size = w.heap.size + 1 := by rw [hwa]; exact Array.size_push _
  have hsb : wb.heap.size = w.heap.size + 1 + 1 := by rw [hwb, ← hsa]; exact Array.size_push _
  have hsc : wc.heap.size = w.heap.size + 1 + 1 + 1 := by rw [hwc, ← hsb]; exact Array.size_push _
  have h1s : w1.heap[s]? = some (.cells #[.int .i64 ix, .slice A1 l.length c1, .slice A2 ss.length c2] 60 (0, 0)) := by rw [hw1]; refine blk_alloc ?_ _; rw [hwc]; refine blk_alloc ?_ _; rw [hwb]; refine blk_alloc ?_ _; rw [hwa, hse]; exact heap_alloc_new w _
  have h1p : w1.heap[p]? = some (.cells #[.int .i64 1, .int .i64 0, .int .i64 0, .string ⟨#[]⟩, .string ⟨#[]⟩] 73 (0, 0)) := by rw [hw1]; refine blk_alloc ?_ _; rw [hwc]; refine blk_alloc ?_ _; rw [hwb, hpe, ← hsa]; exact heap_alloc_new wa _
  have h1q : w1.heap[q]? = some (.cells #[.int .i64 0, .slice none 0 0, .slice none 0 0] 60 (0, 0)) := by rw [hw1]; refine blk_alloc ?_ _; rw [hwc, hqe, ← hsb]; exact heap_alloc_new wb _
  have h1r : w1.heap[r]? = some (.cells #[.int .i64 0, .int .i64 0, .slice none 0 0] 70 (0, 0)) := by rw [hw1, hre, ← hsc]; exact heap_alloc_new wc _
  have hb1 : Below w.heap.size w w1 := by rw [hw1, hwc, hwb, hwa]; exact below_alloc (below_alloc (below_alloc (below_alloc (Below.refl _ _) _) _) _) _
  try rw [← hre]
  try rw [← hqe]
  try rw [← hpe]
  rw [← hse, ← hwa, ← hwb, ← hwc, ← hw1]
  have HS1 := Aside0.mk h1s
  have HP1 := Aside0.mk h1p
  have HQ1 := Aside0.mk h1q
  have HR1 := Aside0.mk h1r
  have HB1 := Aside0.mk hb1
  have HNE := Aside0.mk (show s = w.heap.size ∧ p = w.heap.size + 1 ∧ q = w.heap.size + 2 ∧ r = w.heap.size + 3 from ⟨hse, hpe, hqe, hre⟩)
  have s0 : w1.cell? ⟨s, 0, none⟩ = some (.int .i64 ix) := (blk_cell h1s 0).trans rfl
  have s1 : w1.cell? ⟨s, 1, none⟩ = some (.slice A1 l.length c1) := (blk_cell h1s 1).trans rfl
  have s2 : w1.cell? ⟨s, 2, none⟩ = some (.slice A2 ss.length c2) := (blk_cell h1s 2).trans rfl
  have q0 : w1.cell? ⟨q, 0, none⟩ = some (.int .i64 0) := (blk_cell h1q 0).trans rfl
  have q1 : w1.cell? ⟨q, 1, none⟩ = some (.slice none 0 0) := (blk_cell h1q 1).trans rfl
  have q2 : w1.cell? ⟨q, 2, none⟩ = some (.slice none 0 0) := (blk_cell h1q 2).trans rfl
  have r0 : w1.cell? ⟨r, 0, none⟩ = some (.int .i64 0) := (blk_cell h1r 0).trans rfl
  have r1 : w1.cell? ⟨r, 1, none⟩ = some (.int .i64 0) := (blk_cell h1r 1).trans rfl
  have r2 : w1.cell? ⟨r, 2, none⟩ = some (.slice none 0 0) := (blk_cell h1r 2).trans rfl
  have fq0 := blk_frozen h1q 0
  have fq1 := blk_frozen h1q 1
  have fq2 := blk_frozen h1q 2
  have fr0 := blk_frozen h1r 0
  have fr1 := blk_frozen h1r 1
  have fr2 := blk_frozen h1r 2
  have n1 : q ≠ r := blk_ne h1q h1r (by decide)
  have n2 : r ≠ q := Ne.symm n1
  clear hse hpe hqe hre hwa hwb hwc hw1 hsa hsb hsc h1s h1p h1q h1r hb1
  by_cases hk1 : ix < k
  · have b1 : decide (k ≤ ix) = false := decide_eq_false (by omega)
    have b2 : numB k 1 = false := decide_eq_false (by omega)
    clear hk hk1
    go_wp2_with fail
    refine (id96 k w1).mono ?_
    rintro e w' ⟨rfl, n, rfl⟩
    rw [b2]
    go_wp2_with fail
    have n1 : q ≠ r := by have := HNE.out; omega
    have n2 : r ≠ q := by have := HNE.out; omega
    have hUq : w.heap.size ≤ q := by have := HNE.out; omega
    have hUr : w.heap.size ≤ r := by have := HNE.out; omega
    have kq0 := blk_drewN HQ1.out n
    have kq1 := blk_put (cs := #[.int .i64 0, .slice none 0 0, .slice none 0 0]) kq0 0 (.int .i64 ix) rfl
    have kq2 := blk_put (cs := #[.int .i64 ix, .slice none 0 0, .slice none 0 0]) kq1 1 (.slice A1 l.length c1) rfl
    have kq3 := blk_put (cs := #[.int .i64 ix, .slice A1 l.length c1, .slice none 0 0]) kq2 2 (.slice A2 ss.length c2) rfl
    have kq4 := blk_far kq3 (p := ⟨r, 0, none⟩) n1 (.int .i64 1)
    have kq5 := blk_far kq4 (p := ⟨r, 1, none⟩) n1 (.int .i64 0)
    have kq6 := blk_far kq5 (p := ⟨r, 2, none⟩) n1 (.slice none 0 0)
    have kr0 := blk_far (blk_far (blk_far (blk_drewN HR1.out n) (p := ⟨q, 0, none⟩) n2 (.int .i64 ix)) (p := ⟨q, 1, none⟩) n2 (.slice A1 l.length c1)) (p := ⟨q, 2, none⟩) n2 (.slice A2 ss.length c2)
    have kr1 := blk_put (cs := #[.int .i64 0, .int .i64 0, .slice none 0 0]) kr0 0 (.int .i64 1) rfl
    have kr2 := blk_put (cs := #[.int .i64 1, .int .i64 0, .slice none 0 0]) kr1 1 (.int .i64 0) rfl
    have kr3 := blk_put (cs := #[.int .i64 1, .int .i64 0, .slice none 0 0]) kr2 2 (.slice none 0 0) rfl
    have hbz := below_set (below_set (below_set (below_set (below_set (below_set (pw_below_drewN HB1.out n) hUq (j := 0) (v := .int .i64 ix)) hUq (j := 1) (v := .slice A1 l.length c1)) hUq (j := 2) (v := .slice A2 ss.length c2)) hUr (j := 0) (v := .int .i64 1)) hUr (j := 1) (v := .int .i64 0)) hUr (j := 2) (v := .slice none 0 0)
    refine bodyPost_ret (results_cc rfl _ _ q r 60 70 #[.int .i64 ix, .slice A1 l.length c1, .slice A2 ss.length c2] #[.int .i64 1, .int .i64 0, .slice none 0 0] (0, 0) (0, 0) _ _ rfl kq6 Tryz.underlying60 rfl (by kernel_rfl) rfl kr3 Tryz.underlying70 rfl (by kernel_rfl)) rfl ?_
    exact ⟨A1, c1, A2, c2, rfl, HCC.out.1, fun X hw => HSB.out.1 X ⟨Nat.le_trans hbz.size hw.1, fun i hi hne => (hw.2 i (Nat.lt_of_lt_of_le hi hbz.size) hne).trans (hbz.block i hi)⟩, HCC.out.2, fun X hw => HSB.out.2 X ⟨Nat.le_trans hbz.size hw.1, fun i hi hne => (hw.2 i (Nat.lt_of_lt_of_le hi hbz.size) hne).trans (hbz.block i hi)⟩, hbz⟩
  · have b1 : decide (k ≤ ix) = true := decide_eq_true (by omega)
    clear hk hk1
    go_wp2_with fail
    have n1 : q ≠ r := by have := HNE.out; omega
    have n2 : r ≠ q := by have := HNE.out; omega
    have hUq : w.heap.size ≤ q := by have := HNE.out; omega
    have hUr : w.heap.size ≤ r := by have := HNE.out; omega
    have kq0 := HQ1.out
    have kq1 := blk_put (cs := #[.int .i64 0, .slice none 0 0, .slice none 0 0]) kq0 0 (.int .i64 ix) rfl
    have kq2 := blk_put (cs := #[.int .i64 ix, .slice none 0 0, .slice none 0 0]) kq1 1 (.slice A1 l.length c1) rfl
    have kq3 := blk_put (cs := #[.int .i64 ix, .slice A1 l.length c1, .slice none 0 0]) kq2 2 (.slice A2 ss.length c2) rfl
    have kq4 := blk_far kq3 (p := ⟨r, 0, none⟩) n1 (.int .i64 1)
    have kq5 := blk_far kq4 (p := ⟨r, 1, none⟩) n1 (.int .i64 0)
    have kq6 := blk_far kq5 (p := ⟨r, 2, none⟩) n1 (.slice none 0 0)
    have kr0 := blk_far (blk_far (blk_far (HR1.out) (p := ⟨q, 0, none⟩) n2 (.int .i64 ix)) (p := ⟨q, 1, none⟩) n2 (.slice A1 l.length c1)) (p := ⟨q, 2, none⟩) n2 (.slice A2 ss.length c2)
    have kr1 := blk_put (cs := #[.int .i64 0, .int .i64 0, .slice none 0 0]) kr0 0 (.int .i64 1) rfl
    have kr2 := blk_put (cs := #[.int .i64 1, .int .i64 0, .slice none 0 0]) kr1 1 (.int .i64 0) rfl
    have kr3 := blk_put (cs := #[.int .i64 1, .int .i64 0, .slice none 0 0]) kr2 2 (.slice none 0 0) rfl
    have hbz := below_set (below_set (below_set (below_set (below_set (below_set (HB1.out) hUq (j := 0) (v := .int .i64 ix)) hUq (j := 1) (v := .slice A1 l.length c1)) hUq (j := 2) (v := .slice A2 ss.length c2)) hUr (j := 0) (v := .int .i64 1)) hUr (j := 1) (v := .int .i64 0)) hUr (j := 2) (v := .slice none 0 0)
    refine bodyPost_ret (results_cc rfl _ _ q r 60 70 #[.int .i64 ix, .slice A1 l.length c1, .slice A2 ss.length c2] #[.int .i64 1, .int .i64 0, .slice none 0 0] (0, 0) (0, 0) _ _ rfl kq6 Tryz.underlying60 rfl (by kernel_rfl) rfl kr3 Tryz.underlying70 rfl (by kernel_rfl)) rfl ?_
    exact ⟨A1, c1, A2, c2, rfl, HCC.out.1, fun X hw => HSB.out.1 X ⟨Nat.le_trans hbz.size hw.1, fun i hi hne => (hw.2 i (Nat.lt_of_lt_of_le hi hbz.size) hne).trans (hbz.block i hi)⟩, HCC.out.2, fun X hw => HSB.out.2 X ⟨Nat.le_trans hbz.size hw.1, fun i hi hne => (hw.2 i (Nat.lt_of_lt_of_le hi hbz.size) hne).trans (hbz.block i hi)⟩, hbz⟩
set_option maxRecDepth 100000 in
set_option maxHeartbeats 1600000 in
theorem ref_form {w : World} {ix : Int} {l : List S36} {ss : List S140} {A1 A2 : Option Addr} {c1 c2 : Nat} (hC1 : Kd.C k36 w A1 l.length l) (hc1 : l.length ≤ c1) (hC2 : Kd.C k140 w A2 ss.length ss) (hc2 : ss.length ≤ c2) {g : Nat} {gc : Array Value} (hgb : w.heap[g]? = some (.cells gc 132 (0, 0))) (hS1 : ∀ W', Kept w W' (fun i => i = g) → Kd.C k36 W' A1 l.length l) (hS2 : ∀ W', Kept w W' (fun i => i = g) → Kd.C k140 W' A2 ss.length ss) (k : Int) (hk : ix < k ∧ 1 ≤ k ∧ k < 1099511627776) (kc : Nat) (l2 : List S36) (s2 : List S140) (hcs : lecternref0_CopyState.f kc ix l ss = some (ix, l2, s2)) (km : Nat) (hmo : lecternref14_MayOpen.f km s2 k = some false) :
    Calls Tryz.prog 61 #[.agg #[.int .i64 ix, .slice A1 l.length c1, .slice A2 ss.length c2], .int .i64 k, .agg #[.int .i64 1, .int .i64 0, .int .i64 0, .string ⟨#[]⟩, .string ⟨#[]⟩]] w (RefPost w g k l2 s2 1 0) := by
  have HC1 := Aside0.mk hC1
  have HC2 := Aside0.mk hC2
  have HCC := Aside0.mk (And.intro hc1 hc2)
  have HGB := Aside0.mk hgb
  have HSB := Aside0.mk (And.intro hS1 hS2)
  have hu60 := Tryz.underlying60
  have hu70 := Tryz.underlying70
  have hu73 := Tryz.underlying73
  clear hC1 hC2 hc1 hc2 hgb hS1 hS2
  go_enter Tryz.func61, Tryz.ntmps61
  go_upto_region 1 with (fail)
  obtain ⟨s, hse⟩ : ∃ b, b = w.heap.size := ⟨_, rfl⟩
  obtain ⟨p, hpe⟩ : ∃ b, b = w.heap.size + 1 := ⟨_, rfl⟩
  obtain ⟨q, hqe⟩ : ∃ b, b = w.heap.size + 1 + 1 := ⟨_, rfl⟩
  obtain ⟨r, hre⟩ : ∃ b, b = w.heap.size + 1 + 1 + 1 := ⟨_, rfl⟩
  obtain ⟨wa, hwa⟩ : ∃ z, z = w.alloc (.cells #[.int .i64 ix, .slice A1 l.length c1, .slice A2 ss.length c2] 60) := ⟨_, rfl⟩
  obtain ⟨wb, hwb⟩ : ∃ z, z = wa.alloc (.cells #[.int .i64 1, .int .i64 0, .int .i64 0, .string ⟨#[]⟩, .string ⟨#[]⟩] 73) := ⟨_, rfl⟩
  obtain ⟨wc, hwc⟩ : ∃ z, z = wb.alloc (.cells #[.int .i64 0, .slice none 0 0, .slice none 0 0] 60) := ⟨_, rfl⟩
  obtain ⟨w1, hw1⟩ : ∃ z, z = wc.alloc (.cells #[.int .i64 0, .int .i64 0, .slice none 0 0] 70) := ⟨_, rfl⟩
  have hsa : wa.heap.size = w.heap.size + 1 := by rw [hwa]; exact Array.size_push _
  have hsb : wb.heap.size = w.heap.size + 1 + 1 := by rw [hwb, ← hsa]; exact Array.size_push _
  have hsc : wc.heap.size = w.heap.size + 1 + 1 + 1 := by rw [hwc, ← hsb]; exact Array.size_push _
  have h1s : w1.heap[s]? = some (.cells #[.int .i64 ix, .slice A1 l.length c1, .slice A2 ss.length c2] 60 (0, 0)) := by rw [hw1]; refine blk_alloc ?_ _; rw [hwc]; refine blk_alloc ?_ _; rw [hwb]; refine blk_alloc ?_ _; rw [hwa, hse]; exact heap_alloc_new w _
  have h1p : w1.heap[p]? = some (.cells #[.int .i64 1, .int .i64 0, .int .i64 0, .string ⟨#[]⟩, .string ⟨#[]⟩] 73 (0, 0)) := by rw [hw1]; refine blk_alloc ?_ _; rw [hwc]; refine blk_alloc ?_ _; rw [hwb, hpe, ← hsa]; exact heap_alloc_new wa _
  have h1q : w1.heap[q]? = some (.cells #[.int .i64 0, .slice none 0 0, .slice none 0 0] 60 (0, 0)) := by rw [hw1]; refine blk_alloc ?_ _; rw [hwc, hqe, ← hsb]; exact heap_alloc_new wb _
  have h1r : w1.heap[r]? = some (.cells #[.int .i64 0, .int .i64 0, .slice none 0 0] 70 (0, 0)) := by rw [hw1, hre, ← hsc]; exact heap_alloc_new wc _
  have hb1 : Below w.heap.size w w1 := by rw [hw1, hwc, hwb, hwa]; exact below_alloc (below_alloc (below_alloc (below_alloc (Below.refl _ _) _) _) _) _
  try rw [← hre]
  try rw [← hqe]
  try rw [← hpe]
  rw [← hse, ← hwa, ← hwb, ← hwc, ← hw1]
  have HS1 := Aside0.mk h1s
  have HP1 := Aside0.mk h1p
  have HQ1 := Aside0.mk h1q
  have HR1 := Aside0.mk h1r
  have HB1 := Aside0.mk hb1
  have HNE := Aside0.mk (show s = w.heap.size ∧ p = w.heap.size + 1 ∧ q = w.heap.size + 2 ∧ r = w.heap.size + 3 from ⟨hse, hpe, hqe, hre⟩)
  have s0 : w1.cell? ⟨s, 0, none⟩ = some (.int .i64 ix) := (blk_cell h1s 0).trans rfl
  have s1 : w1.cell? ⟨s, 1, none⟩ = some (.slice A1 l.length c1) := (blk_cell h1s 1).trans rfl
  have s2 : w1.cell? ⟨s, 2, none⟩ = some (.slice A2 ss.length c2) := (blk_cell h1s 2).trans rfl
  clear hse hpe hqe hre hwa hwb hwc hw1 hsa hsb hsc h1q h1r hb1
  have b1 : decide (k ≤ ix) = false := decide_eq_false (by omega)
  have b2 : numB k 1 = true := decide_eq_true (by omega)
  have HCS := Aside0.mk hcs
  have HMO := Aside0.mk hmo
  have p0 : w1.cell? ⟨p, 0, none⟩ = some (.int .i64 1) := (blk_cell h1p 0).trans rfl
  have p1 : w1.cell? ⟨p, 1, none⟩ = some (.int .i64 0) := (blk_cell h1p 1).trans rfl
  have p2 : w1.cell? ⟨p, 2, none⟩ = some (.int .i64 0) := (blk_cell h1p 2).trans rfl
  have p3 : w1.cell? ⟨p, 3, none⟩ = some (.string ⟨#[]⟩) := (blk_cell h1p 3).trans rfl
  have p4 : w1.cell? ⟨p, 4, none⟩ = some (.string ⟨#[]⟩) := (blk_cell h1p 4).trans rfl
  clear hk hcs hmo h1s h1p
  go_wp2_with fail
  refine (id96 k w1).mono ?_
  rintro e w' ⟨rfl, n, rfl⟩
  rw [b2]
  obtain ⟨w2, hw2⟩ : ∃ z, z = w1.drewN n := ⟨_, rfl⟩
  have HB2 : Aside0 (Below w.heap.size w w2) := ⟨by rw [hw2]; exact pw_below_drewN HB1.out n⟩
  have hb12 : Below w1.heap.size w1 w2 := by rw [hw2]; exact pw_below_drewN (Below.refl _ _) n
  rw [← hw2]
  have HS2 := Aside0.mk (blk_below HS1.out hb12)
  have HP2 := Aside0.mk (blk_below HP1.out hb12)
  have HQ2 := Aside0.mk (blk_below HQ1.out hb12)
  have HR2 := Aside0.mk (blk_below HR1.out hb12)
  have t0 : w2.cell? ⟨p, 0, none⟩ = some (.int .i64 1) := (blk_cell HP2.out 0).trans rfl
  have t1 : w2.cell? ⟨p, 1, none⟩ = some (.int .i64 0) := (blk_cell HP2.out 1).trans rfl
  have t2 : w2.cell? ⟨p, 2, none⟩ = some (.int .i64 0) := (blk_cell HP2.out 2).trans rfl
  have t3 : w2.cell? ⟨p, 3, none⟩ = some (.string ⟨#[]⟩) := (blk_cell HP2.out 3).trans rfl
  have t4 : w2.cell? ⟨p, 4, none⟩ = some (.string ⟨#[]⟩) := (blk_cell HP2.out 4).trans rfl
  clear hw2 hb12 s0 s1 s2 p0 p1 p2 p3 p4 HS1 HP1 HQ1 HR1 HB1
  go_wp2_with fail
  refine (cmd58_open w2).mono ?_
  rintro e w3 ⟨rfl, hb3⟩
  have HB3 : Aside0 (Below w.heap.size w w3) := ⟨below_step HB2.out hb3⟩
  have HS3 := Aside0.mk (blk_below HS2.out hb3)
  have HP3 := Aside0.mk (blk_below HP2.out hb3)
  have HQ3 := Aside0.mk (blk_below HQ2.out hb3)
  have HR3 := Aside0.mk (blk_below HR2.out hb3)
  have xs0 : w3.cell? ⟨s, 0, none⟩ = some (.int .i64 ix) := (blk_cell HS3.out 0).trans rfl
  have xs1 : w3.cell? ⟨s, 1, none⟩ = some (.slice A1 l.length c1) := (blk_cell HS3.out 1).trans rfl
  have xs2 : w3.cell? ⟨s, 2, none⟩ = some (.slice A2 ss.length c2) := (blk_cell HS3.out 2).trans rfl
  clear hb3 t0 t1 t2 t3 t4 HS2 HP2 HQ2 HR2 HB2
  go_wp2_with fail
  refine (lecternref0_CopyState.calls kc ix A1 c1 l A2 c2 ss ix l2 s2 w3 (Kd.C_below HC1.out HB3.out) HCC.out.1 (Kd.C_below HC2.out HB3.out) HCC.out.2 HCS.out).mono ?_
  rintro e w4 ⟨v1, v2, rfl, hr1, hr2, hb4⟩
  obtain ⟨A4, c4, rfl⟩ := Kd.R_slice hr1
  obtain ⟨A5, c5, rfl⟩ := Kd.R_slice (Kd.S_R hr2)
  have HB4 : Aside0 (Below w.heap.size w w4) := ⟨below_step HB3.out hb4⟩
  have HV1 := Aside0.mk (Kd.R_lower hr1 HB3.out.size)
  have HV2 := Aside0.mk (Kd.S_lower hr2 HB3.out.size)
  have hs4 := blk_below HS3.out hb4
  have HS4 := Aside0.mk hs4
  have HP4 := Aside0.mk (blk_below HP3.out hb4)
  have HQ4 := Aside0.mk (blk_below HQ3.out hb4)
  have HR4 := Aside0.mk (blk_below HR3.out hb4)
  have o0 : w4.cell? ⟨s, 0, none⟩ = some (.int .i64 ix) := (blk_cell hs4 0).trans rfl
  have o1 : w4.cell? ⟨s, 1, none⟩ = some (.slice A1 l.length c1) := (blk_cell hs4 1).trans rfl
  have o2 : w4.cell? ⟨s, 2, none⟩ = some (.slice A2 ss.length c2) := (blk_cell hs4 2).trans rfl
  have f0 := blk_frozen hs4 0
  have f1 := blk_frozen hs4 1
  have f2 := blk_frozen hs4 2
  clear hr1 hr2 hb4 xs0 xs1 xs2 HS3 HP3 HQ3 HR3 HB3
  go_upto_region 5 with (fail)
  have nsp : p ≠ s := by have := HNE.out; omega
  have nsq : q ≠ s := by have := HNE.out; omega
  have nsr : r ≠ s := by have := HNE.out; omega
  have hUs : w.heap.size ≤ s := by have := HNE.out; omega
  have ks0 := HS4.out
  have ks1 := blk_put (cs := #[.int .i64 ix, .slice A1 l.length c1, .slice A2 ss.length c2]) ks0 0 (.int .i64 ix) rfl
  have ks2 := blk_put (cs := #[.int .i64 ix, .slice A1 l.length c1, .slice A2 ss.length c2]) ks1 1 (.slice A4 l2.length c4) rfl
  have ks3 := blk_put (cs := #[.int .i64 ix, .slice A4 l2.length c4, .slice A2 ss.length c2]) ks2 2 (.slice A5 s2.length c5) rfl
  have ks4 := blk_put (cs := #[.int .i64 ix, .slice A4 l2.length c4, .slice A5 s2.length c5]) ks3 0 (.int .i64 k) rfl
  obtain ⟨w5, hw5⟩ : ∃ z, z = (((w4.setCell ⟨s, 0, none⟩ (.int .i64 ix)).setCell ⟨s, 1, none⟩ (.slice A4 l2.length c4)).setCell ⟨s, 2, none⟩ (.slice A5 s2.length c5)).setCell ⟨s, 0, none⟩ (.int .i64 k) := ⟨_, rfl⟩
  rw [← hw5]
  have HS5 : Aside0 (w5.heap[s]? = some (.cells #[.int .i64 k, .slice A4 l2.length c4, .slice A5 s2.length c5] 60 (0, 0))) := ⟨by rw [hw5]; exact ks4⟩
  have HP5 : Aside0 (w5.heap[p]? = some (.cells #[.int .i64 1, .int .i64 0, .int .i64 0, .string ⟨#[]⟩, .string ⟨#[]⟩] 73 (0, 0))) := ⟨by rw [hw5]; exact blk_far (blk_far (blk_far (blk_far HP4.out nsp _) nsp _) nsp _) nsp _⟩
  have HQ5 : Aside0 (w5.heap[q]? = some (.cells #[.int .i64 0, .slice none 0 0, .slice none 0 0] 60 (0, 0))) := ⟨by rw [hw5]; exact blk_far (blk_far (blk_far (blk_far HQ4.out nsq _) nsq _) nsq _) nsq _⟩
  have HR5 : Aside0 (w5.heap[r]? = some (.cells #[.int .i64 0, .int .i64 0, .slice none 0 0] 70 (0, 0))) := ⟨by rw [hw5]; exact blk_far (blk_far (blk_far (blk_far HR4.out nsr _) nsr _) nsr _) nsr _⟩
  have HB5 : Aside0 (Below w.heap.size w w5) := ⟨by rw [hw5]; exact below_set (below_set (below_set (below_set HB4.out hUs) hUs) hUs) hUs⟩
  have HV1' : Aside0 (Kd.R k36 36 w5 w.heap.size (fun _ => True) (.slice A4 l2.length c4) l2) := ⟨by rw [hw5]; exact Kd.R_set (Kd.R_set (Kd.R_set (Kd.R_set HV1.out ks0 (by decide) 0 _) ks1 (by decide) 1 _) ks2 (by decide) 2 _) ks3 (by decide) 0 _⟩
  have HV2' : Aside0 (Kd.S k140 140 w5 w.heap.size (fun _ => True) (.slice A5 s2.length c5) s2) := ⟨by rw [hw5]; exact Kd.S_set (Kd.S_set (Kd.S_set (Kd.S_set HV2.out ks0 (by decide) 0 _) ks1 (by decide) 1 _) ks2 (by decide) 2 _) ks3 (by decide) 0 _⟩
  have hp5 := HP5.out
  have hs5 := HS5.out
  have p0 : w5.cell? ⟨p, 0, none⟩ = some (.int .i64 1) := (blk_cell hp5 0).trans rfl
  have t0 : w5.cell? ⟨s, 0, none⟩ = some (.int .i64 k) := (blk_cell hs5 0).trans rfl
  have t1 : w5.cell? ⟨s, 1, none⟩ = some (.slice A4 l2.length c4) := (blk_cell hs5 1).trans rfl
  have t2 : w5.cell? ⟨s, 2, none⟩ = some (.slice A5 s2.length c5) := (blk_cell hs5 2).trans rfl
  clear o0 o1 o2 hs4 f0 f1 f2 ks0 ks1 ks2 ks3 ks4 hw5 HS4 HP4 HQ4 HR4 HB4 HV1 HV2 hp5 hs5
  go_wp2_with fail
  refine (lecternref14_MayOpen.calls km A5 c5 s2 k _ w5 (Kd.R_reads' (Kd.S_R HV2'.out)).2.2 (Kd.R_reads' (Kd.S_R HV2'.out)).2.1 HMO.out).mono ?_
  rintro e w' ⟨rfl, n6, rfl⟩
  go_upto_region 7 with (fail)
  obtain ⟨w6, hw6⟩ : ∃ z, z = w5.drewN n6 := ⟨_, rfl⟩
  rw [← hw6]
  have hb56 : Below w5.heap.size w5 w6 := by rw [hw6]; exact pw_below_drewN (Below.refl _ _) n6
  have hs6 := blk_below HS5.out hb56
  have hq6 := blk_below HQ5.out hb56
  have hr6 := blk_below HR5.out hb56
  have HQ6 := Aside0.mk hq6
  have HR6 := Aside0.mk hr6
  have HB6 := Aside0.mk (below_step HB5.out hb56)
  have HU1 := Aside0.mk (Kd.R_below HV1'.out hb56)
  have HU2 := Aside0.mk (Kd.S_below HV2'.out hb56)
  have y0 : w6.cell? ⟨s, 0, none⟩ = some (.int .i64 k) := (blk_cell hs6 0).trans rfl
  have y1 : w6.cell? ⟨s, 1, none⟩ = some (.slice A4 l2.length c4) := (blk_cell hs6 1).trans rfl
  have y2 : w6.cell? ⟨s, 2, none⟩ = some (.slice A5 s2.length c5) := (blk_cell hs6 2).trans rfl
  have q0 : w6.cell? ⟨q, 0, none⟩ = some (.int .i64 0) := (blk_cell hq6 0).trans rfl
  have q1 : w6.cell? ⟨q, 1, none⟩ = some (.slice none 0 0) := (blk_cell hq6 1).trans rfl
  have q2 : w6.cell? ⟨q, 2, none⟩ = some (.slice none 0 0) := (blk_cell hq6 2).trans rfl
  have r0 : w6.cell? ⟨r, 0, none⟩ = some (.int .i64 0) := (blk_cell hr6 0).trans rfl
  have r1 : w6.cell? ⟨r, 1, none⟩ = some (.int .i64 0) := (blk_cell hr6 1).trans rfl
  have r2 : w6.cell? ⟨r, 2, none⟩ = some (.slice none 0 0) := (blk_cell hr6 2).trans rfl
  have fq0 := blk_frozen hq6 0
  have fq1 := blk_frozen hq6 1
  have fq2 := blk_frozen hq6 2
  have fr0 := blk_frozen hr6 0
  have fr1 := blk_frozen hr6 1
  have fr2 := blk_frozen hr6 2
  have n1 : q ≠ r := by have := HNE.out; omega
  have n2 : r ≠ q := Ne.symm n1
  clear t0 t1 t2 p0 hw6 hb56 hs6 hq6 hr6
  go_wp2_with fail
  clear n1 n2
  have n1 : q ≠ r := by have := HNE.out; omega
  have n2 : r ≠ q := by have := HNE.out; omega
  have hUq : w.heap.size ≤ q := by have := HNE.out; omega
  have hUr : w.heap.size ≤ r := by have := HNE.out; omega
  have kq0 := HQ6.out
  have kq1 := blk_put (cs := #[.int .i64 0, .slice none 0 0, .slice none 0 0]) kq0 0 (.int .i64 k) rfl
  have kq2 := blk_put (cs := #[.int .i64 k, .slice none 0 0, .slice none 0 0]) kq1 1 (.slice A4 l2.length c4) rfl
  have kq3 := blk_put (cs := #[.int .i64 k, .slice A4 l2.length c4, .slice none 0 0]) kq2 2 (.slice A5 s2.length c5) rfl
  have kq4 := blk_far kq3 (p := ⟨r, 0, none⟩) n1 (.int .i64 1)
  have kq5 := blk_far kq4 (p := ⟨r, 1, none⟩) n1 (.int .i64 0)
  have kq6 := blk_far kq5 (p := ⟨r, 2, none⟩) n1 (.slice none 0 0)
  have kr0 := blk_far (blk_far (blk_far (HR6.out) (p := ⟨q, 0, none⟩) n2 (.int .i64 k)) (p := ⟨q, 1, none⟩) n2 (.slice A4 l2.length c4)) (p := ⟨q, 2, none⟩) n2 (.slice A5 s2.length c5)
  have kr1 := blk_put (cs := #[.int .i64 0, .int .i64 0, .slice none 0 0]) kr0 0 (.int .i64 1) rfl
  have kr2 := blk_put (cs := #[.int .i64 1, .int .i64 0, .slice none 0 0]) kr1 1 (.int .i64 0) rfl
  have kr3 := blk_put (cs := #[.int .i64 1, .int .i64 0, .slice none 0 0]) kr2 2 (.slice none 0 0) rfl
  have hbz := below_set (below_set (below_set (below_set (below_set (below_set (HB6.out) hUq (j := 0) (v := .int .i64 k)) hUq (j := 1) (v := .slice A4 l2.length c4)) hUq (j := 2) (v := .slice A5 s2.length c5)) hUr (j := 0) (v := .int .i64 1)) hUr (j := 1) (v := .int .i64 0)) hUr (j := 2) (v := .slice none 0 0)
  refine bodyPost_ret (results_cc rfl _ _ q r 60 70 #[.int .i64 k, .slice A4 l2.length c4, .slice A5 s2.length c5] #[.int .i64 1, .int .i64 0, .slice none 0 0] (0, 0) (0, 0) _ _ rfl kq6 Tryz.underlying60 rfl (by kernel_rfl) rfl kr3 Tryz.underlying70 rfl (by kernel_rfl)) rfl ?_
  have u1 := Kd.R_set (Kd.R_set (Kd.R_set (Kd.R_set (Kd.R_set (Kd.R_set HU1.out kq0 (by decide) 0 (.int .i64 k)) kq1 (by decide) 1 (.slice A4 l2.length c4)) kq2 (by decide) 2 (.slice A5 s2.length c5)) kr0 (by decide) 0 (.int .i64 1)) kr1 (by decide) 1 (.int .i64 0)) kr2 (by decide) 2 (.slice none 0 0)
  have u2 := Kd.S_set (Kd.S_set (Kd.S_set (Kd.S_set (Kd.S_set (Kd.S_set HU2.out kq0 (by decide) 0 (.int .i64 k)) kq1 (by decide) 1 (.slice A4 l2.length c4)) kq2 (by decide) 2 (.slice A5 s2.length c5)) kr0 (by decide) 0 (.int .i64 1)) kr1 (by decide) 1 (.int .i64 0)) kr2 (by decide) 2 (.slice none 0 0)
  have hG := blk_below HGB.out hbz
  exact ⟨A4, c4, A5, c5, rfl, (Kd.R_reads' u1).2.1, fun W' hw => (Kd.R_reads' (Kd.R_step (Kd.R_types u1 hG (by decide)) (fun i hi hlt => hw.2 i hlt hi.2))).2.2, (Kd.R_reads' (Kd.S_R u2)).2.1, fun W' hw => (Kd.R_reads' (Kd.S_R (Kd.S_step (Kd.S_types u2 hG (by decide)) (fun i hi hlt => hw.2 i hlt hi.2)))).2.2, hbz⟩
set_option maxRecDepth 100000 in
set_option maxHeartbeats 1600000 in
theorem ref_yes {w : World} {ix : Int} {l : List S36} {ss : List S140} {A1 A2 : Option Addr} {c1 c2 : Nat} (hC1 : Kd.C k36 w A1 l.length l) (hc1 : l.length ≤ c1) (hC2 : Kd.C k140 w A2 ss.length ss) (hc2 : ss.length ≤ c2) {g : Nat} {gc : Array Value} (hgb : w.heap[g]? = some (.cells gc 132 (0, 0))) (hS1 : ∀ W', Kept w W' (fun i => i = g) → Kd.C k36 W' A1 l.length l) (hS2 : ∀ W', Kept w W' (fun i => i = g) → Kd.C k140 W' A2 ss.length ss) (k : Int) (hk : ix < k ∧ 1 ≤ k ∧ k < 1099511627776) (kc : Nat) (l2 : List S36) (s2 : List S140) (hcs : lecternref0_CopyState.f kc ix l ss = some (ix, l2, s2)) (km : Nat) (hmo : lecternref14_MayOpen.f km s2 k = some true) (ko : Nat) (rs : List S140) (hop : lecternref14_Open.f ko s2 k = some rs) :
    Calls Tryz.prog 61 #[.agg #[.int .i64 ix, .slice A1 l.length c1, .slice A2 ss.length c2], .int .i64 k, .agg #[.int .i64 1, .int .i64 0, .int .i64 0, .string ⟨#[]⟩, .string ⟨#[]⟩]] w (RefPost w g k l2 rs 0 k) := by
  have HC1 := Aside0.mk hC1
  have HC2 := Aside0.mk hC2
  have HCC := Aside0.mk (And.intro hc1 hc2)
  have HGB := Aside0.mk hgb
  have HSB := Aside0.mk (And.intro hS1 hS2)
  have hu60 := Tryz.underlying60
  have hu70 := Tryz.underlying70
  have hu73 := Tryz.underlying73
  clear hC1 hC2 hc1 hc2 hgb hS1 hS2
  go_enter Tryz.func61, Tryz.ntmps61
  go_upto_region 1 with (fail)
  obtain ⟨s, hse⟩ : ∃ b, b = w.heap.size := ⟨_, rfl⟩
  obtain ⟨p, hpe⟩ : ∃ b, b = w.heap.size + 1 := ⟨_, rfl⟩
  obtain ⟨q, hqe⟩ : ∃ b, b = w.heap.size + 1 + 1 := ⟨_, rfl⟩
  obtain ⟨r, hre⟩ : ∃ b, b = w.heap.size + 1 + 1 + 1 := ⟨_, rfl⟩
  obtain ⟨wa, hwa⟩ : ∃ z, z = w.alloc (.cells #[.int .i64 ix, .slice A1 l.length c1, .slice A2 ss.length c2] 60) := ⟨_, rfl⟩
  obtain ⟨wb, hwb⟩ : ∃ z, z = wa.alloc (.cells #[.int .i64 1, .int .i64 0, .int .i64 0, .string ⟨#[]⟩, .string ⟨#[]⟩] 73) := ⟨_, rfl⟩
  obtain ⟨wc, hwc⟩ : ∃ z, z = wb.alloc (.cells #[.int .i64 0, .slice none 0 0, .slice none 0 0] 60) := ⟨_, rfl⟩
  obtain ⟨w1, hw1⟩ : ∃ z, z = wc.alloc (.cells #[.int .i64 0, .int .i64 0, .slice none 0 0] 70) := ⟨_, rfl⟩
  have hsa : wa.heap.size = w.heap.size + 1 := by rw [hwa]; exact Array.size_push _
  have hsb : wb.heap.size = w.heap.size + 1 + 1 := by rw [hwb, ← hsa]; exact Array.size_push _
  have hsc : wc.heap.size = w.heap.size + 1 + 1 + 1 := by rw [hwc, ← hsb]; exact Array.size_push _
  have h1s : w1.heap[s]? = some (.cells #[.int .i64 ix, .slice A1 l.length c1, .slice A2 ss.length c2] 60 (0, 0)) := by rw [hw1]; refine blk_alloc ?_ _; rw [hwc]; refine blk_alloc ?_ _; rw [hwb]; refine blk_alloc ?_ _; rw [hwa, hse]; exact heap_alloc_new w _
  have h1p : w1.heap[p]? = some (.cells #[.int .i64 1, .int .i64 0, .int .i64 0, .string ⟨#[]⟩, .string ⟨#[]⟩] 73 (0, 0)) := by rw [hw1]; refine blk_alloc ?_ _; rw [hwc]; refine blk_alloc ?_ _; rw [hwb, hpe, ← hsa]; exact heap_alloc_new wa _
  have h1q : w1.heap[q]? = some (.cells #[.int .i64 0, .slice none 0 0, .slice none 0 0] 60 (0, 0)) := by rw [hw1]; refine blk_alloc ?_ _; rw [hwc, hqe, ← hsb]; exact heap_alloc_new wb _
  have h1r : w1.heap[r]? = some (.cells #[.int .i64 0, .int .i64 0, .slice none 0 0] 70 (0, 0)) := by rw [hw1, hre, ← hsc]; exact heap_alloc_new wc _
  have hb1 : Below w.heap.size w w1 := by rw [hw1, hwc, hwb, hwa]; exact below_alloc (below_alloc (below_alloc (below_alloc (Below.refl _ _) _) _) _) _
  try rw [← hre]
  try rw [← hqe]
  try rw [← hpe]
  rw [← hse, ← hwa, ← hwb, ← hwc, ← hw1]
  have HS1 := Aside0.mk h1s
  have HP1 := Aside0.mk h1p
  have HQ1 := Aside0.mk h1q
  have HR1 := Aside0.mk h1r
  have HB1 := Aside0.mk hb1
  have HNE := Aside0.mk (show s = w.heap.size ∧ p = w.heap.size + 1 ∧ q = w.heap.size + 2 ∧ r = w.heap.size + 3 from ⟨hse, hpe, hqe, hre⟩)
  have s0 : w1.cell? ⟨s, 0, none⟩ = some (.int .i64 ix) := (blk_cell h1s 0).trans rfl
  have s1 : w1.cell? ⟨s, 1, none⟩ = some (.slice A1 l.length c1) := (blk_cell h1s 1).trans rfl
  have s2 : w1.cell? ⟨s, 2, none⟩ = some (.slice A2 ss.length c2) := (blk_cell h1s 2).trans rfl
  clear hse hpe hqe hre hwa hwb hwc hw1 hsa hsb hsc h1q h1r hb1
  have b1 : decide (k ≤ ix) = false := decide_eq_false (by omega)
  have b2 : numB k 1 = true := decide_eq_true (by omega)
  have HCS := Aside0.mk hcs
  have HMO := Aside0.mk hmo
  have p0 : w1.cell? ⟨p, 0, none⟩ = some (.int .i64 1) := (blk_cell h1p 0).trans rfl
  have p1 : w1.cell? ⟨p, 1, none⟩ = some (.int .i64 0) := (blk_cell h1p 1).trans rfl
  have p2 : w1.cell? ⟨p, 2, none⟩ = some (.int .i64 0) := (blk_cell h1p 2).trans rfl
  have p3 : w1.cell? ⟨p, 3, none⟩ = some (.string ⟨#[]⟩) := (blk_cell h1p 3).trans rfl
  have p4 : w1.cell? ⟨p, 4, none⟩ = some (.string ⟨#[]⟩) := (blk_cell h1p 4).trans rfl
  clear hk hcs hmo h1s h1p
  go_wp2_with fail
  refine (id96 k w1).mono ?_
  rintro e w' ⟨rfl, n, rfl⟩
  rw [b2]
  obtain ⟨w2, hw2⟩ : ∃ z, z = w1.drewN n := ⟨_, rfl⟩
  have HB2 : Aside0 (Below w.heap.size w w2) := ⟨by rw [hw2]; exact pw_below_drewN HB1.out n⟩
  have hb12 : Below w1.heap.size w1 w2 := by rw [hw2]; exact pw_below_drewN (Below.refl _ _) n
  rw [← hw2]
  have HS2 := Aside0.mk (blk_below HS1.out hb12)
  have HP2 := Aside0.mk (blk_below HP1.out hb12)
  have HQ2 := Aside0.mk (blk_below HQ1.out hb12)
  have HR2 := Aside0.mk (blk_below HR1.out hb12)
  have t0 : w2.cell? ⟨p, 0, none⟩ = some (.int .i64 1) := (blk_cell HP2.out 0).trans rfl
  have t1 : w2.cell? ⟨p, 1, none⟩ = some (.int .i64 0) := (blk_cell HP2.out 1).trans rfl
  have t2 : w2.cell? ⟨p, 2, none⟩ = some (.int .i64 0) := (blk_cell HP2.out 2).trans rfl
  have t3 : w2.cell? ⟨p, 3, none⟩ = some (.string ⟨#[]⟩) := (blk_cell HP2.out 3).trans rfl
  have t4 : w2.cell? ⟨p, 4, none⟩ = some (.string ⟨#[]⟩) := (blk_cell HP2.out 4).trans rfl
  clear hw2 hb12 s0 s1 s2 p0 p1 p2 p3 p4 HS1 HP1 HQ1 HR1 HB1
  go_wp2_with fail
  refine (cmd58_open w2).mono ?_
  rintro e w3 ⟨rfl, hb3⟩
  have HB3 : Aside0 (Below w.heap.size w w3) := ⟨below_step HB2.out hb3⟩
  have HS3 := Aside0.mk (blk_below HS2.out hb3)
  have HP3 := Aside0.mk (blk_below HP2.out hb3)
  have HQ3 := Aside0.mk (blk_below HQ2.out hb3)
  have HR3 := Aside0.mk (blk_below HR2.out hb3)
  have xs0 : w3.cell? ⟨s, 0, none⟩ = some (.int .i64 ix) := (blk_cell HS3.out 0).trans rfl
  have xs1 : w3.cell? ⟨s, 1, none⟩ = some (.slice A1 l.length c1) := (blk_cell HS3.out 1).trans rfl
  have xs2 : w3.cell? ⟨s, 2, none⟩ = some (.slice A2 ss.length c2) := (blk_cell HS3.out 2).trans rfl
  clear hb3 t0 t1 t2 t3 t4 HS2 HP2 HQ2 HR2 HB2
  go_wp2_with fail
  refine (lecternref0_CopyState.calls kc ix A1 c1 l A2 c2 ss ix l2 s2 w3 (Kd.C_below HC1.out HB3.out) HCC.out.1 (Kd.C_below HC2.out HB3.out) HCC.out.2 HCS.out).mono ?_
  rintro e w4 ⟨v1, v2, rfl, hr1, hr2, hb4⟩
  obtain ⟨A4, c4, rfl⟩ := Kd.R_slice hr1
  obtain ⟨A5, c5, rfl⟩ := Kd.R_slice (Kd.S_R hr2)
  have HB4 : Aside0 (Below w.heap.size w w4) := ⟨below_step HB3.out hb4⟩
  have HV1 := Aside0.mk (Kd.R_lower hr1 HB3.out.size)
  have HV2 := Aside0.mk (Kd.S_lower hr2 HB3.out.size)
  have hs4 := blk_below HS3.out hb4
  have HS4 := Aside0.mk hs4
  have HP4 := Aside0.mk (blk_below HP3.out hb4)
  have HQ4 := Aside0.mk (blk_below HQ3.out hb4)
  have HR4 := Aside0.mk (blk_below HR3.out hb4)
  have o0 : w4.cell? ⟨s, 0, none⟩ = some (.int .i64 ix) := (blk_cell hs4 0).trans rfl
  have o1 : w4.cell? ⟨s, 1, none⟩ = some (.slice A1 l.length c1) := (blk_cell hs4 1).trans rfl
  have o2 : w4.cell? ⟨s, 2, none⟩ = some (.slice A2 ss.length c2) := (blk_cell hs4 2).trans rfl
  have f0 := blk_frozen hs4 0
  have f1 := blk_frozen hs4 1
  have f2 := blk_frozen hs4 2
  clear hr1 hr2 hb4 xs0 xs1 xs2 HS3 HP3 HQ3 HR3 HB3
  go_upto_region 5 with (fail)
  have nsp : p ≠ s := by have := HNE.out; omega
  have nsq : q ≠ s := by have := HNE.out; omega
  have nsr : r ≠ s := by have := HNE.out; omega
  have hUs : w.heap.size ≤ s := by have := HNE.out; omega
  have ks0 := HS4.out
  have ks1 := blk_put (cs := #[.int .i64 ix, .slice A1 l.length c1, .slice A2 ss.length c2]) ks0 0 (.int .i64 ix) rfl
  have ks2 := blk_put (cs := #[.int .i64 ix, .slice A1 l.length c1, .slice A2 ss.length c2]) ks1 1 (.slice A4 l2.length c4) rfl
  have ks3 := blk_put (cs := #[.int .i64 ix, .slice A4 l2.length c4, .slice A2 ss.length c2]) ks2 2 (.slice A5 s2.length c5) rfl
  have ks4 := blk_put (cs := #[.int .i64 ix, .slice A4 l2.length c4, .slice A5 s2.length c5]) ks3 0 (.int .i64 k) rfl
  obtain ⟨w5, hw5⟩ : ∃ z, z = (((w4.setCell ⟨s, 0, none⟩ (.int .i64 ix)).setCell ⟨s, 1, none⟩ (.slice A4 l2.length c4)).setCell ⟨s, 2, none⟩ (.slice A5 s2.length c5)).setCell ⟨s, 0, none⟩ (.int .i64 k) := ⟨_, rfl⟩
  rw [← hw5]
  have HS5 : Aside0 (w5.heap[s]? = some (.cells #[.int .i64 k, .slice A4 l2.length c4, .slice A5 s2.length c5] 60 (0, 0))) := ⟨by rw [hw5]; exact ks4⟩
  have HP5 : Aside0 (w5.heap[p]? = some (.cells #[.int .i64 1, .int .i64 0, .int .i64 0, .string ⟨#[]⟩, .string ⟨#[]⟩] 73 (0, 0))) := ⟨by rw [hw5]; exact blk_far (blk_far (blk_far (blk_far HP4.out nsp _) nsp _) nsp _) nsp _⟩
  have HQ5 : Aside0 (w5.heap[q]? = some (.cells #[.int .i64 0, .slice none 0 0, .slice none 0 0] 60 (0, 0))) := ⟨by rw [hw5]; exact blk_far (blk_far (blk_far (blk_far HQ4.out nsq _) nsq _) nsq _) nsq _⟩
  have HR5 : Aside0 (w5.heap[r]? = some (.cells #[.int .i64 0, .int .i64 0, .slice none 0 0] 70 (0, 0))) := ⟨by rw [hw5]; exact blk_far (blk_far (blk_far (blk_far HR4.out nsr _) nsr _) nsr _) nsr _⟩
  have HB5 : Aside0 (Below w.heap.size w w5) := ⟨by rw [hw5]; exact below_set (below_set (below_set (below_set HB4.out hUs) hUs) hUs) hUs⟩
  have HV1' : Aside0 (Kd.R k36 36 w5 w.heap.size (fun _ => True) (.slice A4 l2.length c4) l2) := ⟨by rw [hw5]; exact Kd.R_set (Kd.R_set (Kd.R_set (Kd.R_set HV1.out ks0 (by decide) 0 _) ks1 (by decide) 1 _) ks2 (by decide) 2 _) ks3 (by decide) 0 _⟩
  have HV2' : Aside0 (Kd.S k140 140 w5 w.heap.size (fun _ => True) (.slice A5 s2.length c5) s2) := ⟨by rw [hw5]; exact Kd.S_set (Kd.S_set (Kd.S_set (Kd.S_set HV2.out ks0 (by decide) 0 _) ks1 (by decide) 1 _) ks2 (by decide) 2 _) ks3 (by decide) 0 _⟩
  have hp5 := HP5.out
  have hs5 := HS5.out
  have p0 : w5.cell? ⟨p, 0, none⟩ = some (.int .i64 1) := (blk_cell hp5 0).trans rfl
  have t0 : w5.cell? ⟨s, 0, none⟩ = some (.int .i64 k) := (blk_cell hs5 0).trans rfl
  have t1 : w5.cell? ⟨s, 1, none⟩ = some (.slice A4 l2.length c4) := (blk_cell hs5 1).trans rfl
  have t2 : w5.cell? ⟨s, 2, none⟩ = some (.slice A5 s2.length c5) := (blk_cell hs5 2).trans rfl
  clear o0 o1 o2 hs4 f0 f1 f2 ks0 ks1 ks2 ks3 ks4 hw5 HS4 HP4 HQ4 HR4 HB4 HV1 HV2 hp5 hs5
  go_wp2_with fail
  refine (lecternref14_MayOpen.calls km A5 c5 s2 k _ w5 (Kd.R_reads' (Kd.S_R HV2'.out)).2.2 (Kd.R_reads' (Kd.S_R HV2'.out)).2.1 HMO.out).mono ?_
  rintro e w' ⟨rfl, n6, rfl⟩
  go_upto_region 8 with (fail)
  obtain ⟨w6, hw6⟩ : ∃ z, z = w5.drewN n6 := ⟨_, rfl⟩
  rw [← hw6]
  have hb56 : Below w5.heap.size w5 w6 := by rw [hw6]; exact pw_below_drewN (Below.refl _ _) n6
  have hs6 := blk_below HS5.out hb56
  have HS6 := Aside0.mk hs6
  have HQ6 := Aside0.mk (blk_below HQ5.out hb56)
  have HR6 := Aside0.mk (blk_below HR5.out hb56)
  have HB6 := Aside0.mk (below_step HB5.out hb56)
  have HU1 := Aside0.mk (Kd.R_below HV1'.out hb56)
  have HU2 := Aside0.mk (Kd.S_below HV2'.out hb56)
  have y0 : w6.cell? ⟨s, 0, none⟩ = some (.int .i64 k) := (blk_cell hs6 0).trans rfl
  have y1 : w6.cell? ⟨s, 1, none⟩ = some (.slice A4 l2.length c4) := (blk_cell hs6 1).trans rfl
  have y2 : w6.cell? ⟨s, 2, none⟩ = some (.slice A5 s2.length c5) := (blk_cell hs6 2).trans rfl
  clear t0 t1 t2 p0 hw6 hb56 hs6
  have HOP := Aside0.mk hop
  clear hop
  go_wp2_with fail
  refine (lecternref14_Open.calls ko A5 c5 s2 k rs w6 (Kd.R_reads' (Kd.S_R HU2.out)).2.2 (Kd.R_reads' (Kd.S_R HU2.out)).2.1 HOP.out).mono ?_
  rintro e w7 ⟨v7, rfl, hn7, hb7⟩
  obtain ⟨A7, c7, rfl⟩ := Kd.N_slice hn7
  have HN7 := Aside0.mk hn7
  have hs7 := blk_below HS6.out hb7
  have HS7 := Aside0.mk hs7
  have HQ7 := Aside0.mk (blk_below HQ6.out hb7)
  have HR7 := Aside0.mk (blk_below HR6.out hb7)
  have HB7 := Aside0.mk (below_step HB6.out hb7)
  have HU17 := Aside0.mk (Kd.R_below HU1.out hb7)
  have HLT : Aside0 (s < w6.heap.size ∧ q < w6.heap.size ∧ r < w6.heap.size) := ⟨⟨blk_lt HS6.out, blk_lt HQ6.out, blk_lt HR6.out⟩⟩
  have z0 : w7.cell? ⟨s, 0, none⟩ = some (.int .i64 k) := (blk_cell hs7 0).trans rfl
  have z1 : w7.cell? ⟨s, 1, none⟩ = some (.slice A4 l2.length c4) := (blk_cell hs7 1).trans rfl
  have z2 : w7.cell? ⟨s, 2, none⟩ = some (.slice A5 s2.length c5) := (blk_cell hs7 2).trans rfl
  have fz0 := blk_frozen hs7 0
  have fz1 := blk_frozen hs7 1
  have fz2 := blk_frozen hs7 2
  clear hn7 hb7 hs7 y0 y1 y2
  go_upto_region 9 with (fail)
  have nsq : q ≠ s := by have := HNE.out; omega
  have nsr : r ≠ s := by have := HNE.out; omega
  have hUs : w.heap.size ≤ s := by have := HNE.out; omega
  have ks0 := HS7.out
  have ks1 := blk_put (cs := #[.int .i64 k, .slice A4 l2.length c4, .slice A5 s2.length c5]) ks0 2 (.slice A7 rs.length c7) rfl
  obtain ⟨w8, hw8⟩ : ∃ z, z = w7.setCell ⟨s, 2, none⟩ (.slice A7 rs.length c7) := ⟨_, rfl⟩
  rw [← hw8]
  have hs8 : w8.heap[s]? = some (.cells #[.int .i64 k, .slice A4 l2.length c4, .slice A7 rs.length c7] 60 (0, 0)) := by rw [hw8]; exact ks1
  have hq8 : w8.heap[q]? = some (.cells #[.int .i64 0, .slice none 0 0, .slice none 0 0] 60 (0, 0)) := by rw [hw8]; exact blk_far HQ7.out nsq _
  have hr8 : w8.heap[r]? = some (.cells #[.int .i64 0, .int .i64 0, .slice none 0 0] 70 (0, 0)) := by rw [hw8]; exact blk_far HR7.out nsr _
  have HQ8 := Aside0.mk hq8
  have HR8 := Aside0.mk hr8
  have HB8 : Aside0 (Below w.heap.size w w8) := ⟨by rw [hw8]; exact below_set HB7.out hUs⟩
  have HU18 : Aside0 (Kd.R k36 36 w8 w.heap.size (fun _ => True) (.slice A4 l2.length c4) l2) := ⟨by rw [hw8]; exact Kd.R_set HU17.out ks0 (by decide) 2 _⟩
  have HN8 : Aside0 (Kd.N k140 140 w8 w6.heap.size (fun k_ => w6.heap.size ≤ k_) (.slice A7 rs.length c7) rs) := ⟨by rw [hw8]; exact Kd.N_far (p := ⟨s, 2, none⟩) HN7.out (fun i hi => by have := HLT.out.1; show i ≠ s; omega) _⟩
  have y0 : w8.cell? ⟨s, 0, none⟩ = some (.int .i64 k) := (blk_cell hs8 0).trans rfl
  have y1 : w8.cell? ⟨s, 1, none⟩ = some (.slice A4 l2.length c4) := (blk_cell hs8 1).trans rfl
  have y2 : w8.cell? ⟨s, 2, none⟩ = some (.slice A7 rs.length c7) := (blk_cell hs8 2).trans rfl
  have q0 : w8.cell? ⟨q, 0, none⟩ = some (.int .i64 0) := (blk_cell hq8 0).trans rfl
  have q1 : w8.cell? ⟨q, 1, none⟩ = some (.slice none 0 0) := (blk_cell hq8 1).trans rfl
  have q2 : w8.cell? ⟨q, 2, none⟩ = some (.slice none 0 0) := (blk_cell hq8 2).trans rfl
  have r0 : w8.cell? ⟨r, 0, none⟩ = some (.int .i64 0) := (blk_cell hr8 0).trans rfl
  have r1 : w8.cell? ⟨r, 1, none⟩ = some (.int .i64 0) := (blk_cell hr8 1).trans rfl
  have r2 : w8.cell? ⟨r, 2, none⟩ = some (.slice none 0 0) := (blk_cell hr8 2).trans rfl
  have fq0 := blk_frozen hq8 0
  have fq1 := blk_frozen hq8 1
  have fq2 := blk_frozen hq8 2
  have fr0 := blk_frozen hr8 0
  have fr1 := blk_frozen hr8 1
  have fr2 := blk_frozen hr8 2
  have n1 : q ≠ r := by have := HNE.out; omega
  have n2 : r ≠ q := Ne.symm n1
  clear z0 z1 z2 fz0 fz1 fz2 ks0 ks1 hw8 hs8 hq8 hr8 nsq nsr
  go_wp2_with fail
  clear n1 n2
  have n1 : q ≠ r := by have := HNE.out; omega
  have n2 : r ≠ q := by have := HNE.out; omega
  have hUq : w.heap.size ≤ q := by have := HNE.out; omega
  have hUr : w.heap.size ≤ r := by have := HNE.out; omega
  have kq0 := HQ8.out
  have kq1 := blk_put (cs := #[.int .i64 0, .slice none 0 0, .slice none 0 0]) kq0 0 (.int .i64 k) rfl
  have kq2 := blk_put (cs := #[.int .i64 k, .slice none 0 0, .slice none 0 0]) kq1 1 (.slice A4 l2.length c4) rfl
  have kq3 := blk_put (cs := #[.int .i64 k, .slice A4 l2.length c4, .slice none 0 0]) kq2 2 (.slice A7 rs.length c7) rfl
  have kq4 := blk_far kq3 (p := ⟨r, 0, none⟩) n1 (.int .i64 0)
  have kq5 := blk_far kq4 (p := ⟨r, 1, none⟩) n1 (.int .i64 k)
  have kq6 := blk_far kq5 (p := ⟨r, 2, none⟩) n1 (.slice none 0 0)
  have kr0 := blk_far (blk_far (blk_far (HR8.out) (p := ⟨q, 0, none⟩) n2 (.int .i64 k)) (p := ⟨q, 1, none⟩) n2 (.slice A4 l2.length c4)) (p := ⟨q, 2, none⟩) n2 (.slice A7 rs.length c7)
  have kr1 := blk_put (cs := #[.int .i64 0, .int .i64 0, .slice none 0 0]) kr0 0 (.int .i64 0) rfl
  have kr2 := blk_put (cs := #[.int .i64 0, .int .i64 0, .slice none 0 0]) kr1 1 (.int .i64 k) rfl
  have kr3 := blk_put (cs := #[.int .i64 0, .int .i64 k, .slice none 0 0]) kr2 2 (.slice none 0 0) rfl
  have hbz := below_set (below_set (below_set (below_set (below_set (below_set (HB8.out) hUq (j := 0) (v := .int .i64 k)) hUq (j := 1) (v := .slice A4 l2.length c4)) hUq (j := 2) (v := .slice A7 rs.length c7)) hUr (j := 0) (v := .int .i64 0)) hUr (j := 1) (v := .int .i64 k)) hUr (j := 2) (v := .slice none 0 0)
  refine bodyPost_ret (results_cc rfl _ _ q r 60 70 #[.int .i64 k, .slice A4 l2.length c4, .slice A7 rs.length c7] #[.int .i64 0, .int .i64 k, .slice none 0 0] (0, 0) (0, 0) _ _ rfl kq6 Tryz.underlying60 rfl (by kernel_rfl) rfl kr3 Tryz.underlying70 rfl (by kernel_rfl)) rfl ?_
  have u1 := Kd.R_set (Kd.R_set (Kd.R_set (Kd.R_set (Kd.R_set (Kd.R_set HU18.out kq0 (by decide) 0 (.int .i64 k)) kq1 (by decide) 1 (.slice A4 l2.length c4)) kq2 (by decide) 2 (.slice A7 rs.length c7)) kr0 (by decide) 0 (.int .i64 0)) kr1 (by decide) 1 (.int .i64 k)) kr2 (by decide) 2 (.slice none 0 0)
  have gq : ∀ i, w6.heap.size ≤ i → i ≠ q := fun i hi => by have := HLT.out.2.1; omega
  have gr : ∀ i, w6.heap.size ≤ i → i ≠ r := fun i hi => by have := HLT.out.2.2; omega
  have u2 := Kd.N_far (p := ⟨r, 2, none⟩) (Kd.N_far (p := ⟨r, 1, none⟩) (Kd.N_far (p := ⟨r, 0, none⟩) (Kd.N_far (p := ⟨q, 2, none⟩) (Kd.N_far (p := ⟨q, 1, none⟩) (Kd.N_far (p := ⟨q, 0, none⟩) HN8.out gq (.int .i64 k)) gq (.slice A4 l2.length c4)) gq (.slice A7 rs.length c7)) gr (.int .i64 0)) gr (.int .i64 k)) gr (.slice none 0 0)
  have hG := blk_below HGB.out hbz
  have hgl := blk_lt HGB.out
  have hg6 := HB6.out.size
  exact ⟨A4, c4, A7, c7, rfl, (Kd.R_reads' u1).2.1, fun W' hw => (Kd.R_reads' (Kd.R_step (Kd.R_types u1 hG (by decide)) (fun i hi hlt => hw.2 i hlt hi.2))).2.2, (Kd.N_reads' u2).2.1, fun W' hw => (Kd.N_reads' (Kd.N_step u2 (fun i hi hlt => hw.2 i hlt (by show ¬ i = g; omega)))).2.2, hbz⟩
end Go.Proofs.YtpeldaogdeefeaaGreat.M
