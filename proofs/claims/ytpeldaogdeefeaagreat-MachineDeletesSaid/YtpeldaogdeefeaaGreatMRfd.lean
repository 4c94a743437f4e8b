/- The reference's Apply of the command that deletes a document. -/
import Derived.Test.YtpeldaogdeefeaaGreatMApd
namespace Go.Proofs.YtpeldaogdeefeaaGreat.M
open Go.Proofs.YtpeldaogdeefeaaGreat.H Go.RowKit Go.Maps Go.Sort Go.Proofs.YtpeldaogdeefeaaGreatW.PrintWords Go.Proofs.YtpeldaogdeefeaaGreatW.PrintLast Go.Proofs.YtpeldaogdeefeaaGreatW.PrintMore Go.Proofs.YtpeldaogdeefeaaGreat.Base
set_option linter.unusedVariables false
set_option linter.unusedSimpArgs false
/-- A state and a reply (without hits) are told; they stay readable whatever happens to the blocks of S. -/
def RefD (w : World) (S : Nat → Prop) (ix : Int) (l : List S36) (ss : List S140) (e0 n0 : Int) (en : Ending) (w' : World) : Prop := ∃ A1 c1 A2 c2 A3 c3, en = .returned (.tuple #[.agg #[.int .i64 ix, .slice A1 l.length c1, .slice A2 ss.length c2], .agg #[.int .i64 e0, .int .i64 n0, .slice A3 0 c3]]) ∧ l.length ≤ c1 ∧ (∀ W', Kept w' W' S → Kd.C k36 W' A1 l.length l) ∧ ss.length ≤ c2 ∧ (∀ W', Kept w' W' S → Kd.C k140 W' A2 ss.length ss) ∧ Below w.heap.size w w'
theorem RefD.drew {w : World} {S : Nat → Prop} {ix : Int} {l : List S36} {ss : List S140} {e0 n0 : Int} {en : Ending} {w' : World} (h : RefD w S ix l ss e0 n0 en w') : RefD w S ix l ss e0 n0 en w'.drew := by
  obtain ⟨A1, c1, A2, c2, A3, c3, h1, h2, h3, h4, h5, h6⟩ := h
  exact ⟨A1, c1, A2, c2, A3, c3, h1, h2, fun W' hw => h3 W' hw, h4, fun W' hw => h5 W' hw, below_drew1 h6⟩
theorem sure_Rs {w : World} {base : Nat} {A : Option Addr} {n c : Nat} {xs : List S36} {S : Nat → Prop} (h : Kd.R k36 36 w base (fun _ => True) (.slice A n c) xs) (hS : ∀ i, S i → i < base) : n ≤ c ∧ ∀ W', Kept w W' S → Kd.C k36 W' A xs.length xs :=
  ⟨(Kd.R_reads' h).2.1, fun W' hw => (Kd.R_reads' (Kd.R_step (Kd.R_bound h) (fun i hi hlt => hw.2 i hlt (fun hs => by have := hS i hs; have := hi.2.1; omega)))).2.2⟩
theorem sure_Ss {w : World} {base : Nat} {A : Option Addr} {n c : Nat} {xs : List S140} {S : Nat → Prop} (h : Kd.S k140 140 w base (fun _ => True) (.slice A n c) xs) (hS : ∀ i, S i → i < base) : n ≤ c ∧ ∀ W', Kept w W' S → Kd.C k140 W' A xs.length xs :=
  ⟨(Kd.R_reads' (Kd.S_R h)).2.1, fun W' hw => (Kd.R_reads' (Kd.S_R (Kd.S_step (Kd.S_bound h) (fun i hi hlt => hw.2 i hlt (fun hs => by have := hS i hs; have := hi.2.1; omega))))).2.2⟩
theorem not36 {W : World} {b base t : Nat} {cs : Array Value} (h : W.heap[b]? = some (.cells cs t (0, 0))) (ht : ∀ q, q ∈ 36 :: k36.E → q ≠ t) : ¬ (True ∧ base ≤ b ∧ b < W.heap.size ∧ ∃ q, q ∈ 36 :: k36.E ∧ ∃ cells, W.heap[b]? = some (.cells cells q (0, 0))) := by
  rintro ⟨_, _, _, q, hq, cells, hc⟩
  rw [h] at hc
  injection hc with hc
  injection hc with _ hc
  exact ht q hq hc.symm
set_option maxRecDepth 100000 in
set_option maxHeartbeats 4000000 in
theorem rfd_no {w : World} {ix : Int} {l : List S36} {ss : List S140} {A1 A2 : Option Addr} {c1 c2 : Nat} (hC1 : Kd.C k36 w A1 l.length l) (hc1 : l.length ≤ c1) (hC2 : Kd.C k140 w A2 ss.length ss) (hc2 : ss.length ≤ c2) {S : Nat → Prop} (hSl : ∀ i, S i → i < w.heap.size) (hS1 : ∀ W', Kept w W' S → Kd.C k36 W' A1 l.length l) (hS2 : ∀ W', Kept w W' S → Kd.C k140 W' A2 ss.length ss) (k a q0 : Int) (id : ByteArray) (hid : id.size ≤ 140737488351232) (hno : (ix < k ∧ 1 ≤ k ∧ k < 1099511627776) → mayD a q0 id = false) :
    Calls Tryz.prog 61 #[.agg #[.int .i64 ix, .slice A1 l.length c1, .slice A2 ss.length c2], .int .i64 k, .agg #[.int .i64 3, .int .i64 a, .int .i64 q0, .string id, .string ⟨#[]⟩]] w (RefD w S ix l ss 1 0) := by
  have HC1 := Aside0.mk hC1
  have HC2 := Aside0.mk hC2
  have HCC := Aside0.mk (And.intro hc1 hc2)
  have HSL := Aside0.mk hSl
  have HID := Aside0.mk hid
  have HSB := Aside0.mk (And.intro hS1 hS2)
  have hu60 := Tryz.underlying60
  have hu70 := Tryz.underlying70
  have hu73 := Tryz.underlying73
  clear hC1 hC2 hc1 hc2 hSl hid hS1 hS2
  have HNO := Aside0.mk hno
  clear hno
  go_enter Tryz.func61, Tryz.ntmps61
  go_upto_region 1 with (fail)
  obtain ⟨s, hse⟩ : ∃ b, b = w.heap.size := ⟨_, rfl⟩
  obtain ⟨p, hpe⟩ : ∃ b, b = w.heap.size + 1 := ⟨_, rfl⟩
  obtain ⟨q, hqe⟩ : ∃ b, b = w.heap.size + 1 + 1 := ⟨_, rfl⟩
  obtain ⟨r, hre⟩ : ∃ b, b = w.heap.size + 1 + 1 + 1 := ⟨_, rfl⟩
  obtain ⟨wa, hwa⟩ : ∃ z, z = w.alloc (.cells #[.int .i64 ix, .slice A1 l.length c1, .slice A2 ss.length c2] 60) := ⟨_, rfl⟩
  obtain ⟨wb, hwb⟩ : ∃ z, z = wa.alloc (.cells #[.int .i64 3, .int .i64 a, .int .i64 q0, .string id, .string ⟨#[]⟩] 73) := ⟨_, rfl⟩
  obtain ⟨wc, hwc⟩ : ∃ z, z = wb.alloc (.cells #[.int .i64 0, .slice none 0 0, .slice none 0 0] 60) := ⟨_, rfl⟩
  obtain ⟨w1, hw1⟩ : ∃ z, z = wc.alloc (.cells #[.int .i64 0, .int .i64 0, .slice none 0 0] 70) := ⟨_, rfl⟩
  have hsa : wa.heap.size = w.heap.size + 1 := by rw [hwa]; exact Array.size_push _
  have hsb : wb.heap.size = w.heap.size + 1 + 1 := by rw [hwb, ← hsa]; exact Array.size_push _
  have hsc : wc.heap.size = w.heap.size + 1 + 1 + 1 := by rw [hwc, ← hsb]; exact Array.size_push _
  have HS1 : Aside0 (w1.heap[s]? = some (.cells #[.int .i64 ix, .slice A1 l.length c1, .slice A2 ss.length c2] 60 (0, 0))) := ⟨by rw [hw1]; refine blk_alloc ?_ _; rw [hwc]; refine blk_alloc ?_ _; rw [hwb]; refine blk_alloc ?_ _; rw [hwa, hse]; exact heap_alloc_new w _⟩
  have HP1 : Aside0 (w1.heap[p]? = some (.cells #[.int .i64 3, .int .i64 a, .int .i64 q0, .string id, .string ⟨#[]⟩] 73 (0, 0))) := ⟨by rw [hw1]; refine blk_alloc ?_ _; rw [hwc]; refine blk_alloc ?_ _; rw [hwb, hpe, ← hsa]; exact heap_alloc_new wa _⟩
  have HQ1 : Aside0 (w1.heap[q]? = some (.cells #[.int .i64 0, .slice none 0 0, .slice none 0 0] 60 (0, 0))) := ⟨by rw [hw1]; refine blk_alloc ?_ _; rw [hwc, hqe, ← hsb]; exact heap_alloc_new wb _⟩
  have HR1 : Aside0 (w1.heap[r]? = some (.cells #[.int .i64 0, .int .i64 0, .slice none 0 0] 70 (0, 0))) := ⟨by rw [hw1, hre, ← hsc]; exact heap_alloc_new wc _⟩
  have HB1 : Aside0 (Below w.heap.size w w1) := ⟨by rw [hw1, hwc, hwb, hwa]; exact below_alloc (below_alloc (below_alloc (below_alloc (Below.refl _ _) _) _) _) _⟩
  try rw [← hre]
  try rw [← hqe]
  try rw [← hpe]
  rw [← hse, ← hwa, ← hwb, ← hwc, ← hw1]
  have HNE := Aside0.mk (show s = w.heap.size ∧ p = w.heap.size + 1 ∧ q = w.heap.size + 2 ∧ r = w.heap.size + 3 from ⟨hse, hpe, hqe, hre⟩)
  clear hse hpe hqe hre hwa hwb hwc hw1 hsa hsb hsc
  have s0 : ∀ x : QB.Later w1, x.val.cell? ⟨s, 0, none⟩ = some (.int .i64 ix) := fun x => (blk_cell (blk_below HS1.out x.below) 0).trans rfl
  have s1 : ∀ x : QB.Later w1, x.val.cell? ⟨s, 1, none⟩ = some (.slice A1 l.length c1) := fun x => (blk_cell (blk_below HS1.out x.below) 1).trans rfl
  have s2 : ∀ x : QB.Later w1, x.val.cell? ⟨s, 2, none⟩ = some (.slice A2 ss.length c2) := fun x => (blk_cell (blk_below HS1.out x.below) 2).trans rfl
  have p0 : ∀ x : QB.Later w1, x.val.cell? ⟨p, 0, none⟩ = some (.int .i64 3) := fun x => (blk_cell (blk_below HP1.out x.below) 0).trans rfl
  have p1 : ∀ x : QB.Later w1, x.val.cell? ⟨p, 1, none⟩ = some (.int .i64 a) := fun x => (blk_cell (blk_below HP1.out x.below) 1).trans rfl
  have p2 : ∀ x : QB.Later w1, x.val.cell? ⟨p, 2, none⟩ = some (.int .i64 q0) := fun x => (blk_cell (blk_below HP1.out x.below) 2).trans rfl
  have p3 : ∀ x : QB.Later w1, x.val.cell? ⟨p, 3, none⟩ = some (.string id) := fun x => (blk_cell (blk_below HP1.out x.below) 3).trans rfl
  have p4 : ∀ x : QB.Later w1, x.val.cell? ⟨p, 4, none⟩ = some (.string ⟨#[]⟩) := fun x => (blk_cell (blk_below HP1.out x.below) 4).trans rfl
  have qz0 : ∀ x : QB.Later w1, x.val.cell? ⟨q, 0, none⟩ = some (.int .i64 0) := fun x => (blk_cell (blk_below HQ1.out x.below) 0).trans rfl
  have qz1 : ∀ x : QB.Later w1, x.val.cell? ⟨q, 1, none⟩ = some (.slice none 0 0) := fun x => (blk_cell (blk_below HQ1.out x.below) 1).trans rfl
  have qz2 : ∀ x : QB.Later w1, x.val.cell? ⟨q, 2, none⟩ = some (.slice none 0 0) := fun x => (blk_cell (blk_below HQ1.out x.below) 2).trans rfl
  have r0 : ∀ x : QB.Later w1, x.val.cell? ⟨r, 0, none⟩ = some (.int .i64 0) := fun x => (blk_cell (blk_below HR1.out x.below) 0).trans rfl
  have r1 : ∀ x : QB.Later w1, x.val.cell? ⟨r, 1, none⟩ = some (.int .i64 0) := fun x => (blk_cell (blk_below HR1.out x.below) 1).trans rfl
  have r2 : ∀ x : QB.Later w1, x.val.cell? ⟨r, 2, none⟩ = some (.slice none 0 0) := fun x => (blk_cell (blk_below HR1.out x.below) 2).trans rfl
  have fq0 : ∀ x : QB.Later w1, x.val.frozen? ⟨q, 0, none⟩ = false := fun x => blk_frozen (blk_below HQ1.out x.below) 0
  have fq1 : ∀ x : QB.Later w1, x.val.frozen? ⟨q, 1, none⟩ = false := fun x => blk_frozen (blk_below HQ1.out x.below) 1
  have fq2 : ∀ x : QB.Later w1, x.val.frozen? ⟨q, 2, none⟩ = false := fun x => blk_frozen (blk_below HQ1.out x.below) 2
  have fr0 : ∀ x : QB.Later w1, x.val.frozen? ⟨r, 0, none⟩ = false := fun x => blk_frozen (blk_below HR1.out x.below) 0
  have fr1 : ∀ x : QB.Later w1, x.val.frozen? ⟨r, 1, none⟩ = false := fun x => blk_frozen (blk_below HR1.out x.below) 1
  have fr2 : ∀ x : QB.Later w1, x.val.frozen? ⟨r, 2, none⟩ = false := fun x => blk_frozen (blk_below HR1.out x.below) 2
  have fs0 : ∀ x : QB.Later w1, x.val.frozen? ⟨s, 0, none⟩ = false := fun x => blk_frozen (blk_below HS1.out x.below) 0
  have fs1 : ∀ x : QB.Later w1, x.val.frozen? ⟨s, 1, none⟩ = false := fun x => blk_frozen (blk_below HS1.out x.below) 1
  have fs2 : ∀ x : QB.Later w1, x.val.frozen? ⟨s, 2, none⟩ = false := fun x => blk_frozen (blk_below HS1.out x.below) 2
  have n1 : q ≠ r := by have := HNE.out; omega
  have n2 : r ≠ q := Ne.symm n1
  obtain ⟨y, hy⟩ : ∃ y : QB.Later w1, y.val = w1 := ⟨QB.Later.mk (Below.refl _ _), rfl⟩
  rw [← hy]
  clear hy
  by_cases hk1 : ix < k
  rotate_left
  · have b1 : decide (k ≤ ix) = true := decide_eq_true (by omega)
    clear hk1
    go_wp2_with fail
    have kq := far3b (put3 (blk_below HQ1.out y.below) (.int .i64 ix) (.slice A1 l.length c1) (.slice A2 ss.length c2)) n1 (.int .i64 1) (.int .i64 0) (.slice none 0 0)
    have kr := put3 (far3b (blk_below HR1.out y.below) n2 (.int .i64 ix) (.slice A1 l.length c1) (.slice A2 ss.length c2)) (.int .i64 1) (.int .i64 0) (.slice none 0 0)
    refine bodyPost_ret (results_cc rfl _ _ q r 60 70 #[.int .i64 ix, .slice A1 l.length c1, .slice A2 ss.length c2] #[.int .i64 1, .int .i64 0, .slice none 0 0] (0, 0) (0, 0) _ _ rfl kq Tryz.underlying60 rfl (by kernel_rfl) rfl kr Tryz.underlying70 rfl (by kernel_rfl)) rfl ?_
    have hUq : w.heap.size ≤ q := by have := HNE.out; omega
    have hUr : w.heap.size ≤ r := by have := HNE.out; omega
    have hbz := below3 (below3 (QB.below_trans HB1.out y.below) hUq (.int .i64 ix) (.slice A1 l.length c1) (.slice A2 ss.length c2)) hUr (.int .i64 1) (.int .i64 0) (.slice none 0 0)
    exact ⟨A1, c1, A2, c2, _, _, rfl, HCC.out.1, fun X hw => HSB.out.1 X ⟨Nat.le_trans hbz.size hw.1, fun i hi hne => (hw.2 i (Nat.lt_of_lt_of_le hi hbz.size) hne).trans (hbz.block i hi)⟩, HCC.out.2, fun X hw => HSB.out.2 X ⟨Nat.le_trans hbz.size hw.1, fun i hi hne => (hw.2 i (Nat.lt_of_lt_of_le hi hbz.size) hne).trans (hbz.block i hi)⟩, hbz⟩
  have b1 : decide (k ≤ ix) = false := decide_eq_false (by omega)
  cases hb2 : numB k 1
  · clear hk1
    go_wp2_with fail
    refine (numB96 k y).mono ?_
    rintro e w' ⟨rfl, y, rfl⟩
    rw [hb2]
    clear hb2
    go_wp2_with fail
    have kq := far3b (put3 (blk_below HQ1.out y.below) (.int .i64 ix) (.slice A1 l.length c1) (.slice A2 ss.length c2)) n1 (.int .i64 1) (.int .i64 0) (.slice none 0 0)
    have kr := put3 (far3b (blk_below HR1.out y.below) n2 (.int .i64 ix) (.slice A1 l.length c1) (.slice A2 ss.length c2)) (.int .i64 1) (.int .i64 0) (.slice none 0 0)
    refine bodyPost_ret (results_cc rfl _ _ q r 60 70 #[.int .i64 ix, .slice A1 l.length c1, .slice A2 ss.length c2] #[.int .i64 1, .int .i64 0, .slice none 0 0] (0, 0) (0, 0) _ _ rfl kq Tryz.underlying60 rfl (by kernel_rfl) rfl kr Tryz.underlying70 rfl (by kernel_rfl)) rfl ?_
    have hUq : w.heap.size ≤ q := by have := HNE.out; omega
    have hUr : w.heap.size ≤ r := by have := HNE.out; omega
    have hbz := below3 (below3 (QB.below_trans HB1.out y.below) hUq (.int .i64 ix) (.slice A1 l.length c1) (.slice A2 ss.length c2)) hUr (.int .i64 1) (.int .i64 0) (.slice none 0 0)
    exact ⟨A1, c1, A2, c2, _, _, rfl, HCC.out.1, fun X hw => HSB.out.1 X ⟨Nat.le_trans hbz.size hw.1, fun i hi hne => (hw.2 i (Nat.lt_of_lt_of_le hi hbz.size) hne).trans (hbz.block i hi)⟩, HCC.out.2, fun X hw => HSB.out.2 X ⟨Nat.le_trans hbz.size hw.1, fun i hi hne => (hw.2 i (Nat.lt_of_lt_of_le hi hbz.size) hne).trans (hbz.block i hi)⟩, hbz⟩
  have hv := HNO.out ⟨hk1, of_decide_eq_true hb2⟩
  have HV := Aside0.mk hv
  clear hk1 hv
  · go_wp2_with fail
    refine (numB96 k y).mono ?_
    rintro e w' ⟨rfl, y, rfl⟩
    rw [hb2]
    clear hb2
    go_wp2_with fail
    refine (QB.call (cmd58_del a q0 id HID.out y.val)).mono ?_
    rintro e w' ⟨rfl, y, rfl⟩
    rw [HV.out]
    go_wp2_with fail
    have kq := far3b (put3 (blk_below HQ1.out y.below) (.int .i64 ix) (.slice A1 l.length c1) (.slice A2 ss.length c2)) n1 (.int .i64 1) (.int .i64 0) (.slice none 0 0)
    have kr := put3 (far3b (blk_below HR1.out y.below) n2 (.int .i64 ix) (.slice A1 l.length c1) (.slice A2 ss.length c2)) (.int .i64 1) (.int .i64 0) (.slice none 0 0)
    refine bodyPost_ret (results_cc rfl _ _ q r 60 70 #[.int .i64 ix, .slice A1 l.length c1, .slice A2 ss.length c2] #[.int .i64 1, .int .i64 0, .slice none 0 0] (0, 0) (0, 0) _ _ rfl kq Tryz.underlying60 rfl (by kernel_rfl) rfl kr Tryz.underlying70 rfl (by kernel_rfl)) rfl ?_
    have hUq : w.heap.size ≤ q := by have := HNE.out; omega
    have hUr : w.heap.size ≤ r := by have := HNE.out; omega
    have hbz := below3 (below3 (QB.below_trans HB1.out y.below) hUq (.int .i64 ix) (.slice A1 l.length c1) (.slice A2 ss.length c2)) hUr (.int .i64 1) (.int .i64 0) (.slice none 0 0)
    exact ⟨A1, c1, A2, c2, _, _, rfl, HCC.out.1, fun X hw => HSB.out.1 X ⟨Nat.le_trans hbz.size hw.1, fun i hi hne => (hw.2 i (Nat.lt_of_lt_of_le hi hbz.size) hne).trans (hbz.block i hi)⟩, HCC.out.2, fun X hw => HSB.out.2 X ⟨Nat.le_trans hbz.size hw.1, fun i hi hne => (hw.2 i (Nat.lt_of_lt_of_le hi hbz.size) hne).trans (hbz.block i hi)⟩, hbz⟩
set_option maxRecDepth 100000 in
set_option maxHeartbeats 4000000 in
theorem rfd_yes {w : World} {ix : Int} {l : List S36} {ss : List S140} {A1 A2 : Option Addr} {c1 c2 : Nat} (hC1 : Kd.C k36 w A1 l.length l) (hc1 : l.length ≤ c1) (hC2 : Kd.C k140 w A2 ss.length ss) (hc2 : ss.length ≤ c2) {S : Nat → Prop} (hSl : ∀ i, S i → i < w.heap.size) (hS1 : ∀ W', Kept w W' S → Kd.C k36 W' A1 l.length l) (hS2 : ∀ W', Kept w W' S → Kd.C k140 W' A2 ss.length ss) (k a q0 : Int) (id : ByteArray) (hid : id.size ≤ 140737488351232) (hm : mayP ss) (hdoc : DocsOk l) (hk : ix < k ∧ 1 ≤ k ∧ k < 1099511627776) (hv : mayD a q0 id = true) (kc : Nat) (hcs : lecternref0_CopyState.f kc ix l ss = some (ix, l, ss)) :
    Calls Tryz.prog 61 #[.agg #[.int .i64 ix, .slice A1 l.length c1, .slice A2 ss.length c2], .int .i64 k, .agg #[.int .i64 3, .int .i64 a, .int .i64 q0, .string id, .string ⟨#[]⟩]] w (RefD w S k (docs (delA (pairs l) ss a q0 id.data.toList k).2) (delA (pairs l) ss a q0 id.data.toList k).1.2 (delA (pairs l) ss a q0 id.data.toList k).1.1.1 (delA (pairs l) ss a q0 id.data.toList k).1.1.2) := by
  have HC1 := Aside0.mk hC1
  have HC2 := Aside0.mk hC2
  have HCC := Aside0.mk (And.intro hc1 hc2)
  have HSL := Aside0.mk hSl
  have HID := Aside0.mk hid
  have HSB := Aside0.mk (And.intro hS1 hS2)
  have hu60 := Tryz.underlying60
  have hu70 := Tryz.underlying70
  have hu73 := Tryz.underlying73
  clear hC1 hC2 hc1 hc2 hSl hid hS1 hS2
  have HMAY := Aside0.mk hm
  have HDOC := Aside0.mk hdoc
  have hnq : numB q0 1 = true := (Bool.and_eq_true_iff.1 (Bool.and_eq_true_iff.1 hv).1).2
  have HNQ := Aside0.mk hnq
  have HV := Aside0.mk hv
  have HCS := Aside0.mk hcs
  have b1 : decide (k ≤ ix) = false := decide_eq_false (by omega)
  have HK : Aside0 (numB k 1 = true) := ⟨decide_eq_true hk.2⟩
  obtain ⟨v, hbv⟩ : ∃ v, beginV ss a q0 = v := ⟨_, rfl⟩
  have HBV := Aside0.mk hbv
  clear hm hdoc hnq hv hcs hk hbv
  go_enter Tryz.func61, Tryz.ntmps61
  go_upto_region 1 with (fail)
  obtain ⟨s, hse⟩ : ∃ b, b = w.heap.size := ⟨_, rfl⟩
  obtain ⟨p, hpe⟩ : ∃ b, b = w.heap.size + 1 := ⟨_, rfl⟩
  obtain ⟨q, hqe⟩ : ∃ b, b = w.heap.size + 1 + 1 := ⟨_, rfl⟩
  obtain ⟨r, hre⟩ : ∃ b, b = w.heap.size + 1 + 1 + 1 := ⟨_, rfl⟩
  obtain ⟨wa, hwa⟩ : ∃ z, z = w.alloc (.cells #[.int .i64 ix, .slice A1 l.length c1, .slice A2 ss.length c2] 60) := ⟨_, rfl⟩
  obtain ⟨wb, hwb⟩ : ∃ z, z = wa.alloc (.cells #[.int .i64 3, .int .i64 a, .int .i64 q0, .string id, .string ⟨#[]⟩] 73) := ⟨_, rfl⟩
  obtain ⟨wc, hwc⟩ : ∃ z, z = wb.alloc (.cells #[.int .i64 0, .slice none 0 0, .slice none 0 0] 60) := ⟨_, rfl⟩
  obtain ⟨w1, hw1⟩ : ∃ z, z = wc.alloc (.cells #[.int .i64 0, .int .i64 0, .slice none 0 0] 70) := ⟨_, rfl⟩
  have hsa : wa.heap.size = w.heap.size + 1 := by rw [hwa]; exact Array.size_push _
  have hsb : wb.heap.size = w.heap.size + 1 + 1 := by rw [hwb, ← hsa]; exact Array.size_push _
  have hsc : wc.heap.size = w.heap.size + 1 + 1 + 1 := by rw [hwc, ← hsb]; exact Array.size_push _
  have HS1 : Aside0 (w1.heap[s]? = some (.cells #[.int .i64 ix, .slice A1 l.length c1, .slice A2 ss.length c2] 60 (0, 0))) := ⟨by rw [hw1]; refine blk_alloc ?_ _; rw [hwc]; refine blk_alloc ?_ _; rw [hwb]; refine blk_alloc ?_ _; rw [hwa, hse]; exact heap_alloc_new w _⟩
  have HP1 : Aside0 (w1.heap[p]? = some (.cells #[.int .i64 3, .int .i64 a, .int .i64 q0, .string id, .string ⟨#[]⟩] 73 (0, 0))) := ⟨by rw [hw1]; refine blk_alloc ?_ _; rw [hwc]; refine blk_alloc ?_ _; rw [hwb, hpe, ← hsa]; exact heap_alloc_new wa _⟩
  have HQ1 : Aside0 (w1.heap[q]? = some (.cells #[.int .i64 0, .slice none 0 0, .slice none 0 0] 60 (0, 0))) := ⟨by rw [hw1]; refine blk_alloc ?_ _; rw [hwc, hqe, ← hsb]; exact heap_alloc_new wb _⟩
  have HR1 : Aside0 (w1.heap[r]? = some (.cells #[.int .i64 0, .int .i64 0, .slice none 0 0] 70 (0, 0))) := ⟨by rw [hw1, hre, ← hsc]; exact heap_alloc_new wc _⟩
  have HB1 : Aside0 (Below w.heap.size w w1) := ⟨by rw [hw1, hwc, hwb, hwa]; exact below_alloc (below_alloc (below_alloc (below_alloc (Below.refl _ _) _) _) _) _⟩
  try rw [← hre]
  try rw [← hqe]
  try rw [← hpe]
  rw [← hse, ← hwa, ← hwb, ← hwc, ← hw1]
  have HNE := Aside0.mk (show s = w.heap.size ∧ p = w.heap.size + 1 ∧ q = w.heap.size + 2 ∧ r = w.heap.size + 3 from ⟨hse, hpe, hqe, hre⟩)
  clear hse hpe hqe hre hwa hwb hwc hw1 hsa hsb hsc
  have s0 : ∀ x : QB.Later w1, x.val.cell? ⟨s, 0, none⟩ = some (.int .i64 ix) := fun x => (blk_cell (blk_below HS1.out x.below) 0).trans rfl
  have s1 : ∀ x : QB.Later w1, x.val.cell? ⟨s, 1, none⟩ = some (.slice A1 l.length c1) := fun x => (blk_cell (blk_below HS1.out x.below) 1).trans rfl
  have s2 : ∀ x : QB.Later w1, x.val.cell? ⟨s, 2, none⟩ = some (.slice A2 ss.length c2) := fun x => (blk_cell (blk_below HS1.out x.below) 2).trans rfl
  have p0 : ∀ x : QB.Later w1, x.val.cell? ⟨p, 0, none⟩ = some (.int .i64 3) := fun x => (blk_cell (blk_below HP1.out x.below) 0).trans rfl
  have p1 : ∀ x : QB.Later w1, x.val.cell? ⟨p, 1, none⟩ = some (.int .i64 a) := fun x => (blk_cell (blk_below HP1.out x.below) 1).trans rfl
  have p2 : ∀ x : QB.Later w1, x.val.cell? ⟨p, 2, none⟩ = some (.int .i64 q0) := fun x => (blk_cell (blk_below HP1.out x.below) 2).trans rfl
  have p3 : ∀ x : QB.Later w1, x.val.cell? ⟨p, 3, none⟩ = some (.string id) := fun x => (blk_cell (blk_below HP1.out x.below) 3).trans rfl
  have p4 : ∀ x : QB.Later w1, x.val.cell? ⟨p, 4, none⟩ = some (.string ⟨#[]⟩) := fun x => (blk_cell (blk_below HP1.out x.below) 4).trans rfl
  have qz0 : ∀ x : QB.Later w1, x.val.cell? ⟨q, 0, none⟩ = some (.int .i64 0) := fun x => (blk_cell (blk_below HQ1.out x.below) 0).trans rfl
  have qz1 : ∀ x : QB.Later w1, x.val.cell? ⟨q, 1, none⟩ = some (.slice none 0 0) := fun x => (blk_cell (blk_below HQ1.out x.below) 1).trans rfl
  have qz2 : ∀ x : QB.Later w1, x.val.cell? ⟨q, 2, none⟩ = some (.slice none 0 0) := fun x => (blk_cell (blk_below HQ1.out x.below) 2).trans rfl
  have r0 : ∀ x : QB.Later w1, x.val.cell? ⟨r, 0, none⟩ = some (.int .i64 0) := fun x => (blk_cell (blk_below HR1.out x.below) 0).trans rfl
  have r1 : ∀ x : QB.Later w1, x.val.cell? ⟨r, 1, none⟩ = some (.int .i64 0) := fun x => (blk_cell (blk_below HR1.out x.below) 1).trans rfl
  have r2 : ∀ x : QB.Later w1, x.val.cell? ⟨r, 2, none⟩ = some (.slice none 0 0) := fun x => (blk_cell (blk_below HR1.out x.below) 2).trans rfl
  have fq0 : ∀ x : QB.Later w1, x.val.frozen? ⟨q, 0, none⟩ = false := fun x => blk_frozen (blk_below HQ1.out x.below) 0
  have fq1 : ∀ x : QB.Later w1, x.val.frozen? ⟨q, 1, none⟩ = false := fun x => blk_frozen (blk_below HQ1.out x.below) 1
  have fq2 : ∀ x : QB.Later w1, x.val.frozen? ⟨q, 2, none⟩ = false := fun x => blk_frozen (blk_below HQ1.out x.below) 2
  have fr0 : ∀ x : QB.Later w1, x.val.frozen? ⟨r, 0, none⟩ = false := fun x => blk_frozen (blk_below HR1.out x.below) 0
  have fr1 : ∀ x : QB.Later w1, x.val.frozen? ⟨r, 1, none⟩ = false := fun x => blk_frozen (blk_below HR1.out x.below) 1
  have fr2 : ∀ x : QB.Later w1, x.val.frozen? ⟨r, 2, none⟩ = false := fun x => blk_frozen (blk_below HR1.out x.below) 2
  have fs0 : ∀ x : QB.Later w1, x.val.frozen? ⟨s, 0, none⟩ = false := fun x => blk_frozen (blk_below HS1.out x.below) 0
  have fs1 : ∀ x : QB.Later w1, x.val.frozen? ⟨s, 1, none⟩ = false := fun x => blk_frozen (blk_below HS1.out x.below) 1
  have fs2 : ∀ x : QB.Later w1, x.val.frozen? ⟨s, 2, none⟩ = false := fun x => blk_frozen (blk_below HS1.out x.below) 2
  have n1 : q ≠ r := by have := HNE.out; omega
  have n2 : r ≠ q := Ne.symm n1
  obtain ⟨y, hy⟩ : ∃ y : QB.Later w1, y.val = w1 := ⟨QB.Later.mk (Below.refl _ _), rfl⟩
  rw [← hy]
  clear hy
  go_wp2_with fail
  refine (numB96 k y).mono ?_
  rintro e w' ⟨rfl, y, rfl⟩
  rw [HK.out]
  go_wp2_with fail
  refine (QB.call (cmd58_del a q0 id HID.out y.val)).mono ?_
  rintro e w' ⟨rfl, y, rfl⟩
  rw [HV.out]
  go_wp2_with fail
  refine (lecternref0_CopyState.calls kc ix A1 c1 l A2 c2 ss ix l ss y.val (Kd.C_below HC1.out (QB.below_trans HB1.out y.below)) HCC.out.1 (Kd.C_below HC2.out (QB.below_trans HB1.out y.below)) HCC.out.2 HCS.out).mono ?_
  rintro e w' ⟨v1, v2, rfl, hr1, hr2, hb4⟩
  obtain ⟨A4, c4, rfl⟩ := Kd.R_slice hr1
  obtain ⟨A5, c5, rfl⟩ := Kd.R_slice (Kd.S_R hr2)
  have HV1 := Aside0.mk (Kd.R_lower hr1 (QB.below_trans HB1.out y.below).size)
  have HV2 := Aside0.mk (Kd.S_lower hr2 (QB.below_trans HB1.out y.below).size)
  have hb5 := QB.below_trans y.below hb4
  clear hr1 hr2 hb4
  obtain ⟨y, rfl⟩ : ∃ z : QB.Later w1, w' = z.val := ⟨QB.Later.mk hb5, rfl⟩
  clear hb5
  go_upto_region 5 with (fail)
  have nsp : p ≠ s := by have := HNE.out; omega
  have nsq : q ≠ s := by have := HNE.out; omega
  have nsr : r ≠ s := by have := HNE.out; omega
  have hUs : w.heap.size ≤ s := by have := HNE.out; omega
  have hs4 := blk_below HS1.out y.below
  obtain ⟨w5, hw5⟩ : ∃ z, z = (((y.val.setCell ⟨s, 0, none⟩ (.int .i64 ix)).setCell ⟨s, 1, none⟩ (.slice A4 l.length c4)).setCell ⟨s, 2, none⟩ (.slice A5 ss.length c5)).setCell ⟨s, 0, none⟩ (.int .i64 k) := ⟨_, rfl⟩
  rw [← hw5]
  have HS5 : Aside0 (w5.heap[s]? = some (.cells #[.int .i64 k, .slice A4 l.length c4, .slice A5 ss.length c5] 60 (0, 0))) := ⟨by rw [hw5]; exact blk_put (cs := #[.int .i64 ix, .slice A4 l.length c4, .slice A5 ss.length c5]) (put3 hs4 _ _ _) 0 (.int .i64 k) rfl⟩
  have HP5 : Aside0 (w5.heap[p]? = some (.cells #[.int .i64 3, .int .i64 a, .int .i64 q0, .string id, .string ⟨#[]⟩] 73 (0, 0))) := ⟨by rw [hw5]; exact blk_far (far3b (blk_below HP1.out y.below) nsp _ _ _) nsp _⟩
  have HQ5 : Aside0 (w5.heap[q]? = some (.cells #[.int .i64 0, .slice none 0 0, .slice none 0 0] 60 (0, 0))) := ⟨by rw [hw5]; exact blk_far (far3b (blk_below HQ1.out y.below) nsq _ _ _) nsq _⟩
  have HR5 : Aside0 (w5.heap[r]? = some (.cells #[.int .i64 0, .int .i64 0, .slice none 0 0] 70 (0, 0))) := ⟨by rw [hw5]; exact blk_far (far3b (blk_below HR1.out y.below) nsr _ _ _) nsr _⟩
  have HB5 : Aside0 (Below w.heap.size w w5) := ⟨by rw [hw5]; exact below_set (below3 (QB.below_trans HB1.out y.below) hUs _ _ _) hUs⟩
  have HD5 : Aside0 (Kd.R k36 36 w5 w.heap.size (fun _ => True) (.slice A4 l.length c4) l) := ⟨by rw [hw5]; exact Kd.R_set (R_set3 HV1.out hs4 (by decide) _ _ _) (put3 hs4 _ _ _) (by decide) 0 _⟩
  have HE5 : Aside0 (Kd.S k140 140 w5 w.heap.size (fun _ => True) (.slice A5 ss.length c5) ss) := ⟨by rw [hw5]; exact Kd.S_set (S_set3 HV2.out hs4 (by decide) _ _ _) (put3 hs4 _ _ _) (by decide) 0 _⟩
  clear hs4 hw5 HV1 HV2 nsp HS1 HP1 HQ1 HR1 HB1 s0 s1 s2 p0 p1 p2 p3 p4 qz0 qz1 qz2 r0 r1 r2 fq0 fq1 fq2 fr0 fr1 fr2 fs0 fs1 fs2 y
  have s0 : ∀ x : QB.Later w5, x.val.cell? ⟨s, 0, none⟩ = some (.int .i64 k) := fun x => (blk_cell (blk_below HS5.out x.below) 0).trans rfl
  have s1 : ∀ x : QB.Later w5, x.val.cell? ⟨s, 1, none⟩ = some (.slice A4 l.length c4) := fun x => (blk_cell (blk_below HS5.out x.below) 1).trans rfl
  have s2 : ∀ x : QB.Later w5, x.val.cell? ⟨s, 2, none⟩ = some (.slice A5 ss.length c5) := fun x => (blk_cell (blk_below HS5.out x.below) 2).trans rfl
  have p0 : ∀ x : QB.Later w5, x.val.cell? ⟨p, 0, none⟩ = some (.int .i64 3) := fun x => (blk_cell (blk_below HP5.out x.below) 0).trans rfl
  have p1 : ∀ x : QB.Later w5, x.val.cell? ⟨p, 1, none⟩ = some (.int .i64 a) := fun x => (blk_cell (blk_below HP5.out x.below) 1).trans rfl
  have p2 : ∀ x : QB.Later w5, x.val.cell? ⟨p, 2, none⟩ = some (.int .i64 q0) := fun x => (blk_cell (blk_below HP5.out x.below) 2).trans rfl
  have p3 : ∀ x : QB.Later w5, x.val.cell? ⟨p, 3, none⟩ = some (.string id) := fun x => (blk_cell (blk_below HP5.out x.below) 3).trans rfl
  have qz0 : ∀ x : QB.Later w5, x.val.cell? ⟨q, 0, none⟩ = some (.int .i64 0) := fun x => (blk_cell (blk_below HQ5.out x.below) 0).trans rfl
  have qz1 : ∀ x : QB.Later w5, x.val.cell? ⟨q, 1, none⟩ = some (.slice none 0 0) := fun x => (blk_cell (blk_below HQ5.out x.below) 1).trans rfl
  have qz2 : ∀ x : QB.Later w5, x.val.cell? ⟨q, 2, none⟩ = some (.slice none 0 0) := fun x => (blk_cell (blk_below HQ5.out x.below) 2).trans rfl
  have r0 : ∀ x : QB.Later w5, x.val.cell? ⟨r, 0, none⟩ = some (.int .i64 0) := fun x => (blk_cell (blk_below HR5.out x.below) 0).trans rfl
  have r1 : ∀ x : QB.Later w5, x.val.cell? ⟨r, 1, none⟩ = some (.int .i64 0) := fun x => (blk_cell (blk_below HR5.out x.below) 1).trans rfl
  have r2 : ∀ x : QB.Later w5, x.val.cell? ⟨r, 2, none⟩ = some (.slice none 0 0) := fun x => (blk_cell (blk_below HR5.out x.below) 2).trans rfl
  have fq0 : ∀ x : QB.Later w5, x.val.frozen? ⟨q, 0, none⟩ = false := fun x => blk_frozen (blk_below HQ5.out x.below) 0
  have fq1 : ∀ x : QB.Later w5, x.val.frozen? ⟨q, 1, none⟩ = false := fun x => blk_frozen (blk_below HQ5.out x.below) 1
  have fq2 : ∀ x : QB.Later w5, x.val.frozen? ⟨q, 2, none⟩ = false := fun x => blk_frozen (blk_below HQ5.out x.below) 2
  have fr0 : ∀ x : QB.Later w5, x.val.frozen? ⟨r, 0, none⟩ = false := fun x => blk_frozen (blk_below HR5.out x.below) 0
  have fr1 : ∀ x : QB.Later w5, x.val.frozen? ⟨r, 1, none⟩ = false := fun x => blk_frozen (blk_below HR5.out x.below) 1
  have fr2 : ∀ x : QB.Later w5, x.val.frozen? ⟨r, 2, none⟩ = false := fun x => blk_frozen (blk_below HR5.out x.below) 2
  obtain ⟨y, hy⟩ : ∃ y : QB.Later w5, y.val = w5 := ⟨QB.Later.mk (Below.refl _ _), rfl⟩
  rw [← hy]
  clear hy
  go_wp2_with fail
  refine (begin100 HMAY.out a q0 HNQ.out A5 c5 y.val (Kd.R_reads' (Kd.S_R (Kd.S_below HE5.out y.below))).2.2 (Kd.R_reads' (Kd.S_R HE5.out)).2.1).mono ?_
  rintro e w' ⟨A9, c9, rfl, hb⟩
  have hb2 := QB.below_trans y.below hb
  clear hb
  obtain ⟨y, rfl⟩ : ∃ z : QB.Later w5, w' = z.val := ⟨QB.Later.mk hb2, rfl⟩
  clear hb2
  rw [HBV.out]
  go_upto_region 11 with (fail)
  obtain ⟨t, hte⟩ : ∃ b, b = y.val.heap.size := ⟨_, rfl⟩
  obtain ⟨w6, hw6⟩ : ∃ z, z = y.val.alloc (.cells #[.int .i64 v.1, .int .i64 v.2.1, .slice A9 0 c9] 70) := ⟨_, rfl⟩
  have HT6 : Aside0 (w6.heap[t]? = some (.cells #[.int .i64 v.1, .int .i64 v.2.1, .slice A9 0 c9] 70 (0, 0))) := ⟨by rw [hw6, hte]; exact heap_alloc_new y.val _⟩
  have HB6 : Aside0 (Below w5.heap.size w5 w6) := ⟨by rw [hw6]; exact below_alloc y.below _⟩
  rw [← hw6, ← hte]
  have HTN : Aside0 (q < t ∧ r < t) := ⟨by have h1 := blk_lt HQ5.out; have h2 := blk_lt HR5.out; have h3 := y.below.size; omega⟩
  clear hw6 hte y
  replace s0 := fun x : QB.Later w6 => s0 (QB.Later.mk (QB.below_trans HB6.out x.below))
  replace s1 := fun x : QB.Later w6 => s1 (QB.Later.mk (QB.below_trans HB6.out x.below))
  replace s2 := fun x : QB.Later w6 => s2 (QB.Later.mk (QB.below_trans HB6.out x.below))
  replace p0 := fun x : QB.Later w6 => p0 (QB.Later.mk (QB.below_trans HB6.out x.below))
  replace p1 := fun x : QB.Later w6 => p1 (QB.Later.mk (QB.below_trans HB6.out x.below))
  replace p2 := fun x : QB.Later w6 => p2 (QB.Later.mk (QB.below_trans HB6.out x.below))
  replace p3 := fun x : QB.Later w6 => p3 (QB.Later.mk (QB.below_trans HB6.out x.below))
  replace qz0 := fun x : QB.Later w6 => qz0 (QB.Later.mk (QB.below_trans HB6.out x.below))
  replace qz1 := fun x : QB.Later w6 => qz1 (QB.Later.mk (QB.below_trans HB6.out x.below))
  replace qz2 := fun x : QB.Later w6 => qz2 (QB.Later.mk (QB.below_trans HB6.out x.below))
  replace r0 := fun x : QB.Later w6 => r0 (QB.Later.mk (QB.below_trans HB6.out x.below))
  replace r1 := fun x : QB.Later w6 => r1 (QB.Later.mk (QB.below_trans HB6.out x.below))
  replace r2 := fun x : QB.Later w6 => r2 (QB.Later.mk (QB.below_trans HB6.out x.below))
  replace fq0 := fun x : QB.Later w6 => fq0 (QB.Later.mk (QB.below_trans HB6.out x.below))
  replace fq1 := fun x : QB.Later w6 => fq1 (QB.Later.mk (QB.below_trans HB6.out x.below))
  replace fq2 := fun x : QB.Later w6 => fq2 (QB.Later.mk (QB.below_trans HB6.out x.below))
  replace fr0 := fun x : QB.Later w6 => fr0 (QB.Later.mk (QB.below_trans HB6.out x.below))
  replace fr1 := fun x : QB.Later w6 => fr1 (QB.Later.mk (QB.below_trans HB6.out x.below))
  replace fr2 := fun x : QB.Later w6 => fr2 (QB.Later.mk (QB.below_trans HB6.out x.below))
  replace s0 : ∀ x : QB.Later w6, x.val.cell? ⟨s, 0, none⟩ = some (.int .i64 k) := s0
  replace s1 : ∀ x : QB.Later w6, x.val.cell? ⟨s, 1, none⟩ = some (.slice A4 l.length c4) := s1
  replace s2 : ∀ x : QB.Later w6, x.val.cell? ⟨s, 2, none⟩ = some (.slice A5 ss.length c5) := s2
  replace p0 : ∀ x : QB.Later w6, x.val.cell? ⟨p, 0, none⟩ = some (.int .i64 3) := p0
  replace p1 : ∀ x : QB.Later w6, x.val.cell? ⟨p, 1, none⟩ = some (.int .i64 a) := p1
  replace p2 : ∀ x : QB.Later w6, x.val.cell? ⟨p, 2, none⟩ = some (.int .i64 q0) := p2
  replace p3 : ∀ x : QB.Later w6, x.val.cell? ⟨p, 3, none⟩ = some (.string id) := p3
  replace qz0 : ∀ x : QB.Later w6, x.val.cell? ⟨q, 0, none⟩ = some (.int .i64 0) := qz0
  replace qz1 : ∀ x : QB.Later w6, x.val.cell? ⟨q, 1, none⟩ = some (.slice none 0 0) := qz1
  replace qz2 : ∀ x : QB.Later w6, x.val.cell? ⟨q, 2, none⟩ = some (.slice none 0 0) := qz2
  replace r0 : ∀ x : QB.Later w6, x.val.cell? ⟨r, 0, none⟩ = some (.int .i64 0) := r0
  replace r1 : ∀ x : QB.Later w6, x.val.cell? ⟨r, 1, none⟩ = some (.int .i64 0) := r1
  replace r2 : ∀ x : QB.Later w6, x.val.cell? ⟨r, 2, none⟩ = some (.slice none 0 0) := r2
  replace fq0 : ∀ x : QB.Later w6, x.val.frozen? ⟨q, 0, none⟩ = false := fq0
  replace fq1 : ∀ x : QB.Later w6, x.val.frozen? ⟨q, 1, none⟩ = false := fq1
  replace fq2 : ∀ x : QB.Later w6, x.val.frozen? ⟨q, 2, none⟩ = false := fq2
  replace fr0 : ∀ x : QB.Later w6, x.val.frozen? ⟨r, 0, none⟩ = false := fr0
  replace fr1 : ∀ x : QB.Later w6, x.val.frozen? ⟨r, 1, none⟩ = false := fr1
  replace fr2 : ∀ x : QB.Later w6, x.val.frozen? ⟨r, 2, none⟩ = false := fr2
  have t0 : ∀ x : QB.Later w6, x.val.cell? ⟨t, 0, none⟩ = some (.int .i64 v.1) := fun x => (blk_cell (blk_below HT6.out x.below) 0).trans rfl
  have t1 : ∀ x : QB.Later w6, x.val.cell? ⟨t, 1, none⟩ = some (.int .i64 v.2.1) := fun x => (blk_cell (blk_below HT6.out x.below) 1).trans rfl
  have t2 : ∀ x : QB.Later w6, x.val.cell? ⟨t, 2, none⟩ = some (.slice A9 0 c9) := fun x => (blk_cell (blk_below HT6.out x.below) 2).trans rfl
  obtain ⟨y, hy⟩ : ∃ y : QB.Later w6, y.val = w6 := ⟨QB.Later.mk (Below.refl _ _), rfl⟩
  rw [← hy]
  clear hy
  have HR : Aside0 (delA (pairs l) ss a q0 id.data.toList k = (if v.2.2.2 = 0 then (if v.2.2.1 = true then (((v.1, v.2.1), ss), pairs l) else ((((delV (pairs l) id.data.toList).2, 0), doneTo ss a q0 (delV (pairs l) id.data.toList).2 0 k), (delV (pairs l) id.data.toList).1)) else (((v.2.2.2, 0), ss), pairs l))) := ⟨by unfold delA; rw [HBV.out]⟩
  obtain ⟨v1, v2, v3, v4⟩ := v
  dsimp only at t0 t1 HR HBV ⊢
  have hUq : w.heap.size ≤ q := by have := HNE.out; omega
  have hUr : w.heap.size ≤ r := by have := HNE.out; omega
  have HUU := Aside0.mk (And.intro hUq (And.intro hUr hUs))
  have HFIN : Aside0 (∀ (z : QB.Later w6) (u0 u1 u2 : Value), (six z.val q r (.int .i64 k) (.slice A4 l.length c4) (.slice A5 ss.length c5) u0 u1 u2).heap[q]? = some (.cells #[.int .i64 k, .slice A4 l.length c4, .slice A5 ss.length c5] 60 (0, 0)) ∧ (six z.val q r (.int .i64 k) (.slice A4 l.length c4) (.slice A5 ss.length c5) u0 u1 u2).heap[r]? = some (.cells #[u0, u1, u2] 70 (0, 0)) ∧ (∀ (e0 n0 : Int) (A3 : Option Addr) (c3 : Nat), RefD w S k l ss e0 n0 (.returned (.tuple #[.agg #[.int .i64 k, .slice A4 l.length c4, .slice A5 ss.length c5], .agg #[.int .i64 e0, .int .i64 n0, .slice A3 0 c3]])) (six z.val q r (.int .i64 k) (.slice A4 l.length c4) (.slice A5 ss.length c5) u0 u1 u2))) := ⟨fun z u0 u1 u2 => by
    have hz := QB.below_trans HB6.out z.below
    have hq := blk_below HQ5.out hz
    have hr := blk_below HR5.out hz
    have hbz := below3 (below3 (QB.below_trans HB5.out hz) HUU.out.1 (.int .i64 k) (.slice A4 l.length c4) (.slice A5 ss.length c5)) HUU.out.2.1 u0 u1 u2
    have hr2 := far3b hr n2 (.int .i64 k) (.slice A4 l.length c4) (.slice A5 ss.length c5)
    have d1 := R_set3 (R_set3 (Kd.R_below HD5.out hz) hq (by decide) (.int .i64 k) (.slice A4 l.length c4) (.slice A5 ss.length c5)) hr2 (by decide) u0 u1 u2
    have d2 := S_set3 (S_set3 (Kd.S_below HE5.out hz) hq (by decide) (.int .i64 k) (.slice A4 l.length c4) (.slice A5 ss.length c5)) hr2 (by decide) u0 u1 u2
    have e1 := sure_Rs d1 HSL.out
    have e2 := sure_Ss d2 HSL.out
    exact ⟨far3b (put3 hq _ _ _) n1 _ _ _, put3 hr2 _ _ _, fun e0 n0 A3 c3 => ⟨A4, c4, A5, c5, A3, c3, rfl, e1.1, e1.2, e2.1, e2.2, hbz⟩⟩⟩
  by_cases her : v4 = 0
  rotate_left
  · have e1 : (v4 != 0) = true := bne_iff_ne.mpr her
    rw [if_neg her] at HR
    clear her
    go_wp2_with fail
    obtain ⟨h1, h2, h3⟩ := HFIN.out y (.int .i64 v4) (.int .i64 0) (.slice none 0 0)
    refine bodyPost_ret (results_cc rfl _ _ q r 60 70 #[.int .i64 k, .slice A4 l.length c4, .slice A5 ss.length c5] #[.int .i64 v4, .int .i64 0, .slice none 0 0] (0, 0) (0, 0) _ _ rfl h1 Tryz.underlying60 rfl (by kernel_rfl) rfl h2 Tryz.underlying70 rfl (by kernel_rfl)) rfl ?_
    rw [HR.out]
    show RefD w S k (docs (pairs l)) ss v4 0 _ _
    rw [docs_pairs]
    exact h3 _ _ _ _
  rw [if_pos her] at HR
  subst her
  cases v3
  rotate_left
  · rw [if_pos rfl] at HR
    have m1 : t ≠ q := by have := HTN.out; omega
    have m2 : q ≠ t := Ne.symm m1
    have m3 : t ≠ r := by have := HTN.out; omega
    have m4 : r ≠ t := Ne.symm m3
    go_wp2_with fail
    go_region
    go_wp2_with fail
    obtain ⟨h1, h2, h3⟩ := HFIN.out y (.int .i64 v1) (.int .i64 v2) (.slice A9 0 c9)
    refine bodyPost_ret (results_cc rfl _ _ q r 60 70 #[.int .i64 k, .slice A4 l.length c4, .slice A5 ss.length c5] #[.int .i64 v1, .int .i64 v2, .slice A9 0 c9] (0, 0) (0, 0) _ _ rfl (blk_drew h1) Tryz.underlying60 rfl (by kernel_rfl) rfl (blk_drew h2) Tryz.underlying70 rfl (by kernel_rfl)) rfl ?_
    rw [HR.out]
    show RefD w S k (docs (pairs l)) ss v1 v2 _ _
    rw [docs_pairs]
    exact (h3 _ _ _ _).drew
  rw [if_neg Bool.false_ne_true] at HR
  obtain ⟨M', hM'⟩ : ∃ z, (delV (pairs l) id.data.toList).1 = z := ⟨_, rfl⟩
  obtain ⟨rc, hr0⟩ : ∃ z, (delV (pairs l) id.data.toList).2 = z := ⟨_, rfl⟩
  have HCO : Aside0 (0 ≤ rc ∧ rc ≤ 10) := ⟨by rw [← hr0]; exact delV_code _ _⟩
  rw [hM', hr0] at HR
  obtain ⟨l', hl'⟩ : ∃ z, docs M' = z := ⟨_, rfl⟩
  obtain ⟨kd, HDELF⟩ : ∃ kd, Aside0 (lecternref8_Delete.f kd l id = some (l', rc)) := by
    by_cases hsz : id.size ≤ 1000000000000
    · obtain ⟨kd, hk⟩ := Ev.some (refDel_is HDOC.out id hsz)
      rw [hM', hr0, hl'] at hk
      exact ⟨kd, ⟨hk⟩⟩
    · have h1 := HV.out
      unfold mayD at h1
      have h2 := of_decide_eq_true (Bool.and_eq_true_iff.1 h1).2
      omega
  obtain ⟨rs, hrs⟩ : ∃ rs, doneTo ss a q0 rc 0 k = rs := ⟨_, rfl⟩
  have HANY : Aside0 (anyS ss a = true) := ⟨by
    have h := HBV.out
    unfold beginV at h
    cases hh : anyS ss a
    · rw [hh] at h; simp at h
    · rfl⟩
  obtain ⟨kf, HDN⟩ : ∃ kf, Aside0 (lecternref14_Done.f kf ss a q0 rc 0 [] k = some (rs, 0)) := by
    obtain ⟨kf, hk⟩ := Ev.some (refDone_is HMAY.out a q0 rc 0 [] k)
    refine ⟨kf, ⟨hk.trans ?_⟩⟩
    have e2 : replyB rc 0 [] = true := by
      have h1 := HCO.out
      unfold replyB numB
      simp [h1.1, h1.2]
    unfold doneV
    rw [if_pos HNQ.out, if_pos HK.out, if_pos e2, if_pos HANY.out, hrs]
  rw [hrs] at HR
  clear hrs hM' hr0
  have HLM : Aside0 (docs M' = l') := ⟨hl'⟩
  clear hl'
  go_wp2_with fail
  have hz := QB.below_trans HB6.out y.below
  have HSY := Aside0.mk (blk_below HS5.out hz)
  have HPY := Aside0.mk (blk_below HP5.out hz)
  have HQY := Aside0.mk (blk_below HQ5.out hz)
  have HRY := Aside0.mk (blk_below HR5.out hz)
  have HTY := Aside0.mk (blk_below HT6.out y.below)
  have HEY := Aside0.mk (Kd.S_below HE5.out hz)
  have HBY := Aside0.mk (QB.below_trans HB5.out hz)
  refine (lecternref8_Delete.calls kd _ _ l id l' rc w y.val HBY.out (Kd.R_bound (Kd.R_below HD5.out hz)) HDELF.out).mono ?_
  rintro e w7 ⟨v7, rfl, hr7, hb7, hk7⟩
  obtain ⟨A7, c7, rfl⟩ := Kd.R_slice hr7
  have HS7 := Aside0.mk ((hk7.2 s (blk_lt HSY.out) (not36 HSY.out (by decide))).trans HSY.out)
  have HP7 := Aside0.mk ((hk7.2 p (blk_lt HPY.out) (not36 HPY.out (by decide))).trans HPY.out)
  have HQ7 := Aside0.mk ((hk7.2 q (blk_lt HQY.out) (not36 HQY.out (by decide))).trans HQY.out)
  have HR7 := Aside0.mk ((hk7.2 r (blk_lt HRY.out) (not36 HRY.out (by decide))).trans HRY.out)
  have HT7 := Aside0.mk ((hk7.2 t (blk_lt HTY.out) (not36 HTY.out (by decide))).trans HTY.out)
  have HE7 : Aside0 (Kd.S k140 140 w7 w.heap.size (fun _ => True) (.slice A5 ss.length c5) ss) := ⟨Kd.S_mono (Kd.S_step (Kd.S_bound HEY.out) (fun i hi hlt => hk7.2 i hlt (by
    obtain ⟨_, _, _, q', hq', cells, hc⟩ := hi
    have hh : ∀ q', q' ∈ 140 :: k140.E → ∀ q, q ∈ 36 :: k36.E → q ≠ q' := by decide
    exact not36 hc (hh q' hq')))) (fun _ _ => trivial)⟩
  have HD7 : Aside0 (Kd.R k36 36 w7 w.heap.size (fun _ => True) (.slice A7 l'.length c7) l') := ⟨Kd.R_mono hr7 (fun _ _ => trivial)⟩
  have HB7 := Aside0.mk hb7
  clear hz hr7 hb7 hk7 s0 s1 s2 p0 p1 p2 p3 qz0 qz1 qz2 r0 r1 r2 fq0 fq1 fq2 fr0 fr1 fr2 t0 t1 t2
  have HNT : Aside0 (t ≠ s ∧ t ≠ p ∧ t ≠ q ∧ t ≠ r ∧ w.heap.size ≤ t) := ⟨by have h1 := HTN.out; have h2 := HNE.out; omega⟩
  have m1 : t ≠ s := HNT.out.1
  have m2 : s ≠ t := Ne.symm m1
  have nsp : p ≠ s := by have := HNE.out; omega
  have m3 : s ≠ p := Ne.symm nsp
  have f0 := blk_frozen HT7.out 0
  have f1 := blk_frozen HT7.out 1
  have f2 := blk_frozen HT7.out 2
  have g1 := blk_frozen HS7.out 1
  have g2 := blk_frozen HS7.out 2
  have s1 : w7.cell? ⟨s, 1, none⟩ = some (.slice A4 l.length c4) := (blk_cell HS7.out 1).trans rfl
  have t0 : w7.cell? ⟨t, 0, none⟩ = some (.int .i64 v1) := (blk_cell HT7.out 0).trans rfl
  have t1 : w7.cell? ⟨t, 1, none⟩ = some (.int .i64 v2) := (blk_cell HT7.out 1).trans rfl
  have t2 : w7.cell? ⟨t, 2, none⟩ = some (.slice A9 0 c9) := (blk_cell HT7.out 2).trans rfl
  go_upto_region 22 with (fail)
  obtain ⟨w8, hw8⟩ : ∃ z, z = (((w7.setCell ⟨s, 1, none⟩ (.slice A7 l'.length c7)).setCell ⟨t, 0, none⟩ (.int .i64 rc)).setCell ⟨t, 1, none⟩ (.int .i64 0)).setCell ⟨t, 2, none⟩ (.slice none 0 0) := ⟨_, rfl⟩
  have ks := blk_put (cs := #[.int .i64 k, .slice A4 l.length c4, .slice A5 ss.length c5]) HS7.out 1 (.slice A7 l'.length c7) rfl
  have kt := blk_far (p := ⟨s, 1, none⟩) HT7.out m1 (.slice A7 l'.length c7)
  have HS8 : Aside0 (w8.heap[s]? = some (.cells #[.int .i64 k, .slice A7 l'.length c7, .slice A5 ss.length c5] 60 (0, 0))) := ⟨by rw [hw8]; exact far3b ks m2 _ _ _⟩
  have HT8 : Aside0 (w8.heap[t]? = some (.cells #[.int .i64 rc, .int .i64 0, .slice none 0 0] 70 (0, 0))) := ⟨by rw [hw8]; exact put3 kt _ _ _⟩
  have HP8 : Aside0 (w8.heap[p]? = some (.cells #[.int .i64 3, .int .i64 a, .int .i64 q0, .string id, .string ⟨#[]⟩] 73 (0, 0))) := ⟨by rw [hw8]; exact far3b (blk_far (p := ⟨s, 1, none⟩) HP7.out nsp _) (Ne.symm HNT.out.2.1) _ _ _⟩
  have HQ8 : Aside0 (w8.heap[q]? = some (.cells #[.int .i64 0, .slice none 0 0, .slice none 0 0] 60 (0, 0))) := ⟨by rw [hw8]; exact far3b (blk_far (p := ⟨s, 1, none⟩) HQ7.out nsq _) (Ne.symm HNT.out.2.2.1) _ _ _⟩
  have HR8 : Aside0 (w8.heap[r]? = some (.cells #[.int .i64 0, .int .i64 0, .slice none 0 0] 70 (0, 0))) := ⟨by rw [hw8]; exact far3b (blk_far (p := ⟨s, 1, none⟩) HR7.out nsr _) (Ne.symm HNT.out.2.2.2.1) _ _ _⟩
  have HD8 : Aside0 (Kd.R k36 36 w8 w.heap.size (fun _ => True) (.slice A7 l'.length c7) l') := ⟨by rw [hw8]; exact R_set3 (Kd.R_set HD7.out HS7.out (by decide) 1 _) kt (by decide) _ _ _⟩
  have HE8 : Aside0 (Kd.S k140 140 w8 w.heap.size (fun _ => True) (.slice A5 ss.length c5) ss) := ⟨by rw [hw8]; exact S_set3 (Kd.S_set HE7.out HS7.out (by decide) 1 _) kt (by decide) _ _ _⟩
  have HB8 : Aside0 (Below w.heap.size w w8) := ⟨by rw [hw8]; exact below3 (HB7.out.setCell HUU.out.2.2 _) HNT.out.2.2.2.2 _ _ _⟩
  rw [← hw8]
  clear hw8 ks kt f0 f1 f2 g1 g2 s1 t0 t1 t2
  have s0 : w8.cell? ⟨s, 0, none⟩ = some (.int .i64 k) := (blk_cell HS8.out 0).trans rfl
  have s1 : w8.cell? ⟨s, 1, none⟩ = some (.slice A7 l'.length c7) := (blk_cell HS8.out 1).trans rfl
  have s2 : w8.cell? ⟨s, 2, none⟩ = some (.slice A5 ss.length c5) := (blk_cell HS8.out 2).trans rfl
  have p1 : w8.cell? ⟨p, 1, none⟩ = some (.int .i64 a) := (blk_cell HP8.out 1).trans rfl
  have p2 : w8.cell? ⟨p, 2, none⟩ = some (.int .i64 q0) := (blk_cell HP8.out 2).trans rfl
  have t0 : w8.cell? ⟨t, 0, none⟩ = some (.int .i64 rc) := (blk_cell HT8.out 0).trans rfl
  have t1 : w8.cell? ⟨t, 1, none⟩ = some (.int .i64 0) := (blk_cell HT8.out 1).trans rfl
  have t2 : w8.cell? ⟨t, 2, none⟩ = some (.slice none 0 0) := (blk_cell HT8.out 2).trans rfl
  go_wp2_with fail
  have HRS := Aside0.mk (Kd.R_reads' (Kd.S_R HE8.out)).2
  refine (done102 kf A5 c5 ss a q0 rc k rs w8 HRS.out.2 HRS.out.1 HDN.out).mono ?_
  rintro e w9 ⟨v8, rfl, hs9, hb9⟩
  obtain ⟨A8, c8, rfl⟩ := Kd.R_slice (Kd.S_R hs9)
  have HE9 := Aside0.mk (Kd.S_lower hs9 HB8.out.size)
  have HS9 := Aside0.mk (blk_below HS8.out hb9)
  have HQ9 := Aside0.mk (blk_below HQ8.out hb9)
  have HR9 := Aside0.mk (blk_below HR8.out hb9)
  have HT9 := Aside0.mk (blk_below HT8.out hb9)
  have HD9 := Aside0.mk (Kd.R_below HD8.out hb9)
  have HB9 : Aside0 (Below w.heap.size w w9) := ⟨below_step HB8.out hb9⟩
  clear hs9 hb9 s0 s1 s2 p1 p2 t0 t1 t2
  have s0 : w9.cell? ⟨s, 0, none⟩ = some (.int .i64 k) := (blk_cell HS9.out 0).trans rfl
  have s1 : w9.cell? ⟨s, 1, none⟩ = some (.slice A7 l'.length c7) := (blk_cell HS9.out 1).trans rfl
  have s2 : w9.cell? ⟨s, 2, none⟩ = some (.slice A5 ss.length c5) := (blk_cell HS9.out 2).trans rfl
  have g2 := blk_frozen HS9.out 2
  have t0 : w9.cell? ⟨t, 0, none⟩ = some (.int .i64 rc) := (blk_cell HT9.out 0).trans rfl
  have t1 : w9.cell? ⟨t, 1, none⟩ = some (.int .i64 0) := (blk_cell HT9.out 1).trans rfl
  have t2 : w9.cell? ⟨t, 2, none⟩ = some (.slice none 0 0) := (blk_cell HT9.out 2).trans rfl
  have qz0 : w9.cell? ⟨q, 0, none⟩ = some (.int .i64 0) := (blk_cell HQ9.out 0).trans rfl
  have qz1 : w9.cell? ⟨q, 1, none⟩ = some (.slice none 0 0) := (blk_cell HQ9.out 1).trans rfl
  have qz2 : w9.cell? ⟨q, 2, none⟩ = some (.slice none 0 0) := (blk_cell HQ9.out 2).trans rfl
  have fq0 := blk_frozen HQ9.out 0
  have fq1 := blk_frozen HQ9.out 1
  have fq2 := blk_frozen HQ9.out 2
  have rz0 : w9.cell? ⟨r, 0, none⟩ = some (.int .i64 0) := (blk_cell HR9.out 0).trans rfl
  have rz1 : w9.cell? ⟨r, 1, none⟩ = some (.int .i64 0) := (blk_cell HR9.out 1).trans rfl
  have rz2 : w9.cell? ⟨r, 2, none⟩ = some (.slice none 0 0) := (blk_cell HR9.out 2).trans rfl
  have fr0 := blk_frozen HR9.out 0
  have fr1 := blk_frozen HR9.out 1
  have fr2 := blk_frozen HR9.out 2
  have m4 : t ≠ q := HNT.out.2.2.1
  have m5 : q ≠ t := Ne.symm m4
  have m6 : t ≠ r := HNT.out.2.2.2.1
  have m7 : r ≠ t := Ne.symm m6
  have m8 : s ≠ q := Ne.symm nsq
  have m9 : s ≠ r := Ne.symm nsr
  go_wp2_with fail
  go_region
  go_wp2_with fail
  have kq := blk_far (p := ⟨s, 2, none⟩) HQ9.out nsq (.slice A8 rs.length c8)
  have kr := blk_far (p := ⟨s, 2, none⟩) HR9.out nsr (.slice A8 rs.length c8)
  have kr2 := far3b kr n2 (.int .i64 k) (.slice A7 l'.length c7) (.slice A8 rs.length c8)
  have hbz := below_drew1 (below3 (below3 (HB9.out.setCell HUU.out.2.2 (.slice A8 rs.length c8) (p := ⟨s, 2, none⟩)) HUU.out.1 (.int .i64 k) (.slice A7 l'.length c7) (.slice A8 rs.length c8)) HUU.out.2.1 (.int .i64 rc) (.int .i64 0) (.slice none 0 0))
  have kq9 := blk_drew (far3b (put3 kq (.int .i64 k) (.slice A7 l'.length c7) (.slice A8 rs.length c8)) n1 (.int .i64 rc) (.int .i64 0) (.slice none 0 0))
  have kr9 := blk_drew (put3 kr2 (.int .i64 rc) (.int .i64 0) (.slice none 0 0))
  refine bodyPost_ret (results_cc rfl _ _ q r 60 70 #[.int .i64 k, .slice A7 l'.length c7, .slice A8 rs.length c8] #[.int .i64 rc, .int .i64 0, .slice none 0 0] (0, 0) (0, 0) _ _ rfl kq9 Tryz.underlying60 rfl (by kernel_rfl) rfl kr9 Tryz.underlying70 rfl (by kernel_rfl)) rfl ?_
  have d1 := Kd.R_drew (R_set3 (R_set3 (Kd.R_set HD9.out HS9.out (by decide) 2 (.slice A8 rs.length c8)) kq (by decide) (.int .i64 k) (.slice A7 l'.length c7) (.slice A8 rs.length c8)) kr2 (by decide) (.int .i64 rc) (.int .i64 0) (.slice none 0 0))
  have d2 := Kd.S_drew (S_set3 (S_set3 (Kd.S_set HE9.out HS9.out (by decide) 2 (.slice A8 rs.length c8)) kq (by decide) (.int .i64 k) (.slice A7 l'.length c7) (.slice A8 rs.length c8)) kr2 (by decide) (.int .i64 rc) (.int .i64 0) (.slice none 0 0))
  have e1 := sure_Rs d1 HSL.out
  have e2 := sure_Ss d2 HSL.out
  rw [HR.out]
  show RefD w S k (docs M') rs rc 0 _ _
  rw [HLM.out]
  exact ⟨A7, c7, A8, c8, _, _, rfl, e1.1, e1.2, e2.1, e2.2, hbz⟩
end Go.Proofs.YtpeldaogdeefeaaGreat.M
