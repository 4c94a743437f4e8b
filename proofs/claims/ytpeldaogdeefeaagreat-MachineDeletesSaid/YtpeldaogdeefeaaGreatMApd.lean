/- The machine: Apply of the command that deletes a document. -/
import Derived.Test.YtpeldaogdeefeaaGreatMG15
import Derived.Test.YtpeldaogdeefeaaGreatMBeg
import Derived.Test.YtpeldaogdeefeaaGreatMG13
import Derived.Test.YtpeldaogdeefeaaGreatMG11
import Derived.Test.YtpeldaogdeefeaaGreatMG0
import Derived.Test.YtpeldaogdeefeaaGreatMMay
import Derived.Test.YtpeldaogdeefeaaGreatMG8
import Derived.Test.YtpeldaogdeefeaaGreatMSHand
import Derived.Test.YtpeldaogdeefeaaGreatMG7
import Derived.StillTailTactics
import Derived.Outline
import Derived.Deep.DrawnRows
namespace Go.Proofs.YtpeldaogdeefeaaGreat.M
open Go.Proofs.YtpeldaogdeefeaaGreat.H Go.RowKit Go.Maps Go.Sort Go.Proofs.YtpeldaogdeefeaaGreatW.PrintWords Go.Proofs.YtpeldaogdeefeaaGreatW.PrintLast Go.Proofs.YtpeldaogdeefeaaGreatW.PrintMore Go.Proofs.YtpeldaogdeefeaaGreat.Base
set_option linter.unusedVariables false
set_option linter.unusedSimpArgs false
attribute [local go_sem ↓] Go.wp_at_zero Go.wp_at_succ
/-- What deleting comes to: the reply's error and number; the sessions; the documents. -/
def delA (M : List (Bs × Bs)) (ss : List S140) (a q : Int) (id : Bs) (k : Int) : ((Int × Int) × List S140) × List (Bs × Bs) :=
  if (beginV ss a q).2.2.2 = 0 then (if (beginV ss a q).2.2.1 = true then ((((beginV ss a q).1, (beginV ss a q).2.1), ss), M) else ((((delV M id).2, 0), doneTo ss a q (delV M id).2 0 k), (delV M id).1)) else ((((beginV ss a q).2.2.2, 0), ss), M)
/-- What Apply leaves: a reply without hits; the machine; nothing out of the shelf and the machine's own box is turned. -/
def ApdPost (B U g cnt : Nat) (k : Int) (r : ((Int × Int) × List S140) × List (Bs × Bs)) (w : World) (e : Ending) (w' : World) : Prop := ∃ (A : Option Addr) (c : Nat), e = .returned (.agg #[.int .i64 r.1.1.1, .int .i64 r.1.1.2, .slice A 0 c]) ∧ Mch w' B U g cnt r.2 k r.1.2 ∧ Below B w w' ∧ (∀ i, i < w.heap.size → i ≠ g → (i < B ∨ U ≤ i) → w'.heap[i]? = w.heap[i]?)
theorem delV_code (M : List (Bs × Bs)) (id : Bs) : 0 ≤ (delV M id).2 ∧ (delV M id).2 ≤ 10 := by
  unfold delV
  split
  · split <;> constructor <;> simp
  · constructor <;> simp
theorem done91 (kf : Nat) (A : Option Addr) (c : Nat) (ss : List S140) (a q r0 k : Int) (rs : List S140) (w : World) (h1 : Kd.C k140 w A ss.length ss) (h2 : ss.length ≤ c) (h : session_Done.f kf ss a q r0 0 [] k = some (rs, 0)) :
    Calls Tryz.prog 91 #[.slice A ss.length c, .int .i64 a, .int .i64 q, .agg #[.int .i64 r0, .int .i64 0, .slice none 0 0], .int .i64 k] w fun e w' => ∃ v0_ : Value, e = .returned (.tuple #[v0_, .int .i64 0]) ∧ Kd.S k140 140 w' w.heap.size (fun _ => True) v0_ rs ∧ Below w.heap.size w w' :=
  session_Done.calls kf A c ss a q r0 0 none 0 [] k rs 0 w h1 h2 (Kd.C_nil _ _) (Nat.le_refl _) h
theorem done102 (kf : Nat) (A : Option Addr) (c : Nat) (ss : List S140) (a q r0 k : Int) (rs : List S140) (w : World) (h1 : Kd.C k140 w A ss.length ss) (h2 : ss.length ≤ c) (h : lecternref14_Done.f kf ss a q r0 0 [] k = some (rs, 0)) :
    Calls Tryz.prog 102 #[.slice A ss.length c, .int .i64 a, .int .i64 q, .agg #[.int .i64 r0, .int .i64 0, .slice none 0 0], .int .i64 k] w fun e w' => ∃ v0_ : Value, e = .returned (.tuple #[v0_, .int .i64 0]) ∧ Kd.S k140 140 w' w.heap.size (fun _ => True) v0_ rs ∧ Below w.heap.size w w' :=
  lecternref14_Done.calls kf A c ss a q r0 0 none 0 [] k rs 0 w h1 h2 (Kd.C_nil _ _) (Nat.le_refl _) h
set_option maxRecDepth 100000 in
set_option maxHeartbeats 4000000 in
theorem apd_form {w : World} {B U g cnt : Nat} {M : List (Bs × Bs)} {ix : Int} {ss : List S140} (h : Mch w B U g cnt M ix ss) (k a q : Int) (id : ByteArray) (hid : id.size ≤ 140737488351232) (hv : mayD a q id = false) :
    Calls Tryz.prog 43 #[.pointer (some ⟨g, 0, none⟩), .int .i64 k, .agg #[.int .i64 3, .int .i64 a, .int .i64 q, .string id, .string ⟨#[]⟩]] w (fun e w' => e = .returned (.agg #[.int .i64 1, .int .i64 0, .slice none 0 0]) ∧ Below w.heap.size w w') := by
  have HM := Aside0.mk h
  have HID := Aside0.mk hid
  clear hid
  have hu70 := Tryz.underlying70
  have hu73 := Tryz.underlying73
  clear h
  go_enter Tryz.func43, Tryz.ntmps43
  go_upto_region 1 with (fail)
  obtain ⟨p, hpe⟩ : ∃ b, b = w.heap.size := ⟨_, rfl⟩
  obtain ⟨r, hre⟩ : ∃ b, b = w.heap.size + 1 := ⟨_, rfl⟩
  obtain ⟨wa, hwa⟩ : ∃ z, z = w.alloc (.cells #[.int .i64 3, .int .i64 a, .int .i64 q, .string id, .string ⟨#[]⟩] 73) := ⟨_, rfl⟩
  obtain ⟨w1, hw1⟩ : ∃ z, z = wa.alloc (.cells #[.int .i64 0, .int .i64 0, .slice none 0 0] 70) := ⟨_, rfl⟩
  have hsa : wa.heap.size = w.heap.size + 1 := by rw [hwa]; exact Array.size_push _
  have HP1 : Aside0 (w1.heap[p]? = some (.cells #[.int .i64 3, .int .i64 a, .int .i64 q, .string id, .string ⟨#[]⟩] 73 (0, 0))) := ⟨by rw [hw1]; refine blk_alloc ?_ _; rw [hwa, hpe]; exact heap_alloc_new w _⟩
  have HQ1 : Aside0 (w1.heap[r]? = some (.cells #[.int .i64 0, .int .i64 0, .slice none 0 0] 70 (0, 0))) := ⟨by rw [hw1, hre, ← hsa]; exact heap_alloc_new wa _⟩
  have HB1 : Aside0 (Below w.heap.size w w1) := ⟨by rw [hw1, hwa]; exact below_alloc (below_alloc (Below.refl _ _) _) _⟩
  rw [← hre, ← hpe, ← hwa, ← hw1]
  have HPQ := Aside0.mk (And.intro hpe hre)
  clear hpe hre hwa hw1 hsa
  have x0 : ∀ x : QB.Later w1, x.val.cell? ⟨p, 0, none⟩ = some (.int .i64 3) := fun x => (blk_cell (blk_below HP1.out x.below) 0).trans rfl
  have x1 : ∀ x : QB.Later w1, x.val.cell? ⟨p, 1, none⟩ = some (.int .i64 a) := fun x => (blk_cell (blk_below HP1.out x.below) 1).trans rfl
  have x2 : ∀ x : QB.Later w1, x.val.cell? ⟨p, 2, none⟩ = some (.int .i64 q) := fun x => (blk_cell (blk_below HP1.out x.below) 2).trans rfl
  have x3 : ∀ x : QB.Later w1, x.val.cell? ⟨p, 3, none⟩ = some (.string id) := fun x => (blk_cell (blk_below HP1.out x.below) 3).trans rfl
  have x4 : ∀ x : QB.Later w1, x.val.cell? ⟨p, 4, none⟩ = some (.string ⟨#[]⟩) := fun x => (blk_cell (blk_below HP1.out x.below) 4).trans rfl
  have z0 : ∀ x : QB.Later w1, x.val.cell? ⟨r, 0, none⟩ = some (.int .i64 0) := fun x => (blk_cell (blk_below HQ1.out x.below) 0).trans rfl
  have z1 : ∀ x : QB.Later w1, x.val.cell? ⟨r, 1, none⟩ = some (.int .i64 0) := fun x => (blk_cell (blk_below HQ1.out x.below) 1).trans rfl
  have z2 : ∀ x : QB.Later w1, x.val.cell? ⟨r, 2, none⟩ = some (.slice none 0 0) := fun x => (blk_cell (blk_below HQ1.out x.below) 2).trans rfl
  have f0 : ∀ (x : QB.Later w1), x.val.frozen? ⟨r, 0, none⟩ = false := fun x => blk_frozen (blk_below HQ1.out x.below) 0
  have f1 : ∀ (x : QB.Later w1), x.val.frozen? ⟨r, 1, none⟩ = false := fun x => blk_frozen (blk_below HQ1.out x.below) 1
  have f2 : ∀ (x : QB.Later w1), x.val.frozen? ⟨r, 2, none⟩ = false := fun x => blk_frozen (blk_below HQ1.out x.below) 2
  obtain ⟨y, hy⟩ : ∃ y : QB.Later w1, y.val = w1 := ⟨QB.Later.mk (Below.refl _ _), rfl⟩
  rw [← hy]
  clear hy
  go_wp2_with fail
  refine (may86_del a q id HID.out y.val).mono ?_
  rintro e w' ⟨rfl, hb⟩
  have hb2 := QB.below_trans y.below hb
  clear hb
  obtain ⟨y, rfl⟩ : ∃ z : QB.Later w1, w' = z.val := ⟨QB.Later.mk hb2, rfl⟩
  clear hb2
  rw [hv]
  clear hv

  go_wp2_with fail
  have hU : w.heap.size ≤ r := by have := HPQ.out; omega
  refine bodyPost_ret (results_cell_row rfl _ _ r 70 _ (0, 0) _ rfl (put3 (blk_below HQ1.out y.below) _ _ _) Tryz.underlying70 rfl (by kernel_rfl)) rfl ?_
  exact ⟨rfl, below3 (QB.below_trans HB1.out y.below) hU _ _ _⟩
set_option maxRecDepth 100000 in
set_option maxHeartbeats 4000000 in
theorem apd_no {w : World} {B U g cnt : Nat} {M : List (Bs × Bs)} {ix : Int} {ss : List S140} (h : Mch w B U g cnt M ix ss) (k a q : Int) (id : ByteArray) (hid : id.size ≤ 140737488351232) (hv : mayD a q id = true) (hk : ¬ (ix < k ∧ 1 ≤ k ∧ k < 1099511627776)) :
    Calls Tryz.prog 43 #[.pointer (some ⟨g, 0, none⟩), .int .i64 k, .agg #[.int .i64 3, .int .i64 a, .int .i64 q, .string id, .string ⟨#[]⟩]] w (fun e w' => e = .returned (.agg #[.int .i64 1, .int .i64 0, .slice none 0 0]) ∧ Below w.heap.size w w') := by
  have HM := Aside0.mk h
  have HID := Aside0.mk hid
  clear hid
  have hu70 := Tryz.underlying70
  have hu73 := Tryz.underlying73
  have HK := Aside0.mk hk
  clear hk
  clear h
  go_enter Tryz.func43, Tryz.ntmps43
  go_upto_region 1 with (fail)
  obtain ⟨p, hpe⟩ : ∃ b, b = w.heap.size := ⟨_, rfl⟩
  obtain ⟨r, hre⟩ : ∃ b, b = w.heap.size + 1 := ⟨_, rfl⟩
  obtain ⟨wa, hwa⟩ : ∃ z, z = w.alloc (.cells #[.int .i64 3, .int .i64 a, .int .i64 q, .string id, .string ⟨#[]⟩] 73) := ⟨_, rfl⟩
  obtain ⟨w1, hw1⟩ : ∃ z, z = wa.alloc (.cells #[.int .i64 0, .int .i64 0, .slice none 0 0] 70) := ⟨_, rfl⟩
  have hsa : wa.heap.size = w.heap.size + 1 := by rw [hwa]; exact Array.size_push _
  have HP1 : Aside0 (w1.heap[p]? = some (.cells #[.int .i64 3, .int .i64 a, .int .i64 q, .string id, .string ⟨#[]⟩] 73 (0, 0))) := ⟨by rw [hw1]; refine blk_alloc ?_ _; rw [hwa, hpe]; exact heap_alloc_new w _⟩
  have HQ1 : Aside0 (w1.heap[r]? = some (.cells #[.int .i64 0, .int .i64 0, .slice none 0 0] 70 (0, 0))) := ⟨by rw [hw1, hre, ← hsa]; exact heap_alloc_new wa _⟩
  have HB1 : Aside0 (Below w.heap.size w w1) := ⟨by rw [hw1, hwa]; exact below_alloc (below_alloc (Below.refl _ _) _) _⟩
  rw [← hre, ← hpe, ← hwa, ← hw1]
  have HPQ := Aside0.mk (And.intro hpe hre)
  clear hpe hre hwa hw1 hsa
  have x0 : ∀ x : QB.Later w1, x.val.cell? ⟨p, 0, none⟩ = some (.int .i64 3) := fun x => (blk_cell (blk_below HP1.out x.below) 0).trans rfl
  have x1 : ∀ x : QB.Later w1, x.val.cell? ⟨p, 1, none⟩ = some (.int .i64 a) := fun x => (blk_cell (blk_below HP1.out x.below) 1).trans rfl
  have x2 : ∀ x : QB.Later w1, x.val.cell? ⟨p, 2, none⟩ = some (.int .i64 q) := fun x => (blk_cell (blk_below HP1.out x.below) 2).trans rfl
  have x3 : ∀ x : QB.Later w1, x.val.cell? ⟨p, 3, none⟩ = some (.string id) := fun x => (blk_cell (blk_below HP1.out x.below) 3).trans rfl
  have x4 : ∀ x : QB.Later w1, x.val.cell? ⟨p, 4, none⟩ = some (.string ⟨#[]⟩) := fun x => (blk_cell (blk_below HP1.out x.below) 4).trans rfl
  have z0 : ∀ x : QB.Later w1, x.val.cell? ⟨r, 0, none⟩ = some (.int .i64 0) := fun x => (blk_cell (blk_below HQ1.out x.below) 0).trans rfl
  have z1 : ∀ x : QB.Later w1, x.val.cell? ⟨r, 1, none⟩ = some (.int .i64 0) := fun x => (blk_cell (blk_below HQ1.out x.below) 1).trans rfl
  have z2 : ∀ x : QB.Later w1, x.val.cell? ⟨r, 2, none⟩ = some (.slice none 0 0) := fun x => (blk_cell (blk_below HQ1.out x.below) 2).trans rfl
  have f0 : ∀ (x : QB.Later w1), x.val.frozen? ⟨r, 0, none⟩ = false := fun x => blk_frozen (blk_below HQ1.out x.below) 0
  have f1 : ∀ (x : QB.Later w1), x.val.frozen? ⟨r, 1, none⟩ = false := fun x => blk_frozen (blk_below HQ1.out x.below) 1
  have f2 : ∀ (x : QB.Later w1), x.val.frozen? ⟨r, 2, none⟩ = false := fun x => blk_frozen (blk_below HQ1.out x.below) 2
  obtain ⟨y, hy⟩ : ∃ y : QB.Later w1, y.val = w1 := ⟨QB.Later.mk (Below.refl _ _), rfl⟩
  rw [← hy]
  clear hy
  go_wp2_with fail
  refine (may86_del a q id HID.out y.val).mono ?_
  rintro e w' ⟨rfl, hb⟩
  have hb2 := QB.below_trans y.below hb
  clear hb
  obtain ⟨y, rfl⟩ : ∃ z : QB.Later w1, w' = z.val := ⟨QB.Later.mk hb2, rfl⟩
  clear hb2
  rw [hv]
  clear hv

  go_wp2_with fail
  refine (skip_no (HM.out.below (QB.below_trans HB1.out y.below)) k HK.out).mono ?_
  rintro e w' ⟨rfl, hb⟩
  have hb2 := QB.below_trans y.below hb
  clear hb
  obtain ⟨y, rfl⟩ : ∃ z : QB.Later w1, w' = z.val := ⟨QB.Later.mk hb2, rfl⟩
  clear hb2
  go_wp2_with fail
  have hU : w.heap.size ≤ r := by have := HPQ.out; omega
  refine bodyPost_ret (results_cell_row rfl _ _ r 70 _ (0, 0) _ rfl (put3 (blk_below HQ1.out y.below) _ _ _) Tryz.underlying70 rfl (by kernel_rfl)) rfl ?_
  exact ⟨rfl, below3 (QB.below_trans HB1.out y.below) hU _ _ _⟩
set_option maxRecDepth 100000 in
set_option maxHeartbeats 4000000 in
theorem apd_yes {w : World} {B U g cnt : Nat} {M : List (Bs × Bs)} {ix : Int} {ss : List S140} (h : Mch w B U g cnt M ix ss) (k a q : Int) (id : ByteArray) (hid : id.size ≤ 140737488351232) (hm : mayP ss) (hv : mayD a q id = true) (hk : ix < k ∧ 1 ≤ k ∧ k < 1099511627776) :
    Calls Tryz.prog 43 #[.pointer (some ⟨g, 0, none⟩), .int .i64 k, .agg #[.int .i64 3, .int .i64 a, .int .i64 q, .string id, .string ⟨#[]⟩]] w (ApdPost B U g cnt k (delA M ss a q id.data.toList k) w) := by
  have HM := Aside0.mk h
  have HID := Aside0.mk hid
  clear hid
  have hu70 := Tryz.underlying70
  have hu73 := Tryz.underlying73
  have HK := Aside0.mk hk
  have HMAY := Aside0.mk hm
  have hnq : numB q 1 = true := (Bool.and_eq_true_iff.1 (Bool.and_eq_true_iff.1 hv).1).2
  have HNQ := Aside0.mk hnq
  obtain ⟨v, hbv⟩ : ∃ v, beginV ss a q = v := ⟨_, rfl⟩
  have HBV := Aside0.mk hbv
  clear hk hm hnq hbv
  clear h
  go_enter Tryz.func43, Tryz.ntmps43
  go_upto_region 1 with (fail)
  obtain ⟨p, hpe⟩ : ∃ b, b = w.heap.size := ⟨_, rfl⟩
  obtain ⟨r, hre⟩ : ∃ b, b = w.heap.size + 1 := ⟨_, rfl⟩
  obtain ⟨wa, hwa⟩ : ∃ z, z = w.alloc (.cells #[.int .i64 3, .int .i64 a, .int .i64 q, .string id, .string ⟨#[]⟩] 73) := ⟨_, rfl⟩
  obtain ⟨w1, hw1⟩ : ∃ z, z = wa.alloc (.cells #[.int .i64 0, .int .i64 0, .slice none 0 0] 70) := ⟨_, rfl⟩
  have hsa : wa.heap.size = w.heap.size + 1 := by rw [hwa]; exact Array.size_push _
  have HP1 : Aside0 (w1.heap[p]? = some (.cells #[.int .i64 3, .int .i64 a, .int .i64 q, .string id, .string ⟨#[]⟩] 73 (0, 0))) := ⟨by rw [hw1]; refine blk_alloc ?_ _; rw [hwa, hpe]; exact heap_alloc_new w _⟩
  have HQ1 : Aside0 (w1.heap[r]? = some (.cells #[.int .i64 0, .int .i64 0, .slice none 0 0] 70 (0, 0))) := ⟨by rw [hw1, hre, ← hsa]; exact heap_alloc_new wa _⟩
  have HB1 : Aside0 (Below w.heap.size w w1) := ⟨by rw [hw1, hwa]; exact below_alloc (below_alloc (Below.refl _ _) _) _⟩
  rw [← hre, ← hpe, ← hwa, ← hw1]
  have HPQ := Aside0.mk (And.intro hpe hre)
  clear hpe hre hwa hw1 hsa
  have x0 : ∀ x : QB.Later w1, x.val.cell? ⟨p, 0, none⟩ = some (.int .i64 3) := fun x => (blk_cell (blk_below HP1.out x.below) 0).trans rfl
  have x1 : ∀ x : QB.Later w1, x.val.cell? ⟨p, 1, none⟩ = some (.int .i64 a) := fun x => (blk_cell (blk_below HP1.out x.below) 1).trans rfl
  have x2 : ∀ x : QB.Later w1, x.val.cell? ⟨p, 2, none⟩ = some (.int .i64 q) := fun x => (blk_cell (blk_below HP1.out x.below) 2).trans rfl
  have x3 : ∀ x : QB.Later w1, x.val.cell? ⟨p, 3, none⟩ = some (.string id) := fun x => (blk_cell (blk_below HP1.out x.below) 3).trans rfl
  have x4 : ∀ x : QB.Later w1, x.val.cell? ⟨p, 4, none⟩ = some (.string ⟨#[]⟩) := fun x => (blk_cell (blk_below HP1.out x.below) 4).trans rfl
  have z0 : ∀ x : QB.Later w1, x.val.cell? ⟨r, 0, none⟩ = some (.int .i64 0) := fun x => (blk_cell (blk_below HQ1.out x.below) 0).trans rfl
  have z1 : ∀ x : QB.Later w1, x.val.cell? ⟨r, 1, none⟩ = some (.int .i64 0) := fun x => (blk_cell (blk_below HQ1.out x.below) 1).trans rfl
  have z2 : ∀ x : QB.Later w1, x.val.cell? ⟨r, 2, none⟩ = some (.slice none 0 0) := fun x => (blk_cell (blk_below HQ1.out x.below) 2).trans rfl
  have f0 : ∀ (x : QB.Later w1), x.val.frozen? ⟨r, 0, none⟩ = false := fun x => blk_frozen (blk_below HQ1.out x.below) 0
  have f1 : ∀ (x : QB.Later w1), x.val.frozen? ⟨r, 1, none⟩ = false := fun x => blk_frozen (blk_below HQ1.out x.below) 1
  have f2 : ∀ (x : QB.Later w1), x.val.frozen? ⟨r, 2, none⟩ = false := fun x => blk_frozen (blk_below HQ1.out x.below) 2
  obtain ⟨y, hy⟩ : ∃ y : QB.Later w1, y.val = w1 := ⟨QB.Later.mk (Below.refl _ _), rfl⟩
  rw [← hy]
  clear hy
  go_wp2_with fail
  refine (may86_del a q id HID.out y.val).mono ?_
  rintro e w' ⟨rfl, hb⟩
  have hb2 := QB.below_trans y.below hb
  clear hb
  obtain ⟨y, rfl⟩ : ∃ z : QB.Later w1, w' = z.val := ⟨QB.Later.mk hb2, rfl⟩
  clear hb2
  rw [hv]
  clear hv

  go_wp2_with fail
  refine (skip_yes (HM.out.below (QB.below_trans HB1.out y.below)) k HK.out.1 HK.out.2).mono ?_
  rintro e w3 ⟨rfl, hm3, hb3, hk3⟩
  have HGP : Aside0 (p ≠ g ∧ r ≠ g) := ⟨by
    obtain ⟨_, _, hg, _, _⟩ := hm3.ex
    have hp := blk_below HP1.out y.below
    have hr := blk_below HQ1.out y.below
    obtain ⟨_, _, hg, _, _⟩ := (HM.out.below (QB.below_trans HB1.out y.below)).ex
    exact ⟨blk_ne hp hg (by decide), blk_ne hr hg (by decide)⟩⟩
  have HM3 := Aside0.mk hm3
  have HB3 : Aside0 (Below U w w3) := ⟨((QB.below_trans HB1.out y.below).mono HM.out.size.1).trans hb3⟩
  have HP3 : Aside0 (w3.heap[p]? = some (.cells #[.int .i64 3, .int .i64 a, .int .i64 q, .string id, .string ⟨#[]⟩] 73 (0, 0))) := ⟨(hk3 p (blk_lt (blk_below HP1.out y.below)) HGP.out.1).trans (blk_below HP1.out y.below)⟩
  have HQ3 : Aside0 (w3.heap[r]? = some (.cells #[.int .i64 0, .int .i64 0, .slice none 0 0] 70 (0, 0))) := ⟨(hk3 r (blk_lt (blk_below HQ1.out y.below)) HGP.out.2).trans (blk_below HQ1.out y.below)⟩
  have HK3 : Aside0 (∀ i, i < w.heap.size → i ≠ g → w3.heap[i]? = w.heap[i]?) := ⟨fun i hi hne => (hk3 i (Nat.lt_of_lt_of_le hi (QB.below_trans HB1.out y.below).size) hne).trans ((QB.below_trans HB1.out y.below).block i hi)⟩
  have HS3 : Aside0 (w.heap.size ≤ w3.heap.size) := ⟨hb3.size |> Nat.le_trans (QB.below_trans HB1.out y.below).size⟩
  clear hm3 hb3 hk3 x0 x1 x2 x3 x4 z0 z1 z2 f0 f1 f2
  obtain ⟨gs, vs, hg3, -, hvs3⟩ := HM3.out.ex
  obtain ⟨A3, c3, rfl⟩ := Kd.R_slice (Kd.S_R hvs3)
  have HG3 := Aside0.mk hg3
  have HV3 := Aside0.mk (Kd.R_reads' (Kd.S_R hvs3)).2
  clear hg3 hvs3
  have x0 : ∀ x : QB.Later w3, x.val.cell? ⟨p, 0, none⟩ = some (.int .i64 3) := fun x => (blk_cell (blk_below HP3.out x.below) 0).trans rfl
  have x1 : ∀ x : QB.Later w3, x.val.cell? ⟨p, 1, none⟩ = some (.int .i64 a) := fun x => (blk_cell (blk_below HP3.out x.below) 1).trans rfl
  have x2 : ∀ x : QB.Later w3, x.val.cell? ⟨p, 2, none⟩ = some (.int .i64 q) := fun x => (blk_cell (blk_below HP3.out x.below) 2).trans rfl
  have z0 : ∀ x : QB.Later w3, x.val.cell? ⟨r, 0, none⟩ = some (.int .i64 0) := fun x => (blk_cell (blk_below HQ3.out x.below) 0).trans rfl
  have z1 : ∀ x : QB.Later w3, x.val.cell? ⟨r, 1, none⟩ = some (.int .i64 0) := fun x => (blk_cell (blk_below HQ3.out x.below) 1).trans rfl
  have z2 : ∀ x : QB.Later w3, x.val.cell? ⟨r, 2, none⟩ = some (.slice none 0 0) := fun x => (blk_cell (blk_below HQ3.out x.below) 2).trans rfl
  have f0 : ∀ (x : QB.Later w3), x.val.frozen? ⟨r, 0, none⟩ = false := fun x => blk_frozen (blk_below HQ3.out x.below) 0
  have f1 : ∀ (x : QB.Later w3), x.val.frozen? ⟨r, 1, none⟩ = false := fun x => blk_frozen (blk_below HQ3.out x.below) 1
  have f2 : ∀ (x : QB.Later w3), x.val.frozen? ⟨r, 2, none⟩ = false := fun x => blk_frozen (blk_below HQ3.out x.below) 2
  have g2 : ∀ x : QB.Later w3, x.val.cell? ⟨g, 2, none⟩ = some (.slice A3 ss.length c3) := fun x => (blk_cell (blk_below HG3.out x.below) 2).trans rfl
  obtain ⟨y, hy⟩ : ∃ y : QB.Later w3, y.val = w3 := ⟨QB.Later.mk (Below.refl _ _), rfl⟩
  rw [← hy]
  clear hy
  go_wp2_with fail
  have KP : Aside0 (∀ W, Below w3.heap.size w3 W → W.cell? ⟨g, 2, none⟩ = some (.slice A3 ss.length c3) ∧ W.cell? ⟨p, 1, none⟩ = some (.int .i64 a) ∧ W.cell? ⟨p, 2, none⟩ = some (.int .i64 q)) := ⟨fun W hb => ⟨g2 (QB.Later.mk hb), x1 (QB.Later.mk hb), x2 (QB.Later.mk hb)⟩⟩
  have HBG : Aside0 (∀ W, Below w3.heap.size w3 W → Calls Tryz.prog 88 #[.slice A3 ss.length c3, .int .i64 a, .int .i64 q] W fun e w' => ∃ A9 c9, e = .returned (.tuple #[.agg #[.int .i64 v.1, .int .i64 v.2.1, .slice A9 0 c9], .bool v.2.2.1, .int .i64 v.2.2.2]) ∧ (w'.cell? ⟨g, 2, none⟩ = some (.slice A3 ss.length c3) ∧ w'.cell? ⟨p, 1, none⟩ = some (.int .i64 a) ∧ w'.cell? ⟨p, 2, none⟩ = some (.int .i64 q)) ∧ Below W.heap.size W w' ∧ Below w3.heap.size w3 w') := ⟨fun W hb => by
    refine (begin88 HMAY.out a q HNQ.out A3 c3 W (Kd.C_below HV3.out.2 hb) HV3.out.1).mono ?_
    rintro e w' ⟨A9, c9, rfl, h2⟩
    rw [HBV.out]
    exact ⟨A9, c9, rfl, KP.out w' (QB.below_trans hb h2), h2, QB.below_trans hb h2⟩⟩
  obtain ⟨w4, hw4⟩ : ∃ z, z = y.val := ⟨_, rfl⟩
  have HB4 : Aside0 (Below w3.heap.size w3 w4) := ⟨by rw [hw4]; exact y.below⟩
  rw [← hw4]
  clear hw4 x0 x1 x2 z0 z1 z2 f0 f1 f2 g2
  go_region_held3 (fun w' => w'.cell? ⟨g, 2, none⟩ = some (.slice A3 ss.length c3) ∧ w'.cell? ⟨p, 1, none⟩ = some (.int .i64 a) ∧ w'.cell? ⟨p, 2, none⟩ = some (.int .i64 q))
    (first | exact HS6.out | exact KP.out _ (below_alloc HC6.out _) | exact KP.out _ (below3 HC6.out (show w3.heap.size ≤ w4.heap.size from HB4.out.size) _ _ _) | exact KP.out _ (by repeat (first | exact HB4.out | apply pw_below_drewN | apply below_drew1 | apply below_alloc)))
    (first
      | (go_at_call 88; refine (HBG.out _ (by repeat (first | exact HB4.out | apply pw_below_drewN | apply below_drew1 | apply below_alloc))).mono ?_; rintro e w6 ⟨A9, c9, rfl, hS6, hb6, hc6⟩; have HS6 := Aside0.mk hS6; have HB6 := Aside0.mk hb6; have HC6 := Aside0.mk hc6; clear hS6 hb6 hc6; (try (have HTA : Aside0 (w6.heap[w4.heap.size]? = some (.cells #[.int .i64 0, .int .i64 0, .slice none 0 0] 70 (0, 0))) := ⟨blk_below (heap_alloc_new (World.drew w4) (.cells #[.int .i64 0, .int .i64 0, .slice none 0 0] 70)) HB6.out⟩; have t0 : w6.cell? ⟨w4.heap.size, 0, none⟩ = some (.int .i64 0) := (blk_cell HTA.out 0).trans rfl; have t1 : w6.cell? ⟨w4.heap.size, 1, none⟩ = some (.int .i64 0) := (blk_cell HTA.out 1).trans rfl; have t2 : w6.cell? ⟨w4.heap.size, 2, none⟩ = some (.slice none 0 0) := (blk_cell HTA.out 2).trans rfl; have u0 := blk_frozen HTA.out 0; have u1 := blk_frozen HTA.out 1; have u2 := blk_frozen HTA.out 2))))
  all_goals
    go_upto_region 6 with (fail)
  any_goals (first
    | (obtain ⟨t, hte⟩ : ∃ b, b = w6.heap.size := ⟨_, rfl⟩
       obtain ⟨w5, hw5⟩ : ∃ z, z = w6.alloc (.cells #[.int .i64 v.1, .int .i64 v.2.1, .slice A9 0 c9] 70) := ⟨_, rfl⟩
       have HT5 : Aside0 (w5.heap[t]? = some (.cells #[.int .i64 v.1, .int .i64 v.2.1, .slice A9 0 c9] 70 (0, 0))) := ⟨by rw [hw5, hte]; exact heap_alloc_new w6 _⟩
       have HB5 : Aside0 (Below w3.heap.size w3 w5) := ⟨by rw [hw5]; exact below_alloc HC6.out _⟩
       have HTW : Aside0 (w3.heap.size ≤ t) := ⟨by rw [hte]; exact HC6.out.size⟩
       rw [← hw5, ← hte]
       clear hw5 hte)
    | (obtain ⟨t, hte⟩ : ∃ b, b = w4.heap.size := ⟨_, rfl⟩
       rw [← hte]
       have hta : w6.heap[t]? = some (.cells #[.int .i64 0, .int .i64 0, .slice none 0 0] 70 (0, 0)) := by rw [hte]; exact HTA.out
       have hlt : w3.heap.size ≤ t := by rw [hte]; exact HB4.out.size
       have HTW := Aside0.mk hlt
       obtain ⟨w5, hw5⟩ : ∃ z, z = ((w6.setCell ⟨t, 0, none⟩ (.int .i64 v.1)).setCell ⟨t, 1, none⟩ (.int .i64 v.2.1)).setCell ⟨t, 2, none⟩ (.slice A9 0 c9) := ⟨_, rfl⟩
       have HT5 : Aside0 (w5.heap[t]? = some (.cells #[.int .i64 v.1, .int .i64 v.2.1, .slice A9 0 c9] 70 (0, 0))) := ⟨by rw [hw5]; exact put3 hta _ _ _⟩
       have HB5 : Aside0 (Below w3.heap.size w3 w5) := ⟨by rw [hw5]; exact below3 HC6.out hlt _ _ _⟩
       rw [← hw5]
       clear t0 t1 t2 u0 u1 u2 hta hlt hw5 hte))
  all_goals
    have x0 : ∀ x : QB.Later w5, x.val.cell? ⟨p, 0, none⟩ = some (.int .i64 3) := fun x => (blk_cell (blk_below HP3.out (QB.below_trans HB5.out x.below)) 0).trans rfl
    have x1 : ∀ x : QB.Later w5, x.val.cell? ⟨p, 1, none⟩ = some (.int .i64 a) := fun x => (blk_cell (blk_below HP3.out (QB.below_trans HB5.out x.below)) 1).trans rfl
    have x2 : ∀ x : QB.Later w5, x.val.cell? ⟨p, 2, none⟩ = some (.int .i64 q) := fun x => (blk_cell (blk_below HP3.out (QB.below_trans HB5.out x.below)) 2).trans rfl
    have x3 : ∀ x : QB.Later w5, x.val.cell? ⟨p, 3, none⟩ = some (.string id) := fun x => (blk_cell (blk_below HP3.out (QB.below_trans HB5.out x.below)) 3).trans rfl
    have x4 : ∀ x : QB.Later w5, x.val.cell? ⟨p, 4, none⟩ = some (.string ⟨#[]⟩) := fun x => (blk_cell (blk_below HP3.out (QB.below_trans HB5.out x.below)) 4).trans rfl
    have z0 : ∀ x : QB.Later w5, x.val.cell? ⟨r, 0, none⟩ = some (.int .i64 0) := fun x => (blk_cell (blk_below HQ3.out (QB.below_trans HB5.out x.below)) 0).trans rfl
    have z1 : ∀ x : QB.Later w5, x.val.cell? ⟨r, 1, none⟩ = some (.int .i64 0) := fun x => (blk_cell (blk_below HQ3.out (QB.below_trans HB5.out x.below)) 1).trans rfl
    have z2 : ∀ x : QB.Later w5, x.val.cell? ⟨r, 2, none⟩ = some (.slice none 0 0) := fun x => (blk_cell (blk_below HQ3.out (QB.below_trans HB5.out x.below)) 2).trans rfl
    have f0 : ∀ x : QB.Later w5, x.val.frozen? ⟨r, 0, none⟩ = false := fun x => blk_frozen (blk_below HQ3.out (QB.below_trans HB5.out x.below)) 0
    have f1 : ∀ x : QB.Later w5, x.val.frozen? ⟨r, 1, none⟩ = false := fun x => blk_frozen (blk_below HQ3.out (QB.below_trans HB5.out x.below)) 1
    have f2 : ∀ x : QB.Later w5, x.val.frozen? ⟨r, 2, none⟩ = false := fun x => blk_frozen (blk_below HQ3.out (QB.below_trans HB5.out x.below)) 2
    have g2 : ∀ x : QB.Later w5, x.val.cell? ⟨g, 2, none⟩ = some (.slice A3 ss.length c3) := fun x => (blk_cell (blk_below HG3.out (QB.below_trans HB5.out x.below)) 2).trans rfl
    have t0 : ∀ x : QB.Later w5, x.val.cell? ⟨t, 0, none⟩ = some (.int .i64 v.1) := fun x => (blk_cell (blk_below HT5.out x.below) 0).trans rfl
    have t1 : ∀ x : QB.Later w5, x.val.cell? ⟨t, 1, none⟩ = some (.int .i64 v.2.1) := fun x => (blk_cell (blk_below HT5.out x.below) 1).trans rfl
    have t2 : ∀ x : QB.Later w5, x.val.cell? ⟨t, 2, none⟩ = some (.slice A9 0 c9) := fun x => (blk_cell (blk_below HT5.out x.below) 2).trans rfl
    have gf : ∀ x : QB.Later w5, x.val.frozen? ⟨g, 2, none⟩ = false := fun x => blk_frozen (blk_below HG3.out (QB.below_trans HB5.out x.below)) 2
    obtain ⟨y, hy⟩ : ∃ y : QB.Later w5, y.val = w5 := ⟨QB.Later.mk (Below.refl _ _), rfl⟩
    rw [← hy]
    clear hy
    have HR : Aside0 (delA M ss a q id.data.toList k = (if v.2.2.2 = 0 then (if v.2.2.1 = true then (((v.1, v.2.1), ss), M) else ((((delV M id.data.toList).2, 0), doneTo ss a q (delV M id.data.toList).2 0 k), (delV M id.data.toList).1)) else (((v.2.2.2, 0), ss), M))) := ⟨by unfold delA; rw [HBV.out]⟩
    obtain ⟨v1, v2, v3, v4⟩ := v
    dsimp only at t0 t1 HR HBV ⊢
    have hUr : U ≤ r := by have := HPQ.out; have := HM.out.size; omega
    have HUR := Aside0.mk hUr
    have HFIN : Aside0 (∀ (z : QB.Later w5) (v0 v1 v2 : Value), Mch (((z.val.setCell ⟨r, 0, none⟩ v0).setCell ⟨r, 1, none⟩ v1).setCell ⟨r, 2, none⟩ v2) B U g cnt M k ss ∧ Below B w (((z.val.setCell ⟨r, 0, none⟩ v0).setCell ⟨r, 1, none⟩ v1).setCell ⟨r, 2, none⟩ v2) ∧ (∀ i, i < w.heap.size → i ≠ g → (i < B ∨ U ≤ i) → (((z.val.setCell ⟨r, 0, none⟩ v0).setCell ⟨r, 1, none⟩ v1).setCell ⟨r, 2, none⟩ v2).heap[i]? = w.heap[i]?)) := ⟨fun z v0 v1 v2 => by
      have hb := QB.below_trans HB5.out z.below
      refine ⟨far3 (HM3.out.below hb) (blk_below HQ3.out hb) HUR.out v0 v1 v2, (below3 (HB3.out.trans (hb.mono HM3.out.size.1)) HUR.out v0 v1 v2).mono HM3.out.size.2, fun i hi hne _ => ?_⟩
      rw [keep3 _ _ _ _ _ _ (by have := HPQ.out; omega), hb.block i (Nat.lt_of_lt_of_le hi HS3.out)]
      exact HK3.out i hi hne⟩
    by_cases her : v4 = 0
    rotate_left
    · have e1 : (v4 != 0) = true := bne_iff_ne.mpr her
      rw [if_neg her] at HR
      clear her
      go_wp2_with fail
      obtain ⟨h1, h2, h3⟩ := HFIN.out y (.int .i64 v4) (.int .i64 0) (.slice none 0 0)
      refine bodyPost_ret (results_cell_row rfl _ _ r 70 _ (0, 0) _ rfl (put3 (blk_below HQ3.out (QB.below_trans HB5.out y.below)) _ _ _) Tryz.underlying70 rfl (by kernel_rfl)) rfl ?_
      rw [HR.out]
      exact ⟨_, _, rfl, h1, h2, h3⟩
    rw [if_pos her] at HR
    subst her
    cases v3
    rotate_left
    · rw [if_pos rfl] at HR
      go_wp2_with fail
      obtain ⟨h1, h2, h3⟩ := HFIN.out y (.int .i64 v1) (.int .i64 v2) (.slice A9 0 c9)
      refine bodyPost_ret (results_cell_row rfl _ _ r 70 _ (0, 0) _ rfl (put3 (blk_below HQ3.out (QB.below_trans HB5.out y.below)) _ _ _) Tryz.underlying70 rfl (by kernel_rfl)) rfl ?_
      rw [HR.out]
      exact ⟨_, _, rfl, h1, h2, h3⟩
    rw [if_neg Bool.false_ne_true] at HR
    obtain ⟨M', hM'⟩ : ∃ z, (delV M id.data.toList).1 = z := ⟨_, rfl⟩
    obtain ⟨r0, hr0⟩ : ∃ z, (delV M id.data.toList).2 = z := ⟨_, rfl⟩
    have HDV : Aside0 (delV M id.data.toList = (M', r0)) := ⟨by rw [← hM', ← hr0]⟩
    have HCO : Aside0 (0 ≤ r0 ∧ r0 ≤ 10) := ⟨by rw [← hr0]; exact delV_code M _⟩
    rw [hM', hr0] at HR
    clear hM' hr0
    obtain ⟨rs, hrs⟩ : ∃ rs, doneTo ss a q r0 0 k = rs := ⟨_, rfl⟩
    have HANY : Aside0 (anyS ss a = true) := ⟨by
      have h := HBV.out
      unfold beginV at h
      cases hh : anyS ss a
      · rw [hh] at h; simp at h
      · rfl⟩
    obtain ⟨kf, HDN⟩ : ∃ kf, Aside0 (session_Done.f kf ss a q r0 0 [] k = some (rs, 0)) := by
      obtain ⟨kf, hk⟩ := Ev.some (done_may HMAY.out a q r0 0 [] k)
      refine ⟨kf, ⟨hk.trans ?_⟩⟩
      have e1 : numB k 1 = true := decide_eq_true HK.out.2
      have e2 : replyB r0 0 [] = true := by
        have h1 := HCO.out
        unfold replyB numB
        simp [h1.1, h1.2]
      unfold doneV
      rw [if_pos HNQ.out, if_pos e1, if_pos e2, if_pos HANY.out, hrs]
    rw [hrs] at HR
    clear hrs
    go_wp2_with fail
    have hb := QB.below_trans HB5.out y.below
    have HMY := Aside0.mk (HM3.out.below hb)
    have HPY := Aside0.mk (blk_below HP3.out hb)
    have HQY := Aside0.mk (blk_below HQ3.out hb)
    have HTY := Aside0.mk (blk_below HT5.out y.below)
    have HBY : Aside0 (Below U w y.val) := ⟨HB3.out.trans (hb.mono HM3.out.size.1)⟩
    have HKY : Aside0 (∀ i, i < w.heap.size → i ≠ g → y.val.heap[i]? = w.heap[i]?) := ⟨fun i hi hne => (hb.block i (Nat.lt_of_lt_of_le hi HS3.out)).trans (HK3.out i hi hne)⟩
    have HTL : Aside0 (w.heap.size ≤ t ∧ U ≤ t ∧ U ≤ p ∧ U ≤ r ∧ t ≠ r ∧ t ≠ p ∧ t ≠ g) := ⟨by
      have h1 := HPQ.out
      have h2 := HM.out.size.1
      have h3 := HS3.out
      have h4 := blk_lt HQ3.out
      have h5 := blk_lt HP3.out
      have h6 : w3.heap.size ≤ t := HTW.out
      obtain ⟨_, _, hg, _, _⟩ := HMY.out.ex
      have h7 := blk_ne HTY.out hg (by decide)
      omega⟩
    refine (does90 HMY.out a q id HID.out HDV.out).mono ?_
    rintro e w6 ⟨rfl, hm6, hk6⟩
    have HM6 := Aside0.mk hm6
    have HP6 := Aside0.mk ((hk6.kept p (blk_lt HPY.out) (.inr HTL.out.2.2.1)).trans HPY.out)
    have HQ6 := Aside0.mk ((hk6.kept r (blk_lt HQY.out) (.inr HTL.out.2.2.2.1)).trans HQY.out)
    have HT6 := Aside0.mk ((hk6.kept t (blk_lt HTY.out) (.inr HTL.out.2.1)).trans HTY.out)
    have HK6 : Aside0 (∀ i, i < w.heap.size → i ≠ g → (i < B ∨ U ≤ i) → w6.heap[i]? = w.heap[i]?) := ⟨fun i hi hne ho => (hk6.kept i (Nat.lt_of_lt_of_le hi (Nat.le_trans HS3.out (QB.below_trans HB5.out y.below).size)) ho).trans (HKY.out i hi hne)⟩
    have HB6 : Aside0 (Below B w w6) := ⟨(HBY.out.mono HM.out.size.2).trans hk6.below⟩
    have HZ6 : Aside0 (U ≤ w6.heap.size) := ⟨hm6.size.1⟩
    clear hm6 hk6 hb x0 x1 x2 x3 x4 z0 z1 z2 f0 f1 f2 g2 t0 t1 t2 gf
    have t0 : w6.cell? ⟨t, 0, none⟩ = some (.int .i64 v1) := (blk_cell HT6.out 0).trans rfl
    have t1 : w6.cell? ⟨t, 1, none⟩ = some (.int .i64 v2) := (blk_cell HT6.out 1).trans rfl
    have t2 : w6.cell? ⟨t, 2, none⟩ = some (.slice A9 0 c9) := (blk_cell HT6.out 2).trans rfl
    have u0 := blk_frozen HT6.out 0
    have u1 := blk_frozen HT6.out 1
    have u2 := blk_frozen HT6.out 2
    go_upto_region 14 with (fail)
    obtain ⟨w7, hw7⟩ : ∃ z, z = ((w6.setCell ⟨t, 0, none⟩ (.int .i64 r0)).setCell ⟨t, 1, none⟩ (.int .i64 0)).setCell ⟨t, 2, none⟩ (.slice none 0 0) := ⟨_, rfl⟩
    have HM8 : Aside0 (Mch w7.drew B U g cnt M' k ss) := ⟨by rw [hw7]; exact (far3 HM6.out HT6.out HTL.out.2.1 _ _ _).below (below_drew1 (Below.refl _ _))⟩
    have HP8 : Aside0 (w7.drew.heap[p]? = some (.cells #[.int .i64 3, .int .i64 a, .int .i64 q, .string id, .string ⟨#[]⟩] 73 (0, 0))) := ⟨by rw [hw7]; exact blk_drew (far3b HP6.out (Ne.symm HTL.out.2.2.2.2.2.1) _ _ _)⟩
    have HQ8 : Aside0 (w7.drew.heap[r]? = some (.cells #[.int .i64 0, .int .i64 0, .slice none 0 0] 70 (0, 0))) := ⟨by rw [hw7]; exact blk_drew (far3b HQ6.out (Ne.symm HTL.out.2.2.2.2.1) _ _ _)⟩
    have HT8 : Aside0 (w7.drew.heap[t]? = some (.cells #[.int .i64 r0, .int .i64 0, .slice none 0 0] 70 (0, 0))) := ⟨by rw [hw7]; exact blk_drew (put3 HT6.out _ _ _)⟩
    have HB8 : Aside0 (Below B w w7.drew) := ⟨by rw [hw7]; exact below_drew1 (below3 HB6.out (Nat.le_trans HM.out.size.2 HTL.out.2.1) _ _ _)⟩
    have HK8 : Aside0 (∀ i, i < w.heap.size → i ≠ g → (i < B ∨ U ≤ i) → w7.drew.heap[i]? = w.heap[i]?) := ⟨fun i hi hne ho => by rw [hw7]; exact (keep3 _ _ _ _ _ _ (by have := HTL.out.1; omega)).trans (HK6.out i hi hne ho)⟩
    have HUS : Aside0 (U ≤ w7.drew.heap.size) := ⟨HM8.out.size.1⟩
    have HUZ : Aside0 (w.heap.size ≤ w7.drew.heap.size) := ⟨HB8.out.size⟩
    rw [← hw7]
    clear hw7 t0 t1 t2 u0 u1 u2
    obtain ⟨gs8, vs8, hg8, -, hvs8⟩ := HM8.out.ex
    obtain ⟨A6, c6, rfl⟩ := Kd.R_slice (Kd.S_R hvs8)
    have HG8 := Aside0.mk hg8
    have HV8 := Aside0.mk (Kd.R_reads' (Kd.S_R hvs8)).2
    clear hg8 hvs8
    refine start_ (n := 18) (S := fun w' => w'.cell? ⟨g, 2, none⟩ = some (.slice A6 ss.length c6) ∧ w'.cell? ⟨p, 1, none⟩ = some (.int .i64 a) ∧ w'.cell? ⟨p, 2, none⟩ = some (.int .i64 q) ∧ w'.cell? ⟨t, 0, none⟩ = some (.int .i64 r0) ∧ w'.cell? ⟨t, 1, none⟩ = some (.int .i64 0) ∧ w'.cell? ⟨t, 2, none⟩ = some (.slice none 0 0)) (ds := [17]) #[false, false, false, false, false, false, false, false, false, false, false, false, false, false, false, false, false, false] (by kernel_rfl) rfl rfl ⟨((blk_cell HG8.out 2).trans rfl), ((blk_cell HP8.out 1).trans rfl), ((blk_cell HP8.out 2).trans rfl), ((blk_cell HT8.out 0).trans rfl), ((blk_cell HT8.out 1).trans rfl), ((blk_cell HT8.out 2).trans rfl)⟩ (fun hHeld => ?_)
    generalize w7.drew = w8 at HB8 HG8 HP8 HT8 HQ8 HM8 HV8 HUS HUZ HK8 hHeld ⊢
    refine pure_ (i := 0) (N := some 70) (v := ?_) (a' := ?_) #[true, false, false, false, false, false, false, false, false, false, false, false, false, false, false, false, false, false] rfl rfl (by kernel_rfl) (fun _ _ _ h => h) (Or.inl ⟨by rfl, ?_⟩) ?_ ?_
    rotate_left
    · intro w'
      go_simp
      with_reducible rfl
    rotate_left
    · simp only [Act.put, List.setIfInBounds_toArray, List.set_cons_zero, List.set_cons_succ, i64_w, i32_w]
      rfl
    refine pure_ (i := 1) (N := some 71) (v := ?_) (a' := ?_) #[true, true, false, false, false, false, false, false, false, false, false, false, false, false, false, false, false, false] rfl rfl (by kernel_rfl) (fun _ _ _ h => h) (Or.inl ⟨by rfl, ?_⟩) ?_ ?_
    rotate_left
    · intro w'
      go_simp
      with_reducible rfl
    rotate_left
    · simp only [Act.put, List.setIfInBounds_toArray, List.set_cons_zero, List.set_cons_succ, i64_w, i32_w]
      rfl
    refine pure_ (i := 2) (N := some 72) (v := ?_) (a' := ?_) #[true, true, true, false, false, false, false, false, false, false, false, false, false, false, false, false, false, false] rfl rfl (by kernel_rfl) (fun _ _ _ h => h) (Or.inl ⟨by rfl, ?_⟩) ?_ ?_
    rotate_left
    · intro w'
      go_simp
      with_reducible rfl
    rotate_left
    · simp only [Act.put, List.setIfInBounds_toArray, List.set_cons_zero, List.set_cons_succ, i64_w, i32_w]
      rfl
    refine pure_ (i := 3) (N := some 73) (v := ?_) (a' := ?_) #[true, true, true, true, false, false, false, false, false, false, false, false, false, false, false, false, false, false] rfl rfl (by kernel_rfl) (fun _ _ _ h => h) (Or.inl ⟨by rfl, ?_⟩) ?_ ?_
    rotate_left
    · intro w'
      go_simp
      with_reducible rfl
    rotate_left
    · simp only [Act.put, List.setIfInBounds_toArray, List.set_cons_zero, List.set_cons_succ, i64_w, i32_w]
      rfl
    refine pure_ (i := 5) (N := some 75) (v := ?_) (a' := ?_) #[true, true, true, true, false, true, false, false, false, false, false, false, false, false, false, false, false, false] rfl rfl (by kernel_rfl) (fun _ _ _ h => h) (Or.inl ⟨by rfl, ?_⟩) ?_ ?_
    rotate_left
    · intro w'
      go_simp
      with_reducible rfl
    rotate_left
    · simp only [Act.put, List.setIfInBounds_toArray, List.set_cons_zero, List.set_cons_succ, i64_w, i32_w]
      rfl
    refine pure_ (i := 7) (N := some 77) (v := ?_) (a' := ?_) #[true, true, true, true, false, true, false, true, false, false, false, false, false, false, false, false, false, false] rfl rfl (by kernel_rfl) (fun _ _ _ h => h) (Or.inl ⟨by rfl, ?_⟩) ?_ ?_
    rotate_left
    · intro w'
      go_simp
      with_reducible rfl
    rotate_left
    · simp only [Act.put, List.setIfInBounds_toArray, List.set_cons_zero, List.set_cons_succ, i64_w, i32_w]
      rfl
    refine pure_ (i := 10) (N := some 80) (v := ?_) (a' := ?_) #[true, true, true, true, false, true, false, true, false, false, true, false, false, false, false, false, false, false] rfl rfl (by kernel_rfl) (fun _ _ _ h => h) (Or.inl ⟨by rfl, ?_⟩) ?_ ?_
    rotate_left
    · intro w'
      go_simp
      with_reducible rfl
    rotate_left
    · simp only [Act.put, List.setIfInBounds_toArray, List.set_cons_zero, List.set_cons_succ, i64_w, i32_w]
      rfl
    refine take_ (i := 4) (N := some 74) (v := ?_) (a' := ?_) #[true, true, true, true, true, true, false, true, false, false, true, false, false, false, false, false, false, false] rfl rfl (by kernel_rfl) (fun _ _ _ h => h) (Or.inl ⟨by rfl, ?_⟩) hHeld ?_ ?_
    rotate_left
    · rintro w' ⟨s0, s1, s2, s3, s4, s5⟩
      go_simp
      with_reducible rfl
    rotate_left
    · simp only [Act.put, List.setIfInBounds_toArray, List.set_cons_zero, List.set_cons_succ, i64_w, i32_w]
      rfl
    refine take_ (i := 6) (N := some 76) (v := ?_) (a' := ?_) #[true, true, true, true, true, true, true, true, false, false, true, false, false, false, false, false, false, false] rfl rfl (by kernel_rfl) (fun _ _ _ h => h) (Or.inl ⟨by rfl, ?_⟩) hHeld ?_ ?_
    rotate_left
    · rintro w' ⟨s0, s1, s2, s3, s4, s5⟩
      go_simp
      with_reducible rfl
    rotate_left
    · simp only [Act.put, List.setIfInBounds_toArray, List.set_cons_zero, List.set_cons_succ, i64_w, i32_w]
      rfl
    refine take_ (i := 8) (N := some 78) (v := ?_) (a' := ?_) #[true, true, true, true, true, true, true, true, true, false, true, false, false, false, false, false, false, false] rfl rfl (by kernel_rfl) (fun _ _ _ h => h) (Or.inl ⟨by rfl, ?_⟩) hHeld ?_ ?_
    rotate_left
    · rintro w' ⟨s0, s1, s2, s3, s4, s5⟩
      go_simp
      with_reducible rfl
    rotate_left
    · simp only [Act.put, List.setIfInBounds_toArray, List.set_cons_zero, List.set_cons_succ, i64_w, i32_w]
      rfl
    refine take_ (i := 9) (N := some 79) (v := ?_) (a' := ?_) #[true, true, true, true, true, true, true, true, true, true, true, false, false, false, false, false, false, false] rfl rfl (by kernel_rfl) (fun _ _ _ h => h) (Or.inl ⟨by rfl, ?_⟩) hHeld ?_ ?_
    rotate_left
    · rintro w' ⟨s0, s1, s2, s3, s4, s5⟩
      go_simp
      with_reducible rfl
    rotate_left
    · simp only [Act.put, List.setIfInBounds_toArray, List.set_cons_zero, List.set_cons_succ, i64_w, i32_w]
      rfl
    refine one_ (i := 11) (N := some 81) #[true, true, true, true, true, true, true, true, true, true, true, true, false, false, false, false, false, false] rfl rfl (by kernel_rfl) (by decide) (fun K hK => ?_)
    refine goes_ Tryz.func91 (by kernel_rfl) rfl #[.slice A6 ss.length c6, .int .i64 a, .int .i64 q, .agg #[.int .i64 r0, .int .i64 0, .slice none 0 0], .int .i64 k] (by rfl) rfl rfl (by simp only [List.map_toArray, List.map_cons, List.map_nil]; rfl) ?_
    with_reducible refine (done91 kf A6 c6 ss a q r0 k rs w8 HV8.out.2 HV8.out.1 HDN.out).mono ?_
    rintro e w9 ⟨v9, rfl, hs9, hb9⟩
    refine ⟨_, rfl, ?_⟩
    obtain ⟨A10, c10, rfl⟩ := Kd.R_slice (Kd.S_R hs9)
    have HS9 := Aside0.mk (Kd.S_lower hs9 HUS.out)
    have HB9 := Aside0.mk hb9
    have HG9 := Aside0.mk (blk_below HG8.out hb9)
    have HP9 := Aside0.mk (blk_below HP8.out hb9)
    have HT9 := Aside0.mk (blk_below HT8.out hb9)
    have gz9 := blk_frozen HG9.out 2
    have gc9 : w9.cell? ⟨g, 2, none⟩ = some (.slice A6 ss.length c6) := (blk_cell HG9.out 2).trans rfl
    clear hs9 hb9
    refine hK.out _ _ ⟨((blk_cell HG9.out 2).trans rfl), ((blk_cell HP9.out 1).trans rfl), ((blk_cell HP9.out 2).trans rfl), ((blk_cell HT9.out 0).trans rfl), ((blk_cell HT9.out 1).trans rfl), ((blk_cell HT9.out 2).trans rfl)⟩ (fun hHeld => ?_)
    clear hK K
    refine norm_ (a' := ?_) ?_ ?_
    rotate_left
    · show Act.put _ (some 81) _ = _
      simp only [Act.put, List.setIfInBounds_toArray, List.set_cons_zero, List.set_cons_succ, i64_w, i32_w]
      rfl
    refine pure_ (i := 12) (N := some 69) (v := ?_) (a' := ?_) #[true, true, true, true, true, true, true, true, true, true, true, true, true, false, false, false, false, false] rfl rfl (by kernel_rfl) (fun _ _ _ h => h) (Or.inl ⟨by rfl, ?_⟩) ?_ ?_
    rotate_left
    · intro w'
      go_simp
      with_reducible rfl
    rotate_left
    · simp only [Act.put, List.setIfInBounds_toArray, List.set_cons_zero, List.set_cons_succ, i64_w, i32_w]
      rfl
    refine pure_ (i := 13) (N := some 82) (v := ?_) (a' := ?_) #[true, true, true, true, true, true, true, true, true, true, true, true, true, true, false, false, false, false] rfl rfl (by kernel_rfl) (fun _ _ _ h => h) (Or.inl ⟨by rfl, ?_⟩) ?_ ?_
    rotate_left
    · intro w'
      go_simp
      with_reducible rfl
    rotate_left
    · simp only [Act.put, List.setIfInBounds_toArray, List.set_cons_zero, List.set_cons_succ, i64_w, i32_w]
      rfl
    refine pure_ (i := 14) (N := some 83) (v := ?_) (a' := ?_) #[true, true, true, true, true, true, true, true, true, true, true, true, true, true, true, false, false, false] rfl rfl (by kernel_rfl) (fun _ _ _ h => h) (Or.inl ⟨by rfl, ?_⟩) ?_ ?_
    rotate_left
    · intro w'
      go_simp
      with_reducible rfl
    rotate_left
    · simp only [Act.put, List.setIfInBounds_toArray, List.set_cons_zero, List.set_cons_succ, i64_w, i32_w]
      rfl
    refine pure_ (i := 15) (N := some 84) (v := ?_) (a' := ?_) #[true, true, true, true, true, true, true, true, true, true, true, true, true, true, true, true, false, false] rfl rfl (by kernel_rfl) (fun _ _ _ h => h) (Or.inl ⟨by rfl, ?_⟩) ?_ ?_
    rotate_left
    · intro w'
      go_simp
      with_reducible rfl
    rotate_left
    · simp only [Act.put, List.setIfInBounds_toArray, List.set_cons_zero, List.set_cons_succ, i64_w, i32_w]
      rfl
    refine pure_ (i := 16) (N := some 85) (v := ?_) (a' := ?_) #[true, true, true, true, true, true, true, true, true, true, true, true, true, true, true, true, true, false] rfl rfl (by kernel_rfl) (fun _ _ _ h => h) (Or.inl ⟨by rfl, ?_⟩) ?_ ?_
    rotate_left
    · intro w'
      go_simp
      with_reducible rfl
    rotate_left
    · simp only [Act.put, List.setIfInBounds_toArray, List.set_cons_zero, List.set_cons_succ, i64_w, i32_w]
      rfl
    refine last_ (i := 17) (N := none) #[true, true, true, true, true, true, true, true, true, true, true, true, true, true, true, true, true, true] rfl rfl (by kernel_rfl) (by decide) (fun K hK => ?_)
    refine skip_ (w1 := ?_) (by rfl) rfl ?_ ?_
    rotate_left
    · go_simp
      rfl
    refine hK.out _ _ ?_
    clear hK K
    refine done_ (by kernel_rfl) ?_
    have hrg : r ≠ g := HGP.out.2
    have hgr : g ≠ r := Ne.symm hrg
    have htg := HTL.out.2.2.2.2.2.2
    have hgt := Ne.symm htg
    have hrt : r ≠ t := Ne.symm HTL.out.2.2.2.2.1
    have htr := HTL.out.2.2.2.2.1
    have HQ9 := Aside0.mk (blk_below HQ8.out HB9.out)
    have z0 : w9.cell? ⟨r, 0, none⟩ = some (.int .i64 0) := (blk_cell HQ9.out 0).trans rfl
    have z1 : w9.cell? ⟨r, 1, none⟩ = some (.int .i64 0) := (blk_cell HQ9.out 1).trans rfl
    have z2 : w9.cell? ⟨r, 2, none⟩ = some (.slice none 0 0) := (blk_cell HQ9.out 2).trans rfl
    have f0 := blk_frozen HQ9.out 0
    have f1 := blk_frozen HQ9.out 1
    have f2 := blk_frozen HQ9.out 2
    have t0 : w9.cell? ⟨t, 0, none⟩ = some (.int .i64 r0) := (blk_cell HT9.out 0).trans rfl
    have t1 : w9.cell? ⟨t, 1, none⟩ = some (.int .i64 0) := (blk_cell HT9.out 1).trans rfl
    have t2 : w9.cell? ⟨t, 2, none⟩ = some (.slice none 0 0) := (blk_cell HT9.out 2).trans rfl
    go_wp2_with fail
    have hm8 := (HM8.out.below HB9.out).setSs HS9.out
    have hr8 := blk_far (p := ⟨g, 2, none⟩) HQ9.out HGP.out.2 (.slice A10 rs.length c10)
    refine bodyPost_ret (results_cell_row rfl _ _ r 70 _ (0, 0) _ rfl (put3 hr8 (.int .i64 r0) (.int .i64 0) (.slice none 0 0)) Tryz.underlying70 rfl (by kernel_rfl)) rfl ?_
    rw [HR.out]
    refine ⟨_, _, rfl, far3 hm8 hr8 HUR.out _ _ _, below3 ((HB8.out.trans (HB9.out.mono (Nat.le_trans HM.out.size.2 HUS.out))).setCell (Nat.le_trans HM.out.size.2 HM.out.lo) _) (Nat.le_trans HM.out.size.2 HUR.out) _ _ _, fun i hi hne ho => ?_⟩
    rw [keep3 _ _ _ _ _ _ (by have := HPQ.out; omega)]
    refine (Below.heap_setCell _ ⟨g, 2, none⟩ _ i hne).trans ?_
    rw [HB9.out.block i (Nat.lt_of_lt_of_le hi HUZ.out)]
    exact HK8.out i hi hne ho
end Go.Proofs.YtpeldaogdeefeaaGreat.M
