/- Sessions: rows of one's own (MHShf, Mx38, Mx47). -/
import Derived.Test.YtpeldaogdeefeaaGreatHList
import Derived.Test.YtpeldaogdeefeaaGreatMG0
import Derived.Test.YtpeldaogdeefeaaGreatMx4
import Derived.Test.YtpeldaogdeefeaaGreatMx5
import Derived.Maps.Own
import Derived.Maps.OwnOps
import Derived.Outline
import Derived.WalkLawsBesides
import Derived.KernelRfl
import Derived.BigRegion
import Derived.BigQuiet
import Derived.StringKeys
import Derived.ChangeAlike
import Derived.Test.YtpeldaogdeefeaaGreatMx0
/-! MHShf -/
namespace Go.Proofs.YtpeldaogdeefeaaGreat.M
open Go.Proofs.YtpeldaogdeefeaaGreat.H Go.RowKit Go.Maps Go.Sort Go.Proofs.YtpeldaogdeefeaaGreatW.PrintWords Go.Proofs.YtpeldaogdeefeaaGreatW.PrintLast Go.Proofs.YtpeldaogdeefeaaGreatW.PrintMore Go.Proofs.YtpeldaogdeefeaaGreat.Base
set_option linter.unusedVariables false
set_option linter.unusedSimpArgs false
noncomputable abbrev strE := plainElem (H := Unit) Tryz.prog 9
noncomputable abbrev booE := plainElem (H := Unit) Tryz.prog 4
theorem K9 : Keyed Tryz.prog 9 := string_keyed Tryz.underlying9
def fS (t : Bs) : DataW Unit := .lit (.string t)
def fB (_ : Unit) : DataW Unit := .lit (.bool true)
abbrev Texts (w : World) (b n : Nat) (D : DataW Unit) : Prop := w.ownsMap Tryz.prog 9 strE b n D
abbrev Fresh (w : World) (b n : Nat) (D : DataW Unit) : Prop := w.ownsMap Tryz.prog 9 booE b n D
/-- But for two blocks all stays. -/
structure Kept2 (w w' : World) (g b : Nat) : Prop where
  size : w.heap.size ≤ w'.heap.size
  kept : ∀ i, i < w.heap.size → i ≠ g → i ≠ b → w'.heap[i]? = w.heap[i]?
  below : ∀ B, B ≤ g → B ≤ b → B ≤ w.heap.size → Below B w w'
theorem Kept2.trans {w w1 w2 : World} {g b : Nat} (h : Kept2 w w1 g b) (k : Kept2 w1 w2 g b) : Kept2 w w2 g b where
  size := Nat.le_trans h.size k.size
  kept := fun i hi hg hb => (k.kept i (by have := h.size; omega) hg hb).trans (h.kept i hi hg hb)
  below := fun B hg hb hs => (h.below B hg hb hs).trans (k.below B hg hb (by have := h.size; omega))
theorem Kept2.alloc (w : World) (o : Obj) (g b : Nat) : Kept2 w (w.alloc o) g b where
  size := by simp
  kept := fun i hi _ _ => Below.heap_alloc w o i hi
  below := fun B _ _ hs => (Below.refl B w).alloc hs o
theorem Kept2.of_below {w w' : World} {g b : Nat} (h : Below w.heap.size w w') : Kept2 w w' g b where
  size := h.size
  kept := fun i hi _ _ => h.block i hi
  below := fun B _ _ hs => h.mono hs
theorem Kept2.drewN (w : World) (n g b : Nat) : Kept2 w (w.drewN n) g b := .of_below (pw_below_drewN (Below.refl _ _) n)
theorem Kept2.drew (w : World) (g b : Nat) : Kept2 w w.drew g b := .of_below (below_drew (Below.refl _ _))
theorem Kept2.grown {w w' : World} {g b : Nat} (h : w.grownBy w' (some b)) : Kept2 w w' g b where
  size := h.size
  kept := fun i hi _ hb => h.block i hi (by simpa using hb)
  below := fun B _ hb hs => pw_below_grown (Below.refl _ _) _ hs h (fun k hk => by cases hk; exact hb)
theorem Kept2.set {w : World} {g b : Nat} (j : Nat) (v : Value) : Kept2 w (w.setCell ⟨g, j, none⟩ v) g b where
  size := by simp [World.setCell]
  kept := fun i hi hg _ => Below.heap_setCell w ⟨g, j, none⟩ v i hg
  below := fun B hg _ hs => (Below.refl B w).setCell hg v
theorem Kept2.map {w w' : World} {g b : Nat} (h : Kept2 w w' g b) {b' n : Nat} {R : Value → Option (DataW Unit × List MemPlace)} {D : DataW Unit} (hm : w.ownsMap Tryz.prog 9 R b' n D) (h1 : b' ≠ g) (h2 : b' ≠ b) : w'.ownsMap Tryz.prog 9 R b' n D := by
  have hl := hm.lt
  obtain ⟨es, clock, hb, Ft, hs, hD⟩ := hm
  exact ⟨es, clock, (h.kept b' hl h1 h2).trans hb, Ft, hs, hD⟩
theorem map_keep {w w' : World} {b' n : Nat} {R : Value → Option (DataW Unit × List MemPlace)} {D : DataW Unit} (hm : w.ownsMap Tryz.prog 9 R b' n D) (h : w'.heap[b']? = w.heap[b']?) : w'.ownsMap Tryz.prog 9 R b' n D := by
  obtain ⟨es, clock, hb, Ft, hs, hD⟩ := hm
  exact ⟨es, clock, h.trans hb, Ft, hs, hD⟩
theorem map_ne {w : World} {b n g : Nat} {R : Value → Option (DataW Unit × List MemPlace)} {D : DataW Unit} {cs : Array Value} {t : TypeId} {z : Nat × Nat} (hm : w.ownsMap Tryz.prog 9 R b n D) (hg : w.heap[g]? = some (.cells cs t z)) : b ≠ g := by
  obtain ⟨es, clock, hb, _⟩ := hm
  rintro rfl
  rw [hg] at hb
  cases hb
theorem look_str {w : World} {b n : Nat} {D : DataW Unit} (h : Texts w b n D) (id : ByteArray) (hs : id.size ≤ maxLen) {tx : ByteArray} (hp : ∀ z, D.atKey (.string id.data.toList) z = fS tx.data.toList) :
    (Instr.lookup 96 (.map (some b)) (.string id) false).run Tryz.prog w = .ok (.string tx) w := by
  obtain ⟨v, ps, hrun, hv⟩ := World.ownsMap.lookup h K9 Tryz.underlying96 (z := .string ⟨#[]⟩) (zd := .lit (.string [])) (zp := []) (Tryz.zeroValue9 w) (plainElem_string (H := Unit) Tryz.underlying9 (s := ⟨#[]⟩) (by decide)) (WideMaps.keyOf_string_mk Tryz.underlying9 hs)
  obtain ⟨s, rfl, hz, _⟩ := plainElem_string_inv Tryz.underlying9 hv
  rw [hp] at hz
  simp only [fS, Prod.mk.injEq, DataW.lit.injEq, Lit.string.injEq] at hz
  have e : s = tx := by
    obtain ⟨⟨s⟩⟩ := s
    obtain ⟨⟨t⟩⟩ := tx
    simp only at hz
    rw [hz.1]
  rw [hrun, e]
set_option maxRecDepth 100000 in
set_option maxHeartbeats 1600000 in
theorem put_calls (g bt nt : Nat) (hnt : nt < 1000000) (D : DataW Unit) (n : Int) (h0 : 0 ≤ n) (h1 : n ≤ 1000000000000) (v2 v3 : Value) (id tx : ByteArray) (hid : id.size ≤ maxLen) (htx : tx.size ≤ 1000000000000) (w : World)
    (hg : w.heap[g]? = some (.cells #[.map (some bt), .int .i64 n, v2, v3] 102 (0, 0))) (hm : Texts w bt nt D) :
    Calls Tryz.prog 64 #[.pointer (some ⟨g, 0, none⟩), .agg #[.string id, .string tx]] w fun e w' => e = .returned (.tuple #[]) ∧ w'.heap[g]? = some (.cells #[.map (some bt), .int .i64 (n + tx.size), v2, v3] 102 (0, 0)) ∧
      Texts w' bt (nt + 1) (D.put (.string id.data.toList) (fS tx.data.toList)) ∧ Kept2 w w' g bt := by
  have hu36 := Tryz.underlying36
  have hu98 := Tryz.underlying98
  have hne := map_ne hm hg
  have hgl := blk_lt hg
  have hm1 : Texts (w.alloc (.cells #[.string id, .string tx] 36)).drew bt nt D := (World.ownsMap.alloc hm _).drew
  obtain ⟨w3, hrun3, hm3, hgr3⟩ := World.ownsMap.update hm1 K9 Tryz.underlying96 (by unfold maxLen; omega) (WideMaps.keyOf_string_mk Tryz.underlying9 hid) (plainElem_string (H := Unit) Tryz.underlying9 (s := tx) (by unfold maxLen; omega))
  have hg1 : (w.alloc (.cells #[.string id, .string tx] 36)).heap[g]? = some (.cells #[.map (some bt), .int .i64 n, v2, v3] 102 (0, 0)) := blk_alloc hg _
  have hb1 := heap_alloc_new w (.cells #[.string id, .string tx] 36)
  have hgs : (w.alloc (.cells #[.string id, .string tx] 36)).heap.size = w.heap.size + 1 := by simp
  have hlt := hm.lt
  have hg3 : w3.heap[g]? = some (.cells #[.map (some bt), .int .i64 n, v2, v3] 102 (0, 0)) := (hgr3.block g (by show g < (w.alloc (.cells #[.string id, .string tx] 36)).heap.size; omega) (by simpa using Ne.symm hne)).trans hg1
  have hb3 : w3.heap[w.heap.size]? = some (.cells #[.string id, .string tx] 36 (0, 0)) := (hgr3.block _ (by show _ < (w.alloc (.cells #[.string id, .string tx] 36)).heap.size; omega) (by simp; omega)).trans hb1
  have HK : Aside0 (Kept2 w w3 g bt) := ⟨((Kept2.alloc w _ g bt).trans (Kept2.drew _ g bt)).trans (Kept2.grown hgr3)⟩
  have HNE := Aside0.mk hne
  have HM3 := Aside0.mk hm3
  have HG3 := Aside0.mk hg3
  have a0 : (w.alloc (.cells #[.string id, .string tx] 36)).cell? ⟨g, 0, none⟩ = some (.map (some bt)) := (blk_cell hg1 0).trans rfl
  have a1 : (w.alloc (.cells #[.string id, .string tx] 36)).cell? ⟨w.heap.size, 0, none⟩ = some (.string id) := (blk_cell hb1 0).trans rfl
  have a2 : (w.alloc (.cells #[.string id, .string tx] 36)).cell? ⟨w.heap.size, 1, none⟩ = some (.string tx) := (blk_cell hb1 1).trans rfl
  have b1 : w3.cell? ⟨g, 1, none⟩ = some (.int .i64 n) := (blk_cell hg3 1).trans rfl
  have b2 : w3.cell? ⟨w.heap.size, 1, none⟩ = some (.string tx) := (blk_cell hb3 1).trans rfl
  have f1 := blk_frozen hg3 1
  have hw : wrap64 (n + (tx.size : Int)) = n + (tx.size : Int) := by unfold wrap64; omega
  have hw2 : IntKind.i64.wrap (n + (tx.size : Int)) = n + (tx.size : Int) := by rw [i64_w]; exact hw
  clear hm hg hm1 hg1 hb1 hm3 hgr3 hg3 hb3 hgs hne
  go_enter Tryz.func64, Tryz.ntmps64
  go_upto_region 1 with (fail)
  go_region
  go_upto_region 2 with (fail)
  clear hrun3 a0 a1 a2
  go_region
  go_end0
  exact ⟨rfl, blk_put HG3.out 1 _ rfl, map_keep HM3.out (Below.heap_setCell w3 ⟨g, 1, none⟩ _ bt HNE.out), HK.out.trans ((Kept2.set 1 _).trans (Kept2.drew _ _ _))⟩
set_option maxRecDepth 100000 in
set_option maxHeartbeats 1600000 in
theorem take_calls (g bt nt : Nat) (D : DataW Unit) (n : Int) (h0 : 0 ≤ n) (h1 : n ≤ 1000000000000) (v2 v3 : Value) (id tx : ByteArray) (hid : id.size ≤ maxLen) (htx : tx.size ≤ 1000000000000) (w : World)
    (hg : w.heap[g]? = some (.cells #[.map (some bt), .int .i64 n, v2, v3] 102 (0, 0))) (hm : Texts w bt nt D) (hat : ∀ z, D.atKey (.string id.data.toList) z = fS tx.data.toList) :
    Calls Tryz.prog 73 #[.pointer (some ⟨g, 0, none⟩), .string id] w fun e w' => e = .returned (.tuple #[]) ∧ w'.heap[g]? = some (.cells #[.map (some bt), .int .i64 (n - tx.size), v2, v3] 102 (0, 0)) ∧
      Texts w' bt nt (D.del (.string id.data.toList)) ∧ Kept2 w w' g bt := by
  have hu98 := Tryz.underlying98
  have hne := map_ne hm hg
  have hlk := look_str (World.ownsMap.drew hm) id hid hat
  have hgl := blk_lt hg
  have a0 : w.cell? ⟨g, 0, none⟩ = some (.map (some bt)) := (blk_cell hg 0).trans rfl
  have a1 : w.cell? ⟨g, 1, none⟩ = some (.int .i64 n) := (blk_cell hg 1).trans rfl
  have f1 := blk_frozen hg 1
  have hw : wrap64 (n - (tx.size : Int)) = n - (tx.size : Int) := by unfold wrap64; omega
  have hw2 : IntKind.i64.wrap (n - (tx.size : Int)) = n - (tx.size : Int) := by rw [i64_w]; exact hw
  have HG := Aside0.mk hg
  have HM := Aside0.mk hm
  have HNE := Aside0.mk hne
  clear hg hm hne hat
  go_enter Tryz.func73, Tryz.ntmps73
  go_upto_region 0 with (fail)
  go_region
  have hg2 : Aside0 ((w.setCell ⟨g, 1, none⟩ (.int .i64 (n - (tx.size : Int)))).drew.heap[g]? = some (.cells #[.map (some bt), .int .i64 (n - (tx.size : Int)), v2, v3] 102 (0, 0))) := ⟨blk_put HG.out 1 _ rfl⟩
  have hm2 : Texts (w.setCell ⟨g, 1, none⟩ (.int .i64 (n - (tx.size : Int)))).drew bt nt D := map_keep HM.out (Below.heap_setCell w ⟨g, 1, none⟩ _ bt HNE.out)
  have HK2 : Aside0 (Kept2 w (w.setCell ⟨g, 1, none⟩ (.int .i64 (n - (tx.size : Int)))).drew g bt) := ⟨(Kept2.set 1 _).trans (Kept2.drew _ _ _)⟩
  clear a0 a1 f1 hlk hw hw2
  generalize (w.setCell ⟨g, 1, none⟩ (.int .i64 (n - (tx.size : Int)))).drew = w2 at *
  have c0 : w2.cell? ⟨g, 0, none⟩ = some (.map (some bt)) := (blk_cell hg2.out 0).trans rfl
  obtain ⟨w3, hrun, hm3, ht⟩ := World.ownsMap.drop hm2 K9 Tryz.underlying96 (WideMaps.keyOf_string_mk Tryz.underlying9 hid) 0
  have HM3 := Aside0.mk hm3
  have HT := Aside0.mk ht
  clear hm3 ht hm2
  go_wp2_with fail
  go_end0
  exact ⟨rfl, (HT.out.grown.block g (blk_lt hg2.out) (by simpa using Ne.symm HNE.out)).trans hg2.out, HM3.out, HK2.out.trans (Kept2.grown HT.out.grown)⟩
end Go.Proofs.YtpeldaogdeefeaaGreat.M
/-! Mx38 -/
namespace Go.Proofs.YtpeldaogdeefeaaGreat.M
open Go.RowKit Go.Proofs.YtpeldaogdeefeaaGreatW.PrintWords Go.Proofs.YtpeldaogdeefeaaGreatW.PrintLast Go.Proofs.YtpeldaogdeefeaaGreatW.PrintMore
attribute [local go_sem] max2_int min2_int max_two min_two max_three min_three max_four min_four   -- for this text's walks alone
set_option linter.unusedVariables false
set_option linter.unusedSimpArgs false

/-! ### lecternlaw0_DocWeight: function 28 -/
def lecternlaw0_DocWeight.l0 : Nat → List (S36) → Int → Int → Option (Int)
  | 0, _, _, _ => none
  | k + 1, x0, x3, x4 => if x4 < (x0.length : Int) then (if x3 < 1048576 then (if 0 ≤ x4 then (lecternlaw0_DocWeight.l0 k x0 (wrap64 ((wrap64 (x3 + (((rd_T36 x0 x4).f0).size : Int))) + (((rd_T36 x0 x4).f1).size : Int))) (wrap64 (x4 + 1))) else (none)) else (some x3)) else (some x3)
def lecternlaw0_DocWeight.f (k : Nat) (l0 : List (S36)) : Option (Int) := lecternlaw0_DocWeight.l0 k l0 (l0.length : Int) 0
theorem lecternlaw0_DocWeight.mono_l : ∀ k, (∀ y0 y1 y2, LeO (lecternlaw0_DocWeight.l0 k y0 y1 y2) (lecternlaw0_DocWeight.l0 (k + 1) y0 y1 y2))
  | 0 => fun _ _ _ r h => by simp [lecternlaw0_DocWeight.l0] at h
  | k + 1 => by
    have ih0 := lecternlaw0_DocWeight.mono_l k
    · intro y0 y1 y2
      unfold lecternlaw0_DocWeight.l0
      repeat' first
      | (with_reducible exact ih0 _ _ _)
      | (with_reducible exact LeO.refl _)
      | (with_reducible exact LeO.none _)
      | (with_reducible refine LeO.ite ?_ ?_)
      | (with_reducible refine LeO.bind ?_ (fun _ => ?_))
      | exact ih0 _ _ _
      | exact LeO.none _
      | refine LeO.ite ?_ ?_
      | refine LeO.bind ?_ (fun _ => ?_)
theorem lecternlaw0_DocWeight.mono : ∀ a0 k, LeO (lecternlaw0_DocWeight.f k a0) (lecternlaw0_DocWeight.f (k + 1) a0) := by
  intro a0 k
  have ih0 := lecternlaw0_DocWeight.mono_l k
  unfold lecternlaw0_DocWeight.f
  repeat' first
      | (with_reducible exact ih0 _ _ _)
      | (with_reducible exact LeO.refl _)
      | (with_reducible exact LeO.none _)
      | (with_reducible refine LeO.ite ?_ ?_)
      | (with_reducible refine LeO.bind ?_ (fun _ => ?_))
      | exact ih0 _ _ _
      | exact LeO.none _
      | refine LeO.ite ?_ ?_
      | refine LeO.bind ?_ (fun _ => ?_)
set_option maxHeartbeats 8000000 in
set_option maxRecDepth 100000 in
theorem lecternlaw0_DocWeight.calls (k : Nat) (A0 : Option Addr) (c0 : Nat) (l0 : List (S36)) (r : Int) (w : World) (hr0 : Kd.C k36 w A0 l0.length l0) (hc0 : l0.length ≤ c0) (h : lecternlaw0_DocWeight.f k l0 = some r) :
    Calls Tryz.prog 28 #[.slice A0 l0.length c0] w fun e w' => e = .returned (.int .i64 r) ∧ Drawn0 w w' := by
  have HR0 := Aside0.mk hr0
  have HC0 := Aside0.mk hc0
  clear hr0 hc0
  have H : (lecternlaw0_DocWeight.l0 k l0 (l0.length : Int) 0) = some r := h
  clear h
  have H' := Aside0.mk H
  clear H
  go_enter Tryz.func28, Tryz.ntmps28
  go_wp2
  repeat (go_quiet (fail); try go_wp2)
  go_loopg [3, 4] k (fun kq v3 v4 w' => ∃ (x3_1 : Int) (x4_1 : Int), v3 = .int .i64 x3_1 ∧ v4 = .int .i64 x4_1 ∧ Aside0 (lecternlaw0_DocWeight.l0 kq l0 x3_1 x4_1 = some r) ∧ Aside0 (kq ≤ k) ∧ Drawn0 w w')
  case atStart => exact ⟨((l0.length : Int)), (0), (by first | rfl | (simp; done) | (simp [*]; done)), (by first | rfl | (simp; done) | (simp [*]; done)), H', ⟨Nat.le_refl _⟩, by repeat (first | exact Drawn0.refl _ | apply Drawn0.step)⟩
  case round =>
    clear H'
    obtain ⟨x3_1, x4_1, rfl, rfl, HA, HK1, ⟨m1, rfl⟩⟩ := hrel
    cases gk with
    | zero => exact absurd HA.out (by simp [lecternlaw0_DocWeight.l0])
    | succ k1 =>
      have H := HA.out
      clear HA
      simp only [lecternlaw0_DocWeight.l0] at H
      by_cases c2 : x4_1 < (l0.length : Int)
      · rw [if_pos c2] at H
        have c2b0 : decide (x4_1 < (l0.length : Int)) = true := decide_eq_true c2
        clear c2
        by_cases c3 : x3_1 < 1048576
        · rw [if_pos c3] at H
          have c3b0 : decide (x3_1 < 1048576) = true := decide_eq_true c3
          clear c3
          by_cases c4 : 0 ≤ x4_1
          · rw [if_pos c4] at H
            have c4b0 : decide (0 ≤ x4_1) = true := decide_eq_true c4
            clear c4
            have H' := Aside0.mk H
            clear H
            have p101 : 0 ≤ (x4_1 : Int) := of_decide_eq_true (by first | (with_reducible assumption) | assumption)
            have q101 : x4_1 < (l0.length : Int) := of_decide_eq_true (by first | (with_reducible assumption) | assumption)
            obtain ⟨ad101, e101, hx101_0, hx101_1⟩ := at_T36 HR0.out x4_1 p101 q101
            cases e101
            replace p101 := eq_true p101
            replace q101 := eq_true q101
            have p102 : 0 ≤ (x4_1 : Int) := of_decide_eq_true (by first | (with_reducible assumption) | assumption)
            have q102 : x4_1 < (l0.length : Int) := of_decide_eq_true (by first | (with_reducible assumption) | assumption)
            obtain ⟨ad102, e102, hx102_0, hx102_1⟩ := at_T36 HR0.out x4_1 p102 q102
            obtain rfl : ad101 = ad102 := (by injection e102)
            replace p102 := eq_true p102
            replace q102 := eq_true q102
            go_wp2
            repeat (go_quiet (fail); try go_wp2)
            go_roundg k1
            case measure => have := HK1.out; omega
            case rel => exact ⟨(wrap64 ((wrap64 (x3_1 + (((rd_T36 l0 x4_1).f0).size : Int))) + (((rd_T36 l0 x4_1).f1).size : Int))), (wrap64 (x4_1 + 1)), (by first | rfl | (simp; done) | (simp [*]; done)), (by first | rfl | (simp; done) | (simp [*]; done)), H', ⟨by have := HK1.out; omega⟩, by repeat (first | exact Drawn0.refl _ | apply Drawn0.step)⟩
          · rw [if_neg c4] at H
            exact absurd H (by simp)
        · rw [if_neg c3] at H
          have c3b0 : decide (x3_1 < 1048576) = false := decide_eq_false c3
          clear c3
          obtain rfl := Option.some.inj H
          go_wp2
          repeat (go_quiet (fail); try go_wp2)
          go_ret
          exact ⟨by first | rfl | (simp; done) | (simp [*]; done), by repeat (first | exact Drawn0.refl _ | apply Drawn0.step)⟩
      · rw [if_neg c2] at H
        have c2b0 : decide (x4_1 < (l0.length : Int)) = false := decide_eq_false c2
        clear c2
        obtain rfl := Option.some.inj H
        go_wp2
        repeat (go_quiet (fail); try go_wp2)
        go_ret
        exact ⟨by first | rfl | (simp; done) | (simp [*]; done), by repeat (first | exact Drawn0.refl _ | apply Drawn0.step)⟩

end Go.Proofs.YtpeldaogdeefeaaGreat.M
/-! Mx47 -/
namespace Go.Proofs.YtpeldaogdeefeaaGreat.M
open Go.RowKit Go.Proofs.YtpeldaogdeefeaaGreatW.PrintWords Go.Proofs.YtpeldaogdeefeaaGreatW.PrintLast Go.Proofs.YtpeldaogdeefeaaGreatW.PrintMore
attribute [local go_sem] max2_int min2_int max_two min_two max_three min_three max_four min_four   -- for this text's walks alone
set_option linter.unusedVariables false
set_option linter.unusedSimpArgs false

/-! ### lecternref8_Size: function 62 -/
def lecternref8_Size.l0 : Nat → List (S36) → Int → Int → Option (Int)
  | 0, _, _, _ => none
  | k + 1, x0, x3, x4 => if x4 < (x0.length : Int) then (if 0 ≤ x4 then (lecternref8_Size.l0 k x0 (wrap64 (x3 + (((rd_T36 x0 x4).f1).size : Int))) (wrap64 (x4 + 1))) else (none)) else (some x3)
def lecternref8_Size.f (k : Nat) (l0 : List (S36)) : Option (Int) := lecternref8_Size.l0 k l0 0 0
theorem lecternref8_Size.mono_l : ∀ k, (∀ y0 y1 y2, LeO (lecternref8_Size.l0 k y0 y1 y2) (lecternref8_Size.l0 (k + 1) y0 y1 y2))
  | 0 => fun _ _ _ r h => by simp [lecternref8_Size.l0] at h
  | k + 1 => by
    have ih0 := lecternref8_Size.mono_l k
    · intro y0 y1 y2
      unfold lecternref8_Size.l0
      repeat' first
      | (with_reducible exact ih0 _ _ _)
      | (with_reducible exact LeO.refl _)
      | (with_reducible exact LeO.none _)
      | (with_reducible refine LeO.ite ?_ ?_)
      | (with_reducible refine LeO.bind ?_ (fun _ => ?_))
      | exact ih0 _ _ _
      | exact LeO.none _
      | refine LeO.ite ?_ ?_
      | refine LeO.bind ?_ (fun _ => ?_)
theorem lecternref8_Size.mono : ∀ a0 k, LeO (lecternref8_Size.f k a0) (lecternref8_Size.f (k + 1) a0) := by
  intro a0 k
  have ih0 := lecternref8_Size.mono_l k
  unfold lecternref8_Size.f
  repeat' first
      | (with_reducible exact ih0 _ _ _)
      | (with_reducible exact LeO.refl _)
      | (with_reducible exact LeO.none _)
      | (with_reducible refine LeO.ite ?_ ?_)
      | (with_reducible refine LeO.bind ?_ (fun _ => ?_))
      | exact ih0 _ _ _
      | exact LeO.none _
      | refine LeO.ite ?_ ?_
      | refine LeO.bind ?_ (fun _ => ?_)
set_option maxHeartbeats 8000000 in
set_option maxRecDepth 100000 in
theorem lecternref8_Size.calls (k : Nat) (A0 : Option Addr) (c0 : Nat) (l0 : List (S36)) (r : Int) (w : World) (hr0 : Kd.C k36 w A0 l0.length l0) (hc0 : l0.length ≤ c0) (h : lecternref8_Size.f k l0 = some r) :
    Calls Tryz.prog 62 #[.slice A0 l0.length c0] w fun e w' => e = .returned (.int .i64 r) ∧ Drawn0 w w' := by
  have HR0 := Aside0.mk hr0
  have HC0 := Aside0.mk hc0
  clear hr0 hc0
  have H : (lecternref8_Size.l0 k l0 0 0) = some r := h
  clear h
  have H' := Aside0.mk H
  clear H
  go_enter Tryz.func62, Tryz.ntmps62
  go_wp2
  go_loopg [3, 4] k (fun kq v3 v4 w' => ∃ (x3_1 : Int) (x4_1 : Int), v3 = .int .i64 x3_1 ∧ v4 = .int .i64 x4_1 ∧ Aside0 (lecternref8_Size.l0 kq l0 x3_1 x4_1 = some r) ∧ Aside0 (kq ≤ k) ∧ Drawn0 w w')
  case atStart => exact ⟨(0), (0), (by first | rfl | (simp; done) | (simp [*]; done)), (by first | rfl | (simp; done) | (simp [*]; done)), H', ⟨Nat.le_refl _⟩, by repeat (first | exact Drawn0.refl _ | apply Drawn0.step)⟩
  case round =>
    clear H'
    obtain ⟨x3_1, x4_1, rfl, rfl, HA, HK1, ⟨m1, rfl⟩⟩ := hrel
    cases gk with
    | zero => exact absurd HA.out (by simp [lecternref8_Size.l0])
    | succ k1 =>
      have H := HA.out
      clear HA
      simp only [lecternref8_Size.l0] at H
      by_cases c2 : x4_1 < (l0.length : Int)
      · rw [if_pos c2] at H
        have c2b0 : decide (x4_1 < (l0.length : Int)) = true := decide_eq_true c2
        clear c2
        by_cases c3 : 0 ≤ x4_1
        · rw [if_pos c3] at H
          have c3b0 : decide (0 ≤ x4_1) = true := decide_eq_true c3
          clear c3
          have H' := Aside0.mk H
          clear H
          have p109 : 0 ≤ (x4_1 : Int) := of_decide_eq_true (by first | (with_reducible assumption) | assumption)
          have q109 : x4_1 < (l0.length : Int) := of_decide_eq_true (by first | (with_reducible assumption) | assumption)
          obtain ⟨ad109, e109, hx109_0, hx109_1⟩ := at_T36 HR0.out x4_1 p109 q109
          cases e109
          replace p109 := eq_true p109
          replace q109 := eq_true q109
          go_wp2
          go_roundg k1
          case measure => have := HK1.out; omega
          case rel => exact ⟨(wrap64 (x3_1 + (((rd_T36 l0 x4_1).f1).size : Int))), (wrap64 (x4_1 + 1)), (by first | rfl | (simp; done) | (simp [*]; done)), (by first | rfl | (simp; done) | (simp [*]; done)), H', ⟨by have := HK1.out; omega⟩, by repeat (first | exact Drawn0.refl _ | apply Drawn0.step)⟩
        · rw [if_neg c3] at H
          exact absurd H (by simp)
      · rw [if_neg c2] at H
        have c2b0 : decide (x4_1 < (l0.length : Int)) = false := decide_eq_false c2
        clear c2
        obtain rfl := Option.some.inj H
        go_wp2
        go_ret
        exact ⟨by first | rfl | (simp; done) | (simp [*]; done), by repeat (first | exact Drawn0.refl _ | apply Drawn0.step)⟩

end Go.Proofs.YtpeldaogdeefeaaGreat.M
