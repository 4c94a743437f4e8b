/- The shelf in memory: its two maps, put, New, Add, Docs (no segment). -/
import Derived.Test.YtpeldaogdeefeaaGreatHList
import Derived.Test.YtpeldaogdeefeaaGreatBase
import Derived.Test.YtpeldaogdeefeaaGreatMx4
import Derived.Test.YtpeldaogdeefeaaGreatMx5
import Derived.Maps.Own
import Derived.Maps.OwnOps
import Derived.Outline
import Derived.WalkLawsBesides
import Derived.KernelRfl
import Derived.BigRegion
import Derived.BigQuiet
import Derived.StringKeys
import Derived.ChangeAlike
namespace Go.Proofs.YtpeldaogdeefeaaGreat.M
open Go.Proofs.YtpeldaogdeefeaaGreat.H Go.RowKit Go.Maps Go.Sort Go.Proofs.YtpeldaogdeefeaaGreatW.PrintWords Go.Proofs.YtpeldaogdeefeaaGreatW.PrintLast Go.Proofs.YtpeldaogdeefeaaGreatW.PrintMore Go.Proofs.YtpeldaogdeefeaaGreat.Base
set_option linter.unusedVariables false
set_option linter.unusedSimpArgs false
noncomputable abbrev strE := plainElem (H := Unit) Tryz.prog 9
noncomputable abbrev booE := plainElem (H := Unit) Tryz.prog 4
theorem K9 : Keyed Tryz.prog 9 := string_keyed Tryz.underlying9
def fS (t : Bs) : DataW Unit := .lit (.string t)
def fB (_ : Unit) : DataW Unit := .lit (.bool true)
abbrev Texts (w : World) (b n : Nat) (D : DataW Unit) : Prop := w.ownsMap Tryz.prog 9 strE b n D
abbrev Fresh (w : World) (b n : Nat) (D : DataW Unit) : Prop := w.ownsMap Tryz.prog 9 booE b n D
/-- But for two blocks all stays. -/
structure Kept2 (w w' : World) (g b : Nat) : Prop where
  size : w.heap.size ≤ w'.heap.size
  kept : ∀ i, i < w.heap.size → i ≠ g → i ≠ b → w'.heap[i]? = w.heap[i]?
  below : ∀ B, B ≤ g → B ≤ b → B ≤ w.heap.size → Below B w w'
theorem Kept2.trans {w w1 w2 : World} {g b : Nat} (h : Kept2 w w1 g b) (k : Kept2 w1 w2 g b) : Kept2 w w2 g b where
  size := Nat.le_trans h.size k.size
  kept := fun i hi hg hb => (k.kept i (by have := h.size; omega) hg hb).trans (h.kept i hi hg hb)
  below := fun B hg hb hs => (h.below B hg hb hs).trans (k.below B hg hb (by have := h.size; omega))
theorem Kept2.alloc (w : World) (o : Obj) (g b : Nat) : Kept2 w (w.alloc o) g b where
  size := by simp
  kept := fun i hi _ _ => Below.heap_alloc w o i hi
  below := fun B _ _ hs => (Below.refl B w).alloc hs o
theorem Kept2.of_below {w w' : World} {g b : Nat} (h : Below w.heap.size w w') : Kept2 w w' g b where
  size := h.size
  kept := fun i hi _ _ => h.block i hi
  below := fun B _ _ hs => h.mono hs
theorem Kept2.drewN (w : World) (n g b : Nat) : Kept2 w (w.drewN n) g b := .of_below (pw_below_drewN (Below.refl _ _) n)
theorem Kept2.drew (w : World) (g b : Nat) : Kept2 w w.drew g b := .of_below (below_drew (Below.refl _ _))
theorem Kept2.grown {w w' : World} {g b : Nat} (h : w.grownBy w' (some b)) : Kept2 w w' g b where
  size := h.size
  kept := fun i hi _ hb => h.block i hi (by simpa using hb)
  below := fun B _ hb hs => pw_below_grown (Below.refl _ _) _ hs h (fun k hk => by cases hk; exact hb)
theorem Kept2.set {w : World} {g b : Nat} (j : Nat) (v : Value) : Kept2 w (w.setCell ⟨g, j, none⟩ v) g b where
  size := by simp [World.setCell]
  kept := fun i hi hg _ => Below.heap_setCell w ⟨g, j, none⟩ v i hg
  below := fun B hg _ hs => (Below.refl B w).setCell hg v
theorem Kept2.map {w w' : World} {g b : Nat} (h : Kept2 w w' g b) {b' n : Nat} {R : Value → Option (DataW Unit × List MemPlace)} {D : DataW Unit} (hm : w.ownsMap Tryz.prog 9 R b' n D) (h1 : b' ≠ g) (h2 : b' ≠ b) : w'.ownsMap Tryz.prog 9 R b' n D := by
  have hl := hm.lt
  obtain ⟨es, clock, hb, Ft, hs, hD⟩ := hm
  exact ⟨es, clock, (h.kept b' hl h1 h2).trans hb, Ft, hs, hD⟩
theorem map_keep {w w' : World} {b' n : Nat} {R : Value → Option (DataW Unit × List MemPlace)} {D : DataW Unit} (hm : w.ownsMap Tryz.prog 9 R b' n D) (h : w'.heap[b']? = w.heap[b']?) : w'.ownsMap Tryz.prog 9 R b' n D := by
  obtain ⟨es, clock, hb, Ft, hs, hD⟩ := hm
  exact ⟨es, clock, h.trans hb, Ft, hs, hD⟩
theorem map_ne {w : World} {b n g : Nat} {R : Value → Option (DataW Unit × List MemPlace)} {D : DataW Unit} {cs : Array Value} {t : TypeId} {z : Nat × Nat} (hm : w.ownsMap Tryz.prog 9 R b n D) (hg : w.heap[g]? = some (.cells cs t z)) : b ≠ g := by
  obtain ⟨es, clock, hb, _⟩ := hm
  rintro rfl
  rw [hg] at hb
  cases hb
theorem look_str {w : World} {b n : Nat} {D : DataW Unit} (h : Texts w b n D) (id : ByteArray) (hs : id.size ≤ maxLen) {tx : ByteArray} (hp : ∀ z, D.atKey (.string id.data.toList) z = fS tx.data.toList) :
    (Instr.lookup 96 (.map (some b)) (.string id) false).run Tryz.prog w = .ok (.string tx) w := by
  obtain ⟨v, ps, hrun, hv⟩ := World.ownsMap.lookup h K9 Tryz.underlying96 (z := .string ⟨#[]⟩) (zd := .lit (.string [])) (zp := []) (Tryz.zeroValue9 w) (plainElem_string (H := Unit) Tryz.underlying9 (s := ⟨#[]⟩) (by decide)) (WideMaps.keyOf_string_mk Tryz.underlying9 hs)
  obtain ⟨s, rfl, hz, _⟩ := plainElem_string_inv Tryz.underlying9 hv
  rw [hp] at hz
  simp only [fS, Prod.mk.injEq, DataW.lit.injEq, Lit.string.injEq] at hz
  have e : s = tx := by
    obtain ⟨⟨s⟩⟩ := s
    obtain ⟨⟨t⟩⟩ := tx
    simp only at hz
    rw [hz.1]
  rw [hrun, e]
set_option maxRecDepth 100000 in
set_option maxHeartbeats 1600000 in
theorem put_calls (g bt nt : Nat) (hnt : nt < 1000000) (D : DataW Unit) (n : Int) (h0 : 0 ≤ n) (h1 : n ≤ 1000000000000) (v2 v3 : Value) (id tx : ByteArray) (hid : id.size ≤ maxLen) (htx : tx.size ≤ 1000000000000) (w : World)
    (hg : w.heap[g]? = some (.cells #[.map (some bt), .int .i64 n, v2, v3] 102 (0, 0))) (hm : Texts w bt nt D) :
    Calls Tryz.prog 64 #[.pointer (some ⟨g, 0, none⟩), .agg #[.string id, .string tx]] w fun e w' => e = .returned (.tuple #[]) ∧ w'.heap[g]? = some (.cells #[.map (some bt), .int .i64 (n + tx.size), v2, v3] 102 (0, 0)) ∧
      Texts w' bt (nt + 1) (D.put (.string id.data.toList) (fS tx.data.toList)) ∧ Kept2 w w' g bt := by
  have hu36 := Tryz.underlying36
  have hu98 := Tryz.underlying98
  have hne := map_ne hm hg
  have hgl := blk_lt hg
  have hm1 : Texts (w.alloc (.cells #[.string id, .string tx] 36)).drew bt nt D := (World.ownsMap.alloc hm _).drew
  obtain ⟨w3, hrun3, hm3, hgr3⟩ := World.ownsMap.update hm1 K9 Tryz.underlying96 (by unfold maxLen; omega) (WideMaps.keyOf_string_mk Tryz.underlying9 hid) (plainElem_string (H := Unit) Tryz.underlying9 (s := tx) (by unfold maxLen; omega))
  have hg1 : (w.alloc (.cells #[.string id, .string tx] 36)).heap[g]? = some (.cells #[.map (some bt), .int .i64 n, v2, v3] 102 (0, 0)) := blk_alloc hg _
  have hb1 := heap_alloc_new w (.cells #[.string id, .string tx] 36)
  have hgs : (w.alloc (.cells #[.string id, .string tx] 36)).heap.size = w.heap.size + 1 := by simp
  have hlt := hm.lt
  have hg3 : w3.heap[g]? = some (.cells #[.map (some bt), .int .i64 n, v2, v3] 102 (0, 0)) := (hgr3.block g (by show g < (w.alloc (.cells #[.string id, .string tx] 36)).heap.size; omega) (by simpa using Ne.symm hne)).trans hg1
  have hb3 : w3.heap[w.heap.size]? = some (.cells #[.string id, .string tx] 36 (0, 0)) := (hgr3.block _ (by show _ < (w.alloc (.cells #[.string id, .string tx] 36)).heap.size; omega) (by simp; omega)).trans hb1
  have HK : Aside0 (Kept2 w w3 g bt) := ⟨((Kept2.alloc w _ g bt).trans (Kept2.drew _ g bt)).trans (Kept2.grown hgr3)⟩
  have HNE := Aside0.mk hne
  have HM3 := Aside0.mk hm3
  have HG3 := Aside0.mk hg3
  have a0 : (w.alloc (.cells #[.string id, .string tx] 36)).cell? ⟨g, 0, none⟩ = some (.map (some bt)) := (blk_cell hg1 0).trans rfl
  have a1 : (w.alloc (.cells #[.string id, .string tx] 36)).cell? ⟨w.heap.size, 0, none⟩ = some (.string id) := (blk_cell hb1 0).trans rfl
  have a2 : (w.alloc (.cells #[.string id, .string tx] 36)).cell? ⟨w.heap.size, 1, none⟩ = some (.string tx) := (blk_cell hb1 1).trans rfl
  have b1 : w3.cell? ⟨g, 1, none⟩ = some (.int .i64 n) := (blk_cell hg3 1).trans rfl
  have b2 : w3.cell? ⟨w.heap.size, 1, none⟩ = some (.string tx) := (blk_cell hb3 1).trans rfl
  have f1 := blk_frozen hg3 1
  have hw : wrap64 (n + (tx.size : Int)) = n + (tx.size : Int) := by unfold wrap64; omega
  have hw2 : IntKind.i64.wrap (n + (tx.size : Int)) = n + (tx.size : Int) := by rw [i64_w]; exact hw
  clear hm hg hm1 hg1 hb1 hm3 hgr3 hg3 hb3 hgs hne
  go_enter Tryz.func64, Tryz.ntmps64
  go_upto_region 1 with (fail)
  go_region
  go_upto_region 2 with (fail)
  clear hrun3 a0 a1 a2
  go_region
  go_end0
  exact ⟨rfl, blk_put HG3.out 1 _ rfl, map_keep HM3.out (Below.heap_setCell w3 ⟨g, 1, none⟩ _ bt HNE.out), HK.out.trans ((Kept2.set 1 _).trans (Kept2.drew _ _ _))⟩
end Go.Proofs.YtpeldaogdeefeaaGreat.M
