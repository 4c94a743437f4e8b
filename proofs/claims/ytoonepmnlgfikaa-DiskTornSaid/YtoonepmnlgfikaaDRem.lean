/- Disk: Remove, Rename. -/
import Derived.Test.YtoonepmnlgfikaaDiskWalk5
import Derived.Maps.OwnSet
namespace Go.Proofs.Ytoonepmnlgfikaa.D
open Go.RowKit Go.Proofs.YtoonepmnlgfikaaW.PrintWords Go.Proofs.YtoonepmnlgfikaaW.PrintLast Go.Proofs.YtoonepmnlgfikaaW.PrintMore Go.Proofs.Ytoonepmnlgfikaa.Base Go.Maps
set_option linter.unusedVariables false
set_option linter.unusedSimpArgs false
/-- What a call leaves of a disk: its power's count, its map, and what else lay there. -/
structure DiskStep (w : World) (g b : Nat) (n : Int) (cnt : Nat) (D : DataW Unit) (w' : World) : Prop where
  pow : PowAt w' g b n
  files : Files w' b cnt D
  kept : ∀ i, i < w.heap.size → i ≠ g → i ≠ b → w'.heap[i]? = w.heap[i]?
  size : w.heap.size ≤ w'.heap.size
  below : ∀ B, B ≤ g → B ≤ b → B ≤ w.heap.size → Below B w w'
theorem DiskStep.of_grown {w w' : World} {g b cnt : Nat} {n : Int} {D : DataW Unit} (hg : PowAt w' g b n) (hm : Files w' b cnt D) (hgr : w.grownBy w' (some g)) : DiskStep w g b n cnt D w' :=
  ⟨hg, hm, fun i hi hig _ => hgr.block i hi (by simpa using hig), hgr.size, fun B hBg _ hBs => pw_below_grown (Below.refl _ _) _ hBs hgr (fun k hk => by cases hk; exact hBg)⟩
/-- One more change of the map's block alone. -/
theorem DiskStep.map {w w1 w2 : World} {g b cnt cnt' : Nat} {n : Int} {D D' : DataW Unit} (h : DiskStep w g b n cnt D w1) (hgb : b ≠ g) (hm : Files w2 b cnt' D') (hgr : w1.grownBy w2 (some b)) : DiskStep w g b n cnt' D' w2 :=
  ⟨(hgr.block g (blk_lt h.pow) (by simpa using Ne.symm hgb)).trans h.pow, hm, fun i hi hig hib => (hgr.block i (by have := h.size; omega) (by simpa using hib)).trans (h.kept i hi hig hib), Nat.le_trans h.size hgr.size,
    fun B hBg hBb hBs => pw_below_grown (h.below B hBg hBb hBs) _ (Nat.le_trans hBs h.size) hgr (fun k hk => by cases hk; exact hBb)⟩
theorem turned_grown {w w' : World} {b : Nat} (h : w.mapTurned w' b) : w.grownBy w' (some b) := by
  obtain ⟨es, clock, es', clock', hb, rfl⟩ := h
  refine ⟨rfl, rfl, rfl, by simp [Go.ChangeMaps.setBlock], fun i hi hne => ?_⟩
  have hbi : b ≠ i := fun e => hne (by rw [e])
  simp [Go.ChangeMaps.setBlock, Array.getElem?_setIfInBounds, hbi]

set_option maxRecDepth 100000 in
set_option maxHeartbeats 1600000 in
theorem remove_none (g b cnt : Nat) (n : Int) (h0 : 0 ≤ n) (h1 : n ≤ 1000000) (D : DataW Unit) (name : ByteArray) (hs : name.size ≤ maxLen) (w : World) (h : nameB name = true) (hg : PowAt w g b n) (hm : Files w b cnt D) (hgb : b ≠ g) (hp : D.atKey (.string name.data.toList) (pe none) = pe none) :
    Calls Try.prog 18 #[.pointer (some ⟨g, 0, none⟩), .string name] w fun e w' => e = .returned (.int .i64 3) ∧ DiskStep w g b (n + 1) cnt D w' := by
  go_enter Try.func18, Try.ntmps18
  go_wp2_with fail
  refine (call_yes g b cnt n h0 h1 D name hs true w h hg hm hgb none hp).mono ?_
  rintro e w2 ⟨rfl, hg2, hgr, hm2⟩
  rw [if_pos ⟨rfl, rfl⟩]
  go_wp2_with fail
  go_ret
  exact ⟨rfl, DiskStep.of_grown hg2 hm2 hgr⟩
set_option maxRecDepth 100000 in
set_option maxHeartbeats 1600000 in
theorem remove_hit (g b cnt f : Nat) (n : Int) (h0 : 0 ≤ n) (h1 : n ≤ 1000000) (D : DataW Unit) (name : ByteArray) (hs : name.size ≤ maxLen) (w : World) (h : nameB name = true) (hg : PowAt w g b n) (hm : Files w b cnt D) (hgb : b ≠ g) (hp : D.atKey (.string name.data.toList) (pe none) = pe (some f)) :
    Calls Try.prog 18 #[.pointer (some ⟨g, 0, none⟩), .string name] w fun e w' => e = .returned (.int .i64 0) ∧ DiskStep w g b (n + 1) cnt (D.del (.string name.data.toList)) w' := by
  have hu119 := Try.underlying59
  go_enter Try.func18, Try.ntmps18
  go_wp2_with fail
  refine (call_yes g b cnt n h0 h1 D name hs true w h hg hm hgb (some f) hp).mono ?_
  rintro e w2 ⟨rfl, hg2, hgr, hm2⟩
  rw [if_neg (by simp)]
  simp only [pv]
  have k3 : w2.cell? ⟨g, 3, none⟩ = some (.map (some b)) := (blk_cell hg2 3).trans rfl
  obtain ⟨w3, hrun, hm3, ht⟩ := World.ownsMap.drop hm2 K9 Try.underlying57 (WideMaps.keyOf_string_mk Try.underlying9 hs) 0
  have HST := Aside0.mk ((DiskStep.of_grown hg2 hm2 hgr).map hgb hm3 (turned_grown ht))
  clear hm3 ht hg2 hm2 hgr
  go_wp2_with fail
  go_ret
  exact ⟨rfl, HST.out⟩
set_option maxRecDepth 100000 in
set_option maxHeartbeats 1600000 in
theorem rename_none (g b cnt : Nat) (n : Int) (h0 : 0 ≤ n) (h1 : n ≤ 1000000) (D : DataW Unit) (name to_ : ByteArray) (hs : name.size ≤ maxLen) (hs2 : to_.size ≤ maxLen) (w : World) (h : nameB name = true) (ht : nameB to_ = true) (hg : PowAt w g b n) (hm : Files w b cnt D) (hgb : b ≠ g) (hp : D.atKey (.string name.data.toList) (pe none) = pe none) :
    Calls Try.prog 16 #[.pointer (some ⟨g, 0, none⟩), .string name, .string to_] w fun e w' => e = .returned (.int .i64 3) ∧ DiskStep w g b (n + 1) cnt D w' := by
  have HG : Aside0 (disk_good.f (3 * to_.size + 1) to_ = some true) := ⟨by rw [good_is to_ (by unfold maxLen at hs2; omega) _ (Nat.le_refl _), ht]⟩
  go_enter Try.func16, Try.ntmps16
  go_wp2_with fail
  refine (disk_good.calls _ _ _ _ HG.out).mono ?_
  rintro e w1 ⟨rfl, ⟨n1, rfl⟩⟩
  go_wp2_with fail
  refine (call_yes g b cnt n h0 h1 D name hs true _ h (by exact hg) (by exact hm) hgb none hp).mono ?_
  rintro e w2 ⟨rfl, hg2, hgr, hm2⟩
  rw [if_pos ⟨rfl, rfl⟩]
  have hgr : w.grownBy w2 (some g) := ⟨hgr.os, hgr.tape, hgr.output, hgr.size, hgr.block⟩
  go_wp2_with fail
  go_ret
  exact ⟨rfl, DiskStep.of_grown hg2 hm2 hgr⟩
set_option maxRecDepth 100000 in
set_option maxHeartbeats 1600000 in
theorem rename_hit (g b cnt f : Nat) (hcnt : cnt < 1000000) (n : Int) (h0 : 0 ≤ n) (h1 : n ≤ 1000000) (D : DataW Unit) (name to_ : ByteArray) (hs : name.size ≤ maxLen) (hs2 : to_.size ≤ maxLen) (w : World) (h : nameB name = true) (ht : nameB to_ = true) (hg : PowAt w g b n) (hm : Files w b cnt D) (hgb : b ≠ g) (hp : D.atKey (.string name.data.toList) (pe none) = pe (some f)) :
    Calls Try.prog 16 #[.pointer (some ⟨g, 0, none⟩), .string name, .string to_] w fun e w' => e = .returned (.int .i64 0) ∧ DiskStep w g b (n + 1) (cnt + 1) ((D.del (.string name.data.toList)).put (.string to_.data.toList) (pe (some f))) w' := by
  have HG : Aside0 (disk_good.f (3 * to_.size + 1) to_ = some true) := ⟨by rw [good_is to_ (by unfold maxLen at hs2; omega) _ (Nat.le_refl _), ht]⟩
  have hu119 := Try.underlying59
  go_enter Try.func16, Try.ntmps16
  go_wp2_with fail
  refine (disk_good.calls _ _ _ _ HG.out).mono ?_
  rintro e w1 ⟨rfl, ⟨n1, rfl⟩⟩
  go_wp2_with fail
  refine (call_yes g b cnt n h0 h1 D name hs true _ h (by exact hg) (by exact hm) hgb (some f) hp).mono ?_
  rintro e w2 ⟨rfl, hg2, hgr, hm2⟩
  rw [if_neg (by simp)]
  simp only [pv]
  have hgr : w.grownBy w2 (some g) := ⟨hgr.os, hgr.tape, hgr.output, hgr.size, hgr.block⟩
  have k3 : w2.cell? ⟨g, 3, none⟩ = some (.map (some b)) := (blk_cell hg2 3).trans rfl
  obtain ⟨w3, hrun, hm3, htn⟩ := World.ownsMap.drop hm2 K9 Try.underlying57 (WideMaps.keyOf_string_mk Try.underlying9 hs) 0
  have HST := (DiskStep.of_grown hg2 hm2 hgr).map hgb hm3 (turned_grown htn)
  have k33 : w3.cell? ⟨g, 3, none⟩ = some (.map (some b)) := (blk_cell HST.pow 3).trans rfl
  obtain ⟨w4, hrun4, hm4, hgr4⟩ := World.ownsMap.update hm3 K9 Try.underlying57 (by unfold maxLen; omega) (WideMaps.keyOf_string_mk Try.underlying9 hs2) (ptrE_pv (some f))
  simp only [pv] at hrun4
  have HST4 := Aside0.mk (HST.map hgb hm4 hgr4)
  clear hm3 htn hg2 hm2 hgr hm4 hgr4 HST
  go_wp2_with fail
  go_ret
  exact ⟨rfl, HST4.out⟩
end Go.Proofs.Ytoonepmnlgfikaa.D
