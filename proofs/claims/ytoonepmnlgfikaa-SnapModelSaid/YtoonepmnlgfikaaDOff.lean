/- Disk: the power off. -/
import Derived.Test.YtoonepmnlgfikaaDM
namespace Go.Proofs.Ytoonepmnlgfikaa.D
open Go.RowKit Go.Proofs.YtoonepmnlgfikaaW.PrintWords Go.Proofs.YtoonepmnlgfikaaW.PrintLast Go.Proofs.YtoonepmnlgfikaaW.PrintMore Go.Proofs.Ytoonepmnlgfikaa.Base Go.Maps Go.Sort Go.Shelf
set_option linter.unusedVariables false
set_option linter.unusedSimpArgs false
/-- The power is off. -/
def OffAt (w : World) (g b : Nat) (n : Int) : Prop := w.heap[g]? = some (.cells #[.int .i64 n, .bool true, .int .i64 0, .map (some b)] 59 (0, 0))
set_option maxRecDepth 100000 in
set_option maxHeartbeats 1600000 in
theorem off_calls (g b : Nat) (n : Int) (w : World) (hg : PowAt w g b n) :
    Calls Try.prog 25 #[.pointer (some ⟨g, 0, none⟩), .int .i64 0] w fun e w' => e = .returned (.tuple #[]) ∧ OffAt w' g b n ∧ w.grownBy w' (some g) := by
  have c1 : w.cell? ⟨g, 1, none⟩ = some (.bool false) := (blk_cell hg 1).trans rfl
  have f1 := blk_frozen hg 1
  have hu117 := Try.underlying56
  have hd : decide ((0 : Int) < 1) = true := rfl
  have HS : Aside0 (OffAt (w.setCell ⟨g, 1, none⟩ (.bool true)) g b n) := ⟨blk_set hg 1 _⟩
  have HG : Aside0 (w.grownBy (w.setCell ⟨g, 1, none⟩ (.bool true)) (some g)) := ⟨grown_set w ⟨g, 1, none⟩ _⟩
  clear hg
  go_enter Try.func25, Try.ntmps25
  go_wp2_with fail
  refine bodyPost_ret (results_none rfl _ _ _) rfl ?_
  exact ⟨rfl, HS.out, HG.out⟩
set_option maxRecDepth 100000 in
set_option maxHeartbeats 1600000 in
theorem spend_off (g b : Nat) (n : Int) (h0 : 0 ≤ n) (h1 : n ≤ 1000000) (w : World) (hg : OffAt w g b n) :
    Calls Try.prog 57 #[.pointer (some ⟨g, 0, none⟩)] w fun e w' => e = .returned (.tuple #[]) ∧ OffAt w' g b (n + 1) ∧ w.grownBy w' (some g) := by
  have c0 : w.cell? ⟨g, 0, none⟩ = some (.int .i64 n) := (blk_cell hg 0).trans rfl
  have c1 : w.cell? ⟨g, 1, none⟩ = some (.bool true) := (blk_cell hg 1).trans rfl
  have c2 : w.cell? ⟨g, 2, none⟩ = some (.int .i64 0) := (blk_cell hg 2).trans rfl
  have f0 := blk_frozen hg 0
  have f1 := blk_frozen hg 1
  have hu117 := Try.underlying56
  have hw1 : wrap64 (n + 1) = n + 1 := wrap64_in _ (by omega) (by omega)
  go_enter Try.func57, Try.ntmps57
  go_wp2_with fail
  have hg1 : (w.setCell ⟨g, 0, none⟩ (.int .i64 (n + 1))).heap[g]? = some (.cells #[.int .i64 (n + 1), .bool true, .int .i64 0, .map (some b)] 59 (0, 0)) := blk_set hg 0 _
  have hgr : w.grownBy (w.setCell ⟨g, 0, none⟩ (.int .i64 (n + 1))) (some g) := grown_set w ⟨g, 0, none⟩ _
  clear c0 c1 c2 f0 f1 hg hw1
  generalize w.setCell ⟨g, 0, none⟩ (.int .i64 (n + 1)) = w1 at *
  have c0 : w1.cell? ⟨g, 0, none⟩ = some (.int .i64 (n + 1)) := (blk_cell hg1 0).trans rfl
  have c1 : w1.cell? ⟨g, 1, none⟩ = some (.bool true) := (blk_cell hg1 1).trans rfl
  have c2 : w1.cell? ⟨g, 2, none⟩ = some (.int .i64 0) := (blk_cell hg1 2).trans rfl
  have f1 := blk_frozen hg1 1
  have hd : decide ((0 : Int) < 0) = false := rfl
  go_region
  have hg2 : w1.drew.heap[g]? = some (.cells #[.int .i64 (n + 1), .bool true, .int .i64 0, .map (some b)] 59 (0, 0)) := hg1
  go_end0
  refine ⟨rfl, ?_, ?_⟩
  · exact blk_set hg2 1 _
  · exact (hgr.trans (grown_set w1 ⟨g, 1, none⟩ _)).trans (grown_drew _ _)
set_option maxRecDepth 100000 in
set_option maxHeartbeats 3200000 in
theorem call_off (g b cnt : Nat) (n : Int) (h0 : 0 ≤ n) (h1 : n ≤ 1000000) (D : DataW Unit) (name : ByteArray) (hs : name.size ≤ maxLen) (there : Bool) (w : World) (h : nameB name = true) (hg : OffAt w g b n) (hm : Files w b cnt D) (hgb : b ≠ g)
    (p : Option Nat) (hp : D.atKey (.string name.data.toList) (pe none) = pe p) :
    Calls Try.prog 39 #[.pointer (some ⟨g, 0, none⟩), .bool true, .string name, .bool there] w fun e w' =>
      e = .returned (.tuple #[.pointer none, .int .i64 7]) ∧ OffAt w' g b (n + 1) ∧ w.grownBy w' (some g) ∧ Files w' b cnt D := by
  have HG : Aside0 (disk_good.f (3 * name.size + 1) name = some true) := ⟨by rw [good_is name (by unfold maxLen at hs; omega) _ (Nat.le_refl _), h]⟩
  have hu119 := Try.underlying59
  have hu117 := Try.underlying56
  go_enter Try.func39, Try.ntmps39
  go_wp2_with fail
  refine (disk_good.calls _ _ _ _ HG.out).mono ?_
  rintro e w' ⟨rfl, ⟨n1, rfl⟩⟩
  go_wp2_with fail
  refine (spend_off g b n h0 h1 _ (by exact hg)).mono ?_
  rintro e w2 ⟨rfl, hg2, hgr2⟩
  have hgr : w.grownBy w2 (some g) := ⟨hgr2.os, hgr2.tape, hgr2.output, hgr2.size, hgr2.block⟩
  have hm2 : Files w2 b cnt D := World.ownsMap.kept hm hgr (by simpa using hgb)
  have hl := look hm2 name hs hp
  have c1 : w2.cell? ⟨g, 1, none⟩ = some (.bool true) := (blk_cell hg2 1).trans rfl
  have c3 : w2.cell? ⟨g, 3, none⟩ = some (.map (some b)) := (blk_cell hg2 3).trans rfl
  have HG2 := Aside0.mk hg2
  have HGR := Aside0.mk hgr
  have HM2 := Aside0.mk hm2
  clear hg2 hgr hm2 hgr2
  rcases p with _ | f
  all_goals simp only [pv] at hl
  all_goals go_wp2_with fail
  all_goals go_ret2
  all_goals exact ⟨rfl, HG2.out, HGR.out, HM2.out⟩
/-- The disk behind a call, off. -/
structure OffStep (w : World) (g b : Nat) (n : Int) (cnt : Nat) (D : DataW Unit) (w' : World) : Prop where
  off : OffAt w' g b n
  files : Files w' b cnt D
  grown : w.grownBy w' (some g)
set_option maxRecDepth 100000 in
set_option maxHeartbeats 1600000 in
theorem sync_off (g b cnt : Nat) (n : Int) (h0 : 0 ≤ n) (h1 : n ≤ 1000000) (D : DataW Unit) (name : ByteArray) (hs : name.size ≤ maxLen) (w : World) (h : nameB name = true) (hg : OffAt w g b n) (hm : Files w b cnt D) (hgb : b ≠ g) (p : Option Nat) (hp : D.atKey (.string name.data.toList) (pe none) = pe p) :
    Calls Try.prog 12 #[.pointer (some ⟨g, 0, none⟩), .string name] w fun e w' => e = .returned (.int .i64 7) ∧ OffStep w g b (n + 1) cnt D w' := by
  go_enter Try.func12, Try.ntmps12
  go_wp2_with fail
  refine (call_off g b cnt n h0 h1 D name hs true w h hg hm hgb p hp).mono ?_
  rintro e w2 ⟨rfl, hg2, hgr, hm2⟩
  go_wp2_with fail
  go_ret
  exact ⟨rfl, ⟨hg2, hm2, hgr⟩⟩
set_option maxRecDepth 100000 in
set_option maxHeartbeats 1600000 in
theorem append_off (g b cnt : Nat) (n : Int) (h0 : 0 ≤ n) (h1 : n ≤ 1000000) (D : DataW Unit) (name : ByteArray) (hs : name.size ≤ maxLen) (A : Option Addr) (l c : Nat) (w : World) (h : nameB name = true) (hg : OffAt w g b n) (hm : Files w b cnt D) (hgb : b ≠ g) (p : Option Nat) (hp : D.atKey (.string name.data.toList) (pe none) = pe p) :
    Calls Try.prog 11 #[.pointer (some ⟨g, 0, none⟩), .string name, .slice A l c] w fun e w' => e = .returned (.int .i64 7) ∧ OffStep w g b (n + 1) cnt D w' := by
  go_enter Try.func11, Try.ntmps11
  go_wp2_with fail
  refine (call_off g b cnt n h0 h1 D name hs false w h hg hm hgb p hp).mono ?_
  rintro e w2 ⟨rfl, hg2, hgr, hm2⟩
  go_wp2_with fail
  go_ret
  exact ⟨rfl, ⟨hg2, hm2, hgr⟩⟩
set_option maxRecDepth 100000 in
set_option maxHeartbeats 1600000 in
theorem cut_off (g b cnt : Nat) (n : Int) (h0 : 0 ≤ n) (h1 : n ≤ 1000000) (D : DataW Unit) (name : ByteArray) (hs : name.size ≤ maxLen) (w : World) (h : nameB name = true) (hg : OffAt w g b n) (hm : Files w b cnt D) (hgb : b ≠ g) (p : Option Nat) (hp : D.atKey (.string name.data.toList) (pe none) = pe p) :
    Calls Try.prog 22 #[.pointer (some ⟨g, 0, none⟩), .string name, .int .i64 0] w fun e w' => e = .returned (.int .i64 7) ∧ OffStep w g b (n + 1) cnt D w' := by
  go_enter Try.func22, Try.ntmps22
  go_wp2_with fail
  refine (call_off g b cnt n h0 h1 D name hs true w h hg hm hgb p hp).mono ?_
  rintro e w2 ⟨rfl, hg2, hgr, hm2⟩
  go_wp2_with fail
  go_ret
  exact ⟨rfl, ⟨hg2, hm2, hgr⟩⟩
set_option maxRecDepth 100000 in
set_option maxHeartbeats 1600000 in
theorem remove_off (g b cnt : Nat) (n : Int) (h0 : 0 ≤ n) (h1 : n ≤ 1000000) (D : DataW Unit) (name : ByteArray) (hs : name.size ≤ maxLen) (w : World) (h : nameB name = true) (hg : OffAt w g b n) (hm : Files w b cnt D) (hgb : b ≠ g) (p : Option Nat) (hp : D.atKey (.string name.data.toList) (pe none) = pe p) :
    Calls Try.prog 18 #[.pointer (some ⟨g, 0, none⟩), .string name] w fun e w' => e = .returned (.int .i64 7) ∧ OffStep w g b (n + 1) cnt D w' := by
  go_enter Try.func18, Try.ntmps18
  go_wp2_with fail
  refine (call_off g b cnt n h0 h1 D name hs true w h hg hm hgb p hp).mono ?_
  rintro e w2 ⟨rfl, hg2, hgr, hm2⟩
  go_wp2_with fail
  go_ret
  exact ⟨rfl, ⟨hg2, hm2, hgr⟩⟩
set_option maxRecDepth 100000 in
set_option maxHeartbeats 1600000 in
theorem rename_off (g b cnt : Nat) (n : Int) (h0 : 0 ≤ n) (h1 : n ≤ 1000000) (D : DataW Unit) (name to_ : ByteArray) (hs : name.size ≤ maxLen) (hs2 : to_.size ≤ maxLen) (w : World) (h : nameB name = true) (ht : nameB to_ = true) (hg : OffAt w g b n) (hm : Files w b cnt D) (hgb : b ≠ g) (p : Option Nat) (hp : D.atKey (.string name.data.toList) (pe none) = pe p) :
    Calls Try.prog 16 #[.pointer (some ⟨g, 0, none⟩), .string name, .string to_] w fun e w' => e = .returned (.int .i64 7) ∧ OffStep w g b (n + 1) cnt D w' := by
  have HG : Aside0 (disk_good.f (3 * to_.size + 1) to_ = some true) := ⟨by rw [good_is to_ (by unfold maxLen at hs2; omega) _ (Nat.le_refl _), ht]⟩
  go_enter Try.func16, Try.ntmps16
  go_wp2_with fail
  refine (disk_good.calls _ _ _ _ HG.out).mono ?_
  rintro e w1 ⟨rfl, ⟨n1, rfl⟩⟩
  go_wp2_with fail
  refine (call_off g b cnt n h0 h1 D name hs true _ h (by exact hg) (by exact hm) hgb p hp).mono ?_
  rintro e w2 ⟨rfl, hg2, hgr, hm2⟩
  have hgr : w.grownBy w2 (some g) := ⟨hgr.os, hgr.tape, hgr.output, hgr.size, hgr.block⟩
  go_wp2_with fail
  go_ret
  exact ⟨rfl, ⟨hg2, hm2, hgr⟩⟩
set_option maxRecDepth 100000 in
set_option maxHeartbeats 1600000 in
theorem read_off (g b cnt : Nat) (n : Int) (D : DataW Unit) (name : ByteArray) (hs : name.size ≤ maxLen) (w : World) (h : nameB name = true) (hg : OffAt w g b n) (hm : Files w b cnt D) (p : Option Nat) (hp : D.atKey (.string name.data.toList) (pe none) = pe p) :
    Calls Try.prog 20 #[.pointer (some ⟨g, 0, none⟩), .string name] w fun e w' => e = .returned (.tuple #[.slice none 0 0, .int .i64 7]) ∧ Drawn0 w w' := by
  have HG : Aside0 (disk_good.f (3 * name.size + 1) name = some true) := ⟨by rw [good_is name (by unfold maxLen at hs; omega) _ (Nat.le_refl _), h]⟩
  have hu119 := Try.underlying59
  have hu117 := Try.underlying56
  have hlk := look hm name hs hp
  have c3 : w.cell? ⟨g, 3, none⟩ = some (.map (some b)) := (blk_cell hg 3).trans rfl
  have c1' : w.cell? ⟨g, 1, none⟩ = some (.bool true) := (blk_cell hg 1).trans rfl
  clear hm hp hg
  rcases p with _ | f
  all_goals simp only [pv] at hlk
  all_goals go_enter Try.func20, Try.ntmps20
  all_goals go_wp2_with fail
  all_goals refine (disk_good.calls _ _ _ _ HG.out).mono ?_
  all_goals rintro e w' ⟨rfl, ⟨n1, rfl⟩⟩
  all_goals go_wp2_with fail
  all_goals go_ret2
  all_goals exact ⟨rfl, n1, rfl⟩
set_option maxRecDepth 100000 in
set_option maxHeartbeats 1600000 in
theorem list_off (g b : Nat) (n : Int) (w : World) (hg : OffAt w g b n) :
    Calls Try.prog 19 #[.pointer (some ⟨g, 0, none⟩)] w fun e w' => e = .returned (.tuple #[.slice none 0 0, .int .i64 7]) ∧ w' = w := by
  have hu119 := Try.underlying59
  have hu117 := Try.underlying56
  have c1' : w.cell? ⟨g, 1, none⟩ = some (.bool true) := (blk_cell hg 1).trans rfl
  clear hg
  go_enter Try.func19, Try.ntmps19
  go_wp2_with fail
  go_ret2
  exact ⟨rfl, rfl⟩
end Go.Proofs.Ytoonepmnlgfikaa.D
