/- Disk: Sync, Append to a file that isn't there. -/
import Derived.Test.YtoonepmnlgfikaaDiskWalk2
import Derived.Maps.OwnSet
namespace Go.Proofs.Ytoonepmnlgfikaa.D
open Go.RowKit Go.Proofs.YtoonepmnlgfikaaW.PrintWords Go.Proofs.YtoonepmnlgfikaaW.PrintLast Go.Proofs.YtoonepmnlgfikaaW.PrintMore Go.Proofs.Ytoonepmnlgfikaa.Base Go.Maps
set_option linter.unusedVariables false
set_option linter.unusedSimpArgs false
set_option maxRecDepth 100000 in
theorem sync_no (g : Nat) (name : ByteArray) (hs : name.size ≤ maxLen) (w : World) (h : nameB name = false) :
    Calls Try.prog 12 #[.pointer (some ⟨g, 0, none⟩), .string name] w fun e w' => e = .returned (.int .i64 1) ∧ Drawn0 w w' := by
  go_enter Try.func12, Try.ntmps12
  go_wp2_with fail
  refine (call_no g name hs true w h).mono ?_
  rintro e w' ⟨rfl, ⟨n1, rfl⟩⟩
  go_wp2_with fail
  go_ret
  exact ⟨rfl, n1, rfl⟩
set_option maxRecDepth 100000 in
theorem sync_hit (g b cnt f : Nat) (v0 : Value) (A1 : Option Addr) (m1 c1 : Nat) (n : Int) (h0 : 0 ≤ n) (h1 : n ≤ 1000000) (D : DataW Unit) (name : ByteArray) (hs : name.size ≤ maxLen) (w : World) (h : nameB name = true) (hg : PowAt w g b n) (hm : Files w b cnt D) (hgb : b ≠ g)
    (hp : D.atKey (.string name.data.toList) (pe none) = pe (some f)) (hf : w.heap[f]? = some (.cells #[v0, .slice A1 m1 c1] 82 (0, 0))) :
    Calls Try.prog 12 #[.pointer (some ⟨g, 0, none⟩), .string name] w fun e w' => e = .returned (.int .i64 0) ∧ PowAt w' g b (n + 1) ∧ w'.heap[f]? = some (.cells #[.slice A1 m1 c1, .slice A1 m1 c1] 82 (0, 0)) ∧ (∀ i, i < w.heap.size → i ≠ g → i ≠ f → w'.heap[i]? = w.heap[i]?) ∧ w.heap.size ≤ w'.heap.size ∧ (∀ B, B ≤ g → B ≤ f → B ≤ w.heap.size → Below B w w') := by
  have hu122 := Try.underlying82
  have hfg : f ≠ g := blk_ne hf hg (by decide)
  go_enter Try.func12, Try.ntmps12
  go_wp2_with fail
  refine (call_yes g b cnt n h0 h1 D name hs true w h hg hm hgb (some f) hp).mono ?_
  rintro e w2 ⟨rfl, hg2, hgr, hm2⟩
  have hf2 : w2.heap[f]? = some (.cells #[v0, .slice A1 m1 c1] 82 (0, 0)) := blk_grown hf hgr (by simpa using hfg)
  have k1 : w2.cell? ⟨f, 1, none⟩ = some (.slice A1 m1 c1) := (blk_cell hf2 1).trans rfl
  have k0 : w2.cell? ⟨f, 0, none⟩ = some v0 := (blk_cell hf2 0).trans rfl
  have f0 := blk_frozen hf2 0
  rw [if_neg (by simp)]
  simp only [pv]
  go_wp2_with fail
  go_ret
  refine ⟨rfl, blk_far hg2 (Ne.symm hfg) _, blk_set hf2 0 _, fun i hi hig hif => (Below.heap_setCell _ _ _ i hif).trans (hgr.block i hi (by simpa using hig)), Nat.le_trans hgr.size (by simp [World.setCell]), fun B hBg hBf hBs => (pw_below_grown (Below.refl _ _) _ hBs hgr (fun k hk => by cases hk; exact hBg)).setCell hBf _⟩
theorem Files.of_block {w w' : World} {b n : Nat} {D : DataW Unit} (h : Files w b n D) (e : w'.heap[b]? = w.heap[b]?) : Files w' b n D := by
  obtain ⟨es, clock, hb, F, hs, hD⟩ := h
  exact ⟨es, clock, e.trans hb, F, hs, hD⟩
set_option maxRecDepth 100000 in
theorem append_no (g : Nat) (name : ByteArray) (hs : name.size ≤ maxLen) (A : Option Addr) (l c : Nat) (w : World) (h : nameB name = false) :
    Calls Try.prog 11 #[.pointer (some ⟨g, 0, none⟩), .string name, .slice A l c] w fun e w' => e = .returned (.int .i64 1) ∧ Drawn0 w w' := by
  go_enter Try.func11, Try.ntmps11
  go_wp2_with fail
  refine (call_no g name hs false w h).mono ?_
  rintro e w' ⟨rfl, ⟨n1, rfl⟩⟩
  go_wp2_with fail
  go_ret
  exact ⟨rfl, n1, rfl⟩
set_option maxRecDepth 100000 in
set_option maxHeartbeats 1600000 in
theorem append_new (g b cnt : Nat) (hcnt : cnt < 1000) (n : Int) (h0 : 0 ≤ n) (h1 : n ≤ 1000000) (D : DataW Unit) (name : ByteArray) (hs : name.size ≤ maxLen) (l : List Int) (A : Option Addr) (c : Nat) (hl : l.length ≤ 1048576) (w : World)
    (hC : ∀ W : World, (∀ i, i < w.heap.size → i ≠ g → i ≠ b → W.heap[i]? = w.heap[i]?) → Kd.C (Kd.int .u8) W A l.length l) (h : nameB name = true) (hg : PowAt w g b n) (hm : Files w b cnt D) (hgb : b ≠ g) (hp : D.atKey (.string name.data.toList) (pe none) = pe none) (hsz : Maps.size D < 16) :
    Calls Try.prog 11 #[.pointer (some ⟨g, 0, none⟩), .string name, .slice A l.length c] w fun e w' => e = .returned (.int .i64 0) ∧ PowAt w' g b (n + 1) ∧ ∃ f v, Files w' b (cnt + 1) (D.put (.string name.data.toList) (pe (some f))) ∧ w.heap.size ≤ f ∧
      w'.heap[f]? = some (.cells #[.slice none 0 0, v] 82 (0, 0)) ∧ Kd.R (Kd.int .u8) 5 w' w.heap.size (fun k => k ≠ f) v l ∧ (∀ i, i < w.heap.size → i ≠ g → i ≠ b → w'.heap[i]? = w.heap[i]?) ∧ w.heap.size ≤ w'.heap.size ∧ (∀ B, B ≤ g → B ≤ b → B ≤ w.heap.size → Below B w w') := by
  have hu122 := Try.underlying82
  have hu119 := Try.underlying59
  have HC := Aside0.mk hC
  clear hC
  go_enter Try.func11, Try.ntmps11
  go_wp2_with fail
  refine (call_yes g b cnt n h0 h1 D name hs false w h hg hm hgb none hp).mono ?_
  rintro e w2 ⟨rfl, hg2, hgr, hm2⟩
  rw [if_neg (by simp)]
  simp only [pv]
  have hb1 : decide ((1048576 : Int) < (l.length : Int)) = false := decide_eq_false (by omega)
  have k3 : w2.cell? ⟨g, 3, none⟩ = some (.map (some b)) := (blk_cell hg2 3).trans rfl
  have hlen := World.ownsMap.len (w := w2) hm2 Try.underlying57 3
  have hb2 : ((Maps.size D : Int) == 16) = false := beq_eq_false_iff_ne.2 (by omega)
  have hm3 : Files (w2.alloc (.cells #[.slice none 0 0, .slice none 0 0] 82)) b cnt D := World.ownsMap.alloc hm2 _
  obtain ⟨w4, hrun4, hm4, hgr4⟩ := World.ownsMap.update hm3 K9 Try.underlying57 (by unfold maxLen; omega) (WideMaps.keyOf_string_mk Try.underlying9 hs) (ptrE_pv (some w2.heap.size))
  simp only [pv] at hrun4
  have hg3 : (w2.alloc (.cells #[.slice none 0 0, .slice none 0 0] 82)).cell? ⟨g, 3, none⟩ = some (.map (some b)) := (blk_cell (((World.grownBy_alloc w2 _ none).block g (blk_lt hg2) (by simp)).trans hg2) 3).trans rfl
  have hbl : b < w2.heap.size := World.ownsMap.lt hm2
  have hf4 : w4.heap[w2.heap.size]? = some (.cells #[.slice none 0 0, .slice none 0 0] 82 (0, 0)) := (hgr4.block _ (by simp) (by simp; omega)).trans (heap_alloc_new w2 _)
  have hg4 : w4.heap[g]? = some (.cells #[.int .i64 (n + 1), .bool false, .int .i64 0, .map (some b)] 59 (0, 0)) := (hgr4.block g (by have := blk_lt hg2; simp; omega) (by simpa using Ne.symm hgb)).trans ((World.grownBy_alloc w2 _ none).block g (blk_lt hg2) (by simp) |>.trans hg2)
  have hkeep : ∀ i, i < w.heap.size → i ≠ g → i ≠ b → w4.heap[i]? = w.heap[i]? := fun i hi hig hib =>
    (hgr4.block i (by have := hgr.size; simp; omega) (by simpa using hib)).trans (((World.grownBy_alloc w2 _ none).block i (by have := hgr.size; omega) (by simp)).trans (hgr.block i hi (by simpa using hig)))
  have hsize : w.heap.size ≤ w2.heap.size := hgr.size
  have hs4 : w2.heap.size < w4.heap.size := blk_lt hf4
  have k4 : w4.cell? ⟨w2.heap.size, 1, none⟩ = some (.slice none 0 0) := (blk_cell hf4 1).trans rfl
  have HBL : Aside0 (∀ B, B ≤ g → B ≤ b → B ≤ w.heap.size → Below B w w4) := ⟨fun B hBg hBb hBs => pw_below_grown ((pw_below_grown (Below.refl _ _) _ hBs hgr (fun k hk => by cases hk; exact hBg)).alloc (Nat.le_trans hBs hgr.size) _) _ (by simp; have := hgr.size; omega) hgr4 (fun k hk => by cases hk; exact hBb)⟩
  have HHG4 := Aside0.mk hg4
  have HHF4 := Aside0.mk hf4
  have HKEEP := Aside0.mk hkeep
  have HM4 := Aside0.mk hm4
  clear hm4 hf4 hg4 hkeep hm2 hm3 hgr hgr4
  go_wp2_with fail
  clear hrun4 hlen hb1 hb2 hg3
  generalize w2.heap.size = f at *
  refine (clone_nil w4).mono ?_
  rintro e w5 ⟨rfl, ⟨n5, rfl⟩⟩
  have HC4 : Aside0 (Kd.C (Kd.int .u8) w4 A l.length l) := ⟨HC.out w4 HKEEP.out⟩
  have HLL : Aside0 ((0 + l.length) * 1 ≤ 140737488355328) := ⟨by omega⟩
  go_wp2_with (first | ((with_reducible refine gate_builtin (b := .append) (xs := #[.tmp 67, .tmp 68]) rfl ?_); at_builtin; refine Kd.R_append_rows (Kd.int .u8) (w0 := w4) w4.heap.size rfl (.tmp 67) (.tmp 68) 27 5 (.int .u8 0) 1 rfl Try.underlying27 info5 rfl (by decide) (by decide) (.slice none 0 0) [] l _ _ _ (fun _ => True) (fun _ => False) rfl rfl (Kd.R_nil _ _ _ _ _) (Kd.C_drewN HC4.out _) (fun _ _ h => h) (fun _ h => h.elim) (fun _ _ => trivial) (pw_below_drewN (Below.refl _ _) _) (by simp) HLL.out ?_; intro v7 w7 ho7 hb7 hg7 hat7; obtain ⟨A7, c7, rfl, hl7, hC7⟩ := Kd.R_reads ho7; have hf7 := (hb7.block f hs4).trans HHF4.out; have k7 : w7.cell? ⟨f, 1, none⟩ = some (.slice none 0 0) := (blk_cell hf7 1).trans rfl; have f7 := blk_frozen hf7 1; have HO7 := Aside0.mk ho7; have HB7 := Aside0.mk hb7; have HF7 := Aside0.mk hf7; clear ho7 hb7 hg7 hat7 hl7 hC7 hf7))
  go_ret
  have hfg : f ≠ g := blk_ne HHF4.out HHG4.out (by decide)
  have hs7 : w4.heap.size ≤ w7.heap.size := HB7.out.size
  have hset : ∀ i, i ≠ f → (w7.setCell ⟨f, 1, none⟩ (.slice A7 l.length c7)).heap[i]? = w7.heap[i]? := fun i hi => Below.heap_setCell _ _ _ i hi
  refine ⟨rfl, (hset g (Ne.symm hfg)).trans ((HB7.out.block g (blk_lt HHG4.out)).trans HHG4.out), f, _, Files.of_block HM4.out ((hset b (by omega)).trans (HB7.out.block b (by omega))), hsize, blk_set HF7.out 1 _, ?_, ?_, ?_, ?_⟩
  · have h1 := Kd.R_mono (Kd.R_bound HO7.out) (fun k hk => show k ≠ f by have := hk.2.1; omega)
    exact Kd.R_step (Kd.R_lower h1 (by omega)) (fun k hk _ => hset k hk)
  · intro i hi hig hib
    exact (hset i (by omega)).trans ((HB7.out.block i (by omega)).trans (HKEEP.out i hi hig hib))
  · have : (w7.setCell ⟨f, 1, none⟩ (.slice A7 l.length c7)).heap.size = w7.heap.size := by simp [World.setCell]
    omega
  · intro B hBg hBb hBs
    exact ((HBL.out B hBg hBb hBs).trans (HB7.out.mono (by omega))).setCell (by show B ≤ f; omega) _
end Go.Proofs.Ytoonepmnlgfikaa.D
