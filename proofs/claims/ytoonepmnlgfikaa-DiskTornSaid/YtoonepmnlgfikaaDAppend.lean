/- Disk: Append to a file that is there. -/
import Derived.Test.YtoonepmnlgfikaaDRem
namespace Go.Proofs.Ytoonepmnlgfikaa.D
open Go.RowKit Go.Proofs.YtoonepmnlgfikaaW.PrintWords Go.Proofs.YtoonepmnlgfikaaW.PrintLast Go.Proofs.YtoonepmnlgfikaaW.PrintMore Go.Proofs.Ytoonepmnlgfikaa.Base Go.Maps
set_option linter.unusedVariables false
set_option linter.unusedSimpArgs false
set_option maxRecDepth 100000 in
set_option maxHeartbeats 1600000 in
theorem append_hit (g b cnt f : Nat) (v0 : Value) (A1 : Option Addr) (c1 : Nat) (l1 : List Int) (n : Int) (h0 : 0 ≤ n) (h1 : n ≤ 1000000) (D : DataW Unit) (name : ByteArray) (hs : name.size ≤ maxLen) (l : List Int) (A : Option Addr) (c : Nat) (hl : l1.length + l.length ≤ 1048576) (w : World)
    (hC : ∀ W : World, (∀ i, i < w.heap.size → i ≠ g → i ≠ f → W.heap[i]? = w.heap[i]?) → Kd.C (Kd.int .u8) W A l.length l) (hC1 : ∀ W : World, (∀ i, i < w.heap.size → i ≠ g → i ≠ f → W.heap[i]? = w.heap[i]?) → Kd.C (Kd.int .u8) W A1 l1.length l1)
    (h : nameB name = true) (hg : PowAt w g b n) (hm : Files w b cnt D) (hgb : b ≠ g) (hfb : f ≠ b) (hp : D.atKey (.string name.data.toList) (pe none) = pe (some f)) (hf : w.heap[f]? = some (.cells #[v0, .slice A1 l1.length c1] 82 (0, 0))) :
    Calls Try.prog 11 #[.pointer (some ⟨g, 0, none⟩), .string name, .slice A l.length c] w fun e w' => e = .returned (.int .i64 0) ∧ PowAt w' g b (n + 1) ∧ Files w' b cnt D ∧ ∃ v,
      w'.heap[f]? = some (.cells #[v0, v] 82 (0, 0)) ∧ Kd.R (Kd.int .u8) 5 w' w.heap.size (fun k => k ≠ f) v (l1 ++ l) ∧ (∀ i, i < w.heap.size → i ≠ g → i ≠ f → w'.heap[i]? = w.heap[i]?) ∧ w.heap.size ≤ w'.heap.size ∧ (∀ B, B ≤ g → B ≤ f → B ≤ w.heap.size → Below B w w') := by
  have hu122 := Try.underlying82
  have hu119 := Try.underlying59
  have HC := Aside0.mk hC
  have HC1 := Aside0.mk hC1
  have hfg : f ≠ g := blk_ne hf hg (by decide)
  clear hC hC1
  go_enter Try.func11, Try.ntmps11
  go_wp2_with fail
  refine (call_yes g b cnt n h0 h1 D name hs false w h hg hm hgb (some f) hp).mono ?_
  rintro e w2 ⟨rfl, hg2, hgr, hm2⟩
  rw [if_neg (by simp)]
  simp only [pv]
  have hf2 : w2.heap[f]? = some (.cells #[v0, .slice A1 l1.length c1] 82 (0, 0)) := blk_grown hf hgr (by simpa using hfg)
  have k1 : w2.cell? ⟨f, 1, none⟩ = some (.slice A1 l1.length c1) := (blk_cell hf2 1).trans rfl
  have hw1 : wrap64 (1048576 - (l1.length : Int)) = 1048576 - (l1.length : Int) := wrap64_in _ (by omega) (by omega)
  have hb1 : decide ((1048576 : Int) - (l1.length : Int) < (l.length : Int)) = false := decide_eq_false (by omega)
  have HG2 := Aside0.mk hg2
  have HM2 := Aside0.mk hm2
  have HF2 := Aside0.mk hf2
  have HK2 : Aside0 (∀ i, i < w.heap.size → i ≠ g → i ≠ f → w2.heap[i]? = w.heap[i]?) := ⟨fun i hi hig hif => hgr.block i hi (by simpa using hig)⟩
  have HS2 : Aside0 (w.heap.size ≤ w2.heap.size) := ⟨hgr.size⟩
  have HB2 : Aside0 (∀ B, B ≤ g → B ≤ w.heap.size → Below B w w2) := ⟨fun B hBg hBs => pw_below_grown (Below.refl _ _) _ hBs hgr (fun k hk => by cases hk; exact hBg)⟩
  have HFL : Aside0 (f < w.heap.size) := ⟨blk_lt hf⟩
  have HGL : Aside0 (g < w.heap.size) := ⟨blk_lt hg⟩
  have HBL : Aside0 (b < w.heap.size) := ⟨World.ownsMap.lt hm⟩
  have H38 : Aside0 (Calls Try.prog 38 #[.slice A1 l1.length c1] w2 fun e w' => ∃ v, e = .returned v ∧ Kd.R (Kd.int .u8) 5 w' w2.heap.size (fun _ => True) v l1 ∧ Below w2.heap.size w2 w') := ⟨clone_calls l1 A1 c1 (by omega) w2 (HC1.out _ (fun i hi hig hif => HK2.out i hi hig hif))⟩
  obtain ⟨bb, hbb⟩ : ∃ bb, bb = l1 ++ l := ⟨_, rfl⟩
  have HBB := Aside0.mk hbb
  clear hbb
  have HLL : Aside0 ((l1.length + l.length) * 1 ≤ 140737488355328) := ⟨by omega⟩
  clear hg2 hm2 hf2 hgr hg hm hf
  go_wp2_with (first
    | (go_at_call 38; refine H38.out.mono ?_; rintro e w5 ⟨v5, rfl, hr, hb⟩; have HR5 := Aside0.mk hr; have HB5 := Aside0.mk hb; clear hr hb)
    | ((with_reducible refine gate_builtin (b := .append) (xs := #[.tmp 67, .tmp 68]) rfl ?_); at_builtin; refine Kd.R_append_rows (Kd.int .u8) (w0 := w2) w2.heap.size rfl (.tmp 67) (.tmp 68) 27 5 (.int .u8 0) 1 rfl Try.underlying27 info5 rfl (by decide) (by decide) v5 l1 l _ _ _ (fun _ => True) (fun _ => False) rfl rfl HR5.out (HC.out _ (fun i hi hig hif => (HB5.out.block i (by have := HS2.out; omega)).trans (HK2.out i hi hig hif))) (fun _ _ h => h) (fun _ h => h.elim) (fun _ _ => trivial) HB5.out HB5.out.size HLL.out ?_; intro v7 w7 ho7 hb7 hg7 hat7; rw [← HBB.out] at ho7; have hf7 := (hb7.block f (by have := HS2.out; have := HFL.out; omega)).trans HF2.out; have k7 : w7.cell? ⟨f, 1, none⟩ = some (.slice A1 l1.length c1) := (blk_cell hf7 1).trans rfl; have f7 := blk_frozen hf7 1; obtain ⟨A7, c7, rfl⟩ := Kd.R_slice ho7; have HO7 := Aside0.mk ho7; have HB7 := Aside0.mk hb7; have HF7 := Aside0.mk hf7; clear ho7 hb7 hg7 hat7 hf7))
  go_ret
  have hs2 := HS2.out
  have hfl := HFL.out
  have hgl := HGL.out
  have hbl := HBL.out
  have hset : ∀ i, i ≠ f → (w7.setCell ⟨f, 1, none⟩ (.slice A7 bb.length c7)).heap[i]? = w7.heap[i]? := fun i hi => Below.heap_setCell _ _ _ i hi
  rw [← HBB.out]
  refine ⟨rfl, (hset g (Ne.symm hfg)).trans ((HB7.out.block g (by omega)).trans HG2.out), Files.of_block HM2.out ((hset b (Ne.symm hfb)).trans (HB7.out.block b (by omega))), _, blk_set HF7.out 1 _, ?_, fun i hi hig hif => (hset i hif).trans ((HB7.out.block i (by omega)).trans (HK2.out i hi hig hif)), ?_, ?_⟩
  · have h1 := Kd.R_mono (Kd.R_bound HO7.out) (fun k hk => show k ≠ f by have := hk.2.1; omega)
    exact Kd.R_step (Kd.R_lower h1 (by omega)) (fun k hk _ => hset k hk)
  · have : (w7.setCell ⟨f, 1, none⟩ (.slice A7 bb.length c7)).heap.size = w7.heap.size := by simp [World.setCell]
    have := HB7.out.size
    omega
  · intro B hBg hBf hBs
    exact ((HB2.out B hBg hBs).trans (HB7.out.mono (by omega))).setCell (by show B ≤ f; exact hBf) _
end Go.Proofs.Ytoonepmnlgfikaa.D
