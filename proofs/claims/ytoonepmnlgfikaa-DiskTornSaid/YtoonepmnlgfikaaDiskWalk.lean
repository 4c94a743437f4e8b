/- Disk: the calls that DiskNames makes, walked. -/
import Derived.Test.YtoonepmnlgfikaaDiskPure
import Derived.Test.YtoonepmnlgfikaaBase
import Derived.Maps.Own
import Derived.Maps.OwnOps
import Derived.Outline
import Derived.WalkLawsBesides
import Derived.KernelRfl
import Derived.BigRegion
namespace Go.Proofs.Ytoonepmnlgfikaa.D
open Go.RowKit Go.Proofs.YtoonepmnlgfikaaW.PrintWords Go.Proofs.YtoonepmnlgfikaaW.PrintLast Go.Proofs.YtoonepmnlgfikaaW.PrintMore Go.Proofs.Ytoonepmnlgfikaa.Base
set_option linter.unusedVariables false
set_option linter.unusedSimpArgs false

theorem grown_set (w : World) (p : Addr) (v : Value) : w.grownBy (w.setCell p v) (some p.block) :=
  ⟨rfl, rfl, rfl, by simp [World.setCell], fun k _ hk => Below.heap_setCell _ _ _ k (fun e => hk (by rw [e]))⟩
theorem grown_drew (w : World) (row : Option Nat) : w.grownBy w.drew row := ⟨rfl, rfl, rfl, Nat.le_refl _, fun _ _ _ => rfl⟩
set_option maxRecDepth 100000 in
theorem clone_nil (w : World) : Calls Try.prog 38 #[.slice none 0 0] w fun e w' => e = .returned (.slice none 0 0) ∧ Drawn0 w w' := by
  have heq := fun (w : World) => Go.Lib.run_eql_slice_nil (P := Try.prog) w 27 5 none 0 0 0 0 Try.underlying27
  go_enter Try.func38, Try.ntmps38
  go_wp2_with fail
  go_ret
  exact ⟨rfl, 0, rfl⟩
set_option maxRecDepth 100000 in
set_option maxHeartbeats 800000 in
theorem new_nil (w : World) : Calls Try.prog 9 #[.slice none 0 0] w fun e w' => ∃ g b, e = .returned (.tuple #[.pointer (some ⟨g, 0, none⟩), .int .i64 0]) ∧ w.heap.size ≤ g ∧ w.heap.size ≤ b ∧ w'.heap[b]? = some (.map #[] 0) ∧
    w'.heap[g]? = some (.cells #[.int .i64 0, .bool false, .int .i64 0, .map (some b)] 59 (0, 0)) ∧ Below w.heap.size w w' := by
  have hmm := @run_makeMap Try.prog
  have hu119 := Try.underlying59
  have hu117 := Try.underlying56
  go_enter Try.func9, Try.ntmps9
  go_wp2_with fail
  go_loopg [5, 6, 12] 0 (fun kq v5 v6 v12 w' => v12 = .int .i64 0 ∧ w' = (w.alloc (.map #[] 0)).alloc (.cells #[.int .i64 0, .bool false, .int .i64 0, .map (some w.heap.size)] 59))
  case atStart => exact ⟨rfl, rfl⟩
  case round =>
    obtain ⟨rfl, rfl⟩ := hrel
    go_wp2_with fail
    go_ret2
    have h1 := heap_alloc_new (w.alloc (.map #[] 0)) (.cells #[.int .i64 0, .bool false, .int .i64 0, .map (some w.heap.size)] 59)
    have h2 := ((Below.refl _ (w.alloc (.map #[] 0))).alloc (Nat.le_refl _) (.cells #[.int .i64 0, .bool false, .int .i64 0, .map (some w.heap.size)] 59)).block w.heap.size (by simp)
    refine ⟨_, _, rfl, by simp, Nat.le_refl _, h2.trans (heap_alloc_new w _), ?_, ((Below.refl _ _).alloc (Nat.le_refl _) _).alloc (by simp) _⟩
    simpa using h1
set_option maxRecDepth 100000 in
set_option maxHeartbeats 1600000 in
theorem clone_calls (l : List Int) (A : Option Addr) (c : Nat) (hl : l.length ≤ 140737488355328) (w : World) (hC : Kd.C (Kd.int .u8) w A l.length l) :
    Calls Try.prog 38 #[.slice A l.length c] w fun e w' => ∃ v, e = .returned v ∧ Kd.R (Kd.int .u8) 5 w' w.heap.size (fun _ => True) v l ∧ Below w.heap.size w w' := by
  have HC := Aside0.mk hC
  rcases A with _ | ad
  · have h0 : l = [] := by
      rcases Nat.eq_zero_or_pos l.length with h0 | h0
      · exact List.eq_nil_of_length_eq_zero h0
      · obtain ⟨ad, h, _⟩ := hC.2.2 h0
        cases h
    subst h0
    have heq := fun (w : World) => Go.Lib.run_eql_slice_nil (P := Try.prog) w 27 5 none 0 c 0 0 Try.underlying27
    clear hC HC
    go_enter Try.func38, Try.ntmps38
    go_wp2_with fail
    go_ret
    exact ⟨_, rfl, Kd.R_nil _ _ _ _ _, Below.refl _ _⟩
  · have heq := fun (w : World) => Go.Lib.run_eql_slice_nil (P := Try.prog) w 27 5 (some ad) l.length c 0 0 Try.underlying27
    clear hC
    go_enter Try.func38, Try.ntmps38
    go_wp2_with (first
      | ((with_reducible refine gate_dst (N := 5) rfl ?_); refine Kd.R_lit (Kd.int .u8) _ 5 ?hg (N := 5) ?hd (xs := ([] : List Int)) (inner := []) (ok := fun _ => True) (okp := fun _ => True) ?hr ?hp (fun _ hk => hk) trivial (Below.refl _ _) (Nat.le_refl _) (by simp) ?_; (case hd => rfl); (case hg => rfl); (case hr => first | (go_simp; done) | (go_simp; rfl)); (case hp => exact Reps.none _ _); intro v5 w5 ho5 hb5 hg_ hnew_; clear hg_ hnew_; have HO5 := Aside0.mk ho5; have HB5 := Aside0.mk hb5; clear ho5 hb5)
      | ((with_reducible refine gate_builtin (b := .append) (xs := #[.tmp 5, .tmp 6]) rfl ?_); at_builtin; refine Kd.R_append_rows (Kd.int .u8) (w0 := w) w.heap.size rfl (.tmp 5) (.tmp 6) 27 5 (.int .u8 0) 1 rfl Try.underlying27 info5 rfl (by decide) (by omega) v5 [] l _ _ _ (fun _ => True) (fun _ => False) rfl rfl HO5.out (Kd.C_below HC.out HB5.out) (fun _ _ h => h) (fun _ h => h.elim) (fun _ _ => trivial) HB5.out HB5.out.size (by simp; omega) ?_; intro v7 w7 ho7 hb7 hg7 hat7; have HO7 := Aside0.mk ho7; have HB7 := Aside0.mk hb7; clear ho7 hb7 hg7 hat7))
    go_ret
    exact ⟨_, rfl, HO7.out, HB7.out⟩
set_option maxRecDepth 100000 in
set_option maxHeartbeats 1600000 in
theorem spend_calls (g : Nat) (n : Int) (m : Value) (h0 : 0 ≤ n) (h1 : n ≤ 1000000) (w : World) (hg : w.heap[g]? = some (.cells #[.int .i64 n, .bool false, .int .i64 0, m] 59 (0, 0))) :
    Calls Try.prog 57 #[.pointer (some ⟨g, 0, none⟩)] w fun e w' => e = .returned (.tuple #[]) ∧ w'.heap[g]? = some (.cells #[.int .i64 (n + 1), .bool false, .int .i64 0, m] 59 (0, 0)) ∧ w.grownBy w' (some g) := by
  have c0 : w.cell? ⟨g, 0, none⟩ = some (.int .i64 n) := (blk_cell hg 0).trans rfl
  have c1 : w.cell? ⟨g, 1, none⟩ = some (.bool false) := (blk_cell hg 1).trans rfl
  have c2 : w.cell? ⟨g, 2, none⟩ = some (.int .i64 0) := (blk_cell hg 2).trans rfl
  have f0 := blk_frozen hg 0
  have f1 := blk_frozen hg 1
  have hu117 := Try.underlying56
  have hw1 : wrap64 (n + 1) = n + 1 := wrap64_in _ (by omega) (by omega)
  go_enter Try.func57, Try.ntmps57
  go_wp2_with fail
  have hg1 : (w.setCell ⟨g, 0, none⟩ (.int .i64 (n + 1))).heap[g]? = some (.cells #[.int .i64 (n + 1), .bool false, .int .i64 0, m] 59 (0, 0)) := blk_set hg 0 _
  have hgr : w.grownBy (w.setCell ⟨g, 0, none⟩ (.int .i64 (n + 1))) (some g) := grown_set w ⟨g, 0, none⟩ _
  clear c0 c1 c2 f0 f1 hg hw1
  generalize w.setCell ⟨g, 0, none⟩ (.int .i64 (n + 1)) = w1 at *
  have c0 : w1.cell? ⟨g, 0, none⟩ = some (.int .i64 (n + 1)) := (blk_cell hg1 0).trans rfl
  have c1 : w1.cell? ⟨g, 1, none⟩ = some (.bool false) := (blk_cell hg1 1).trans rfl
  have c2 : w1.cell? ⟨g, 2, none⟩ = some (.int .i64 0) := (blk_cell hg1 2).trans rfl
  have f1 := blk_frozen hg1 1
  have hd : decide ((0 : Int) < 0) = false := rfl
  go_region
  have hg2 : w1.drew.heap[g]? = some (.cells #[.int .i64 (n + 1), .bool false, .int .i64 0, m] 59 (0, 0)) := hg1
  go_end0
  refine ⟨rfl, ?_, ?_⟩
  · exact blk_set hg2 1 _
  · exact (hgr.trans (grown_set w1 ⟨g, 1, none⟩ _)).trans (grown_drew _ _)
end Go.Proofs.Ytoonepmnlgfikaa.D
