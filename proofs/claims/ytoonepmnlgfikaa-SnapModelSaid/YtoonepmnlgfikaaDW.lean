/- Disk (merged). -/
import Derived.Test.YtoonepmnlgfikaaDx2
import Derived.Test.YtoonepmnlgfikaaBase
import Derived.Maps.Own
import Derived.Maps.OwnOps
import Derived.Outline
import Derived.WalkLawsBesides
import Derived.KernelRfl
import Derived.BigRegion
import Derived.Maps.Views
import Derived.StringKeys
import Derived.Maps.OwnSet
import Derived.BigQuiet
import Derived.Deep.RegionHeld3
import Derived.Test.YtoonepmnlgfikaaDx41
import Derived.Test.YtoonepmnlgfikaaDx5
import Derived.Lib.SlBytesConst
/-! DiskPure -/
namespace Go.Proofs.Ytoonepmnlgfikaa.D
open Go.RowKit Go.Proofs.YtoonepmnlgfikaaW.PrintWords Go.Proofs.YtoonepmnlgfikaaW.PrintLast Go.Proofs.YtoonepmnlgfikaaW.PrintMore
set_option linter.unusedVariables false
set_option linter.unusedSimpArgs false

def okC (c : Int) : Prop := 97 ≤ c ∧ c ≤ 122 ∨ 48 ≤ c ∧ c ≤ 57 ∨ c = 46 ∨ c = 45
instance (c : Int) : Decidable (okC c) := by unfold okC; infer_instance
/-- From i on, m bytes. -/
def restB (a : ByteArray) : Nat → Nat → Bool
  | _, 0 => true
  | i, m + 1 => decide (okC (bt a (i : Int))) && restB a (i + 1) m
def nameB (a : ByteArray) : Bool := decide (1 ≤ a.size ∧ a.size ≤ 64) && restB a 0 a.size

theorem good_rest (a : ByteArray) (hs : a.size ≤ 9223372036854775807) : ∀ m i k, i + m = a.size → 3 * m + 1 ≤ k →
    disk_good.l0 k a (a.size : Int) (i : Int) = some (restB a i m && decide (1 ≤ a.size ∧ a.size ≤ 64))
  | 0, i, k, hi, hk => by
    obtain ⟨k, rfl⟩ : ∃ n, k = n + 1 := ⟨k - 1, by omega⟩
    simp only [disk_good.l0, restB, Bool.true_and]
    rw [if_neg (by omega)]
    by_cases h1 : 1 ≤ a.size
    · rw [if_pos (by omega)]
      congr 1
      exact decide_eq_decide.2 ⟨fun h => ⟨h1, by omega⟩, fun h => by omega⟩
    · rw [if_neg (by omega), decide_eq_false (fun h => h1 h.1)]
  | m + 1, i, k, hi, hk => by
    obtain ⟨k, rfl⟩ : ∃ n, k = n + 3 := ⟨k - 3, by omega⟩
    have hw : wrap64 ((i : Int) + 1) = ((i + 1 : Nat) : Int) := by unfold wrap64; omega
    have go : ∀ q, 3 * m + 1 ≤ q → disk_good.l0 q a (a.size : Int) ((i + 1 : Nat) : Int) = some (restB a (i + 1) m && decide (1 ≤ a.size ∧ a.size ≤ 64)) := fun q hq => good_rest a hs m (i + 1) q (by omega) hq
    have no : ¬ okC (bt a (i : Int)) → restB a i (m + 1) = false := fun h => by simp only [restB]; rw [decide_eq_false h, Bool.false_and]
    have yes : okC (bt a (i : Int)) → restB a i (m + 1) = restB a (i + 1) m := fun h => by simp only [restB]; rw [decide_eq_true h, Bool.true_and]
    rw [show k + 3 = (k + 2) + 1 from rfl]
    unfold disk_good.l0
    rw [if_pos (by omega), if_pos (by omega), if_pos (by omega)]
    generalize bt a (i : Int) = c at *
    have j2 : ∀ q b, 3 * m + 1 ≤ q → b = decide (48 ≤ c ∧ c ≤ 57) → ¬ (97 ≤ c ∧ c ≤ 122) → disk_good.j2 (q + 1) a c (a.size : Int) (i : Int) b = some (restB a i (m + 1) && decide (1 ≤ a.size ∧ a.size ≤ 64)) := fun q b hq hb hn => by
      simp only [disk_good.j2]
      rw [hw, go q hq, hb]
      by_cases h1 : 48 ≤ c ∧ c ≤ 57
      · rw [decide_eq_true h1, if_pos rfl, yes (.inr (.inl h1))]
      · rw [decide_eq_false h1, if_neg (by decide)]
        by_cases h2 : c = 46
        · rw [if_pos h2, yes (.inr (.inr (.inl h2)))]
        · rw [if_neg h2]
          by_cases h3 : c = 45
          · rw [if_pos h3, yes (.inr (.inr (.inr h3)))]
          · rw [if_neg h3, no (fun h => by unfold okC at h; omega), Bool.false_and]
    have j1 : ∀ b, b = decide (97 ≤ c ∧ c ≤ 122) → disk_good.j1 (k + 2) a c (a.size : Int) (i : Int) b = some (restB a i (m + 1) && decide (1 ≤ a.size ∧ a.size ≤ 64)) := fun b hb => by
      rw [show k + 2 = (k + 1) + 1 from rfl]
      unfold disk_good.j1
      rw [hw, go (k + 1) (by omega), hb]
      by_cases h1 : 97 ≤ c ∧ c ≤ 122
      · rw [decide_eq_true h1, if_pos rfl, yes (.inl h1)]
      · rw [decide_eq_false h1, if_neg (by decide)]
        by_cases h2 : c ≥ 48
        · rw [if_pos h2]
          exact j2 k _ (by omega) (decide_eq_decide.2 ⟨fun h => ⟨h2, h⟩, fun h => h.2⟩) h1
        · rw [if_neg h2]
          exact j2 k _ (by omega) (decide_eq_false (by omega)).symm h1
    by_cases h1 : c ≥ 97
    · rw [if_pos h1]
      exact j1 _ (decide_eq_decide.2 ⟨fun h => ⟨h1, h⟩, fun h => h.2⟩)
    · rw [if_neg h1]
      exact j1 _ (decide_eq_false (by omega)).symm
theorem good_is (a : ByteArray) (hs : a.size ≤ 9223372036854775807) (k : Nat) (hk : 3 * a.size + 1 ≤ k) : disk_good.f k a = some (nameB a) := by
  unfold disk_good.f nameB
  rw [show (0 : Int) = ((0 : Nat) : Int) from rfl, good_rest a hs a.size 0 k (by omega) hk, Bool.and_comm]
end Go.Proofs.Ytoonepmnlgfikaa.D
/-! DiskWalk -/
namespace Go.Proofs.Ytoonepmnlgfikaa.D
open Go.RowKit Go.Proofs.YtoonepmnlgfikaaW.PrintWords Go.Proofs.YtoonepmnlgfikaaW.PrintLast Go.Proofs.YtoonepmnlgfikaaW.PrintMore Go.Proofs.Ytoonepmnlgfikaa.Base
set_option linter.unusedVariables false
set_option linter.unusedSimpArgs false

theorem grown_set (w : World) (p : Addr) (v : Value) : w.grownBy (w.setCell p v) (some p.block) :=
  ⟨rfl, rfl, rfl, by simp [World.setCell], fun k _ hk => Below.heap_setCell _ _ _ k (fun e => hk (by rw [e]))⟩
theorem grown_drew (w : World) (row : Option Nat) : w.grownBy w.drew row := ⟨rfl, rfl, rfl, Nat.le_refl _, fun _ _ _ => rfl⟩
set_option maxRecDepth 100000 in
theorem clone_nil (w : World) : Calls Try.prog 38 #[.slice none 0 0] w fun e w' => e = .returned (.slice none 0 0) ∧ Drawn0 w w' := by
  have heq := fun (w : World) => Go.Lib.run_eql_slice_nil (P := Try.prog) w 27 5 none 0 0 0 0 Try.underlying27
  go_enter Try.func38, Try.ntmps38
  go_wp2_with fail
  go_ret
  exact ⟨rfl, 0, rfl⟩
set_option maxRecDepth 100000 in
set_option maxHeartbeats 800000 in
theorem new_nil (w : World) : Calls Try.prog 9 #[.slice none 0 0] w fun e w' => ∃ g b, e = .returned (.tuple #[.pointer (some ⟨g, 0, none⟩), .int .i64 0]) ∧ w.heap.size ≤ g ∧ w.heap.size ≤ b ∧ w'.heap[b]? = some (.map #[] 0) ∧
    w'.heap[g]? = some (.cells #[.int .i64 0, .bool false, .int .i64 0, .map (some b)] 59 (0, 0)) ∧ Below w.heap.size w w' := by
  have hmm := @run_makeMap Try.prog
  have hu119 := Try.underlying59
  have hu117 := Try.underlying56
  go_enter Try.func9, Try.ntmps9
  go_wp2_with fail
  go_loopg [5, 6, 12] 0 (fun kq v5 v6 v12 w' => v12 = .int .i64 0 ∧ w' = (w.alloc (.map #[] 0)).alloc (.cells #[.int .i64 0, .bool false, .int .i64 0, .map (some w.heap.size)] 59))
  case atStart => exact ⟨rfl, rfl⟩
  case round =>
    obtain ⟨rfl, rfl⟩ := hrel
    go_wp2_with fail
    go_ret2
    have h1 := heap_alloc_new (w.alloc (.map #[] 0)) (.cells #[.int .i64 0, .bool false, .int .i64 0, .map (some w.heap.size)] 59)
    have h2 := ((Below.refl _ (w.alloc (.map #[] 0))).alloc (Nat.le_refl _) (.cells #[.int .i64 0, .bool false, .int .i64 0, .map (some w.heap.size)] 59)).block w.heap.size (by simp)
    refine ⟨_, _, rfl, by simp, Nat.le_refl _, h2.trans (heap_alloc_new w _), ?_, ((Below.refl _ _).alloc (Nat.le_refl _) _).alloc (by simp) _⟩
    simpa using h1
set_option maxRecDepth 100000 in
set_option maxHeartbeats 1600000 in
theorem clone_calls (l : List Int) (A : Option Addr) (c : Nat) (hl : l.length ≤ 140737488355328) (w : World) (hC : Kd.C (Kd.int .u8) w A l.length l) :
    Calls Try.prog 38 #[.slice A l.length c] w fun e w' => ∃ v, e = .returned v ∧ Kd.R (Kd.int .u8) 5 w' w.heap.size (fun _ => True) v l ∧ Below w.heap.size w w' := by
  have HC := Aside0.mk hC
  rcases A with _ | ad
  · have h0 : l = [] := by
      rcases Nat.eq_zero_or_pos l.length with h0 | h0
      · exact List.eq_nil_of_length_eq_zero h0
      · obtain ⟨ad, h, _⟩ := hC.2.2 h0
        cases h
    subst h0
    have heq := fun (w : World) => Go.Lib.run_eql_slice_nil (P := Try.prog) w 27 5 none 0 c 0 0 Try.underlying27
    clear hC HC
    go_enter Try.func38, Try.ntmps38
    go_wp2_with fail
    go_ret
    exact ⟨_, rfl, Kd.R_nil _ _ _ _ _, Below.refl _ _⟩
  · have heq := fun (w : World) => Go.Lib.run_eql_slice_nil (P := Try.prog) w 27 5 (some ad) l.length c 0 0 Try.underlying27
    clear hC
    go_enter Try.func38, Try.ntmps38
    go_wp2_with (first
      | ((with_reducible refine gate_dst (N := 5) rfl ?_); refine Kd.R_lit (Kd.int .u8) _ 5 ?hg (N := 5) ?hd (xs := ([] : List Int)) (inner := []) (ok := fun _ => True) (okp := fun _ => True) ?hr ?hp (fun _ hk => hk) trivial (Below.refl _ _) (Nat.le_refl _) (by simp) ?_; (case hd => rfl); (case hg => rfl); (case hr => first | (go_simp; done) | (go_simp; rfl)); (case hp => exact Reps.none _ _); intro v5 w5 ho5 hb5 hg_ hnew_; clear hg_ hnew_; have HO5 := Aside0.mk ho5; have HB5 := Aside0.mk hb5; clear ho5 hb5)
      | ((with_reducible refine gate_builtin (b := .append) (xs := #[.tmp 5, .tmp 6]) rfl ?_); at_builtin; refine Kd.R_append_rows (Kd.int .u8) (w0 := w) w.heap.size rfl (.tmp 5) (.tmp 6) 27 5 (.int .u8 0) 1 rfl Try.underlying27 info5 rfl (by decide) (by omega) v5 [] l _ _ _ (fun _ => True) (fun _ => False) rfl rfl HO5.out (Kd.C_below HC.out HB5.out) (fun _ _ h => h) (fun _ h => h.elim) (fun _ _ => trivial) HB5.out HB5.out.size (by simp; omega) ?_; intro v7 w7 ho7 hb7 hg7 hat7; have HO7 := Aside0.mk ho7; have HB7 := Aside0.mk hb7; clear ho7 hb7 hg7 hat7))
    go_ret
    exact ⟨_, rfl, HO7.out, HB7.out⟩
set_option maxRecDepth 100000 in
set_option maxHeartbeats 1600000 in
theorem spend_calls (g : Nat) (n : Int) (m : Value) (h0 : 0 ≤ n) (h1 : n ≤ 1000000) (w : World) (hg : w.heap[g]? = some (.cells #[.int .i64 n, .bool false, .int .i64 0, m] 59 (0, 0))) :
    Calls Try.prog 57 #[.pointer (some ⟨g, 0, none⟩)] w fun e w' => e = .returned (.tuple #[]) ∧ w'.heap[g]? = some (.cells #[.int .i64 (n + 1), .bool false, .int .i64 0, m] 59 (0, 0)) ∧ w.grownBy w' (some g) := by
  have c0 : w.cell? ⟨g, 0, none⟩ = some (.int .i64 n) := (blk_cell hg 0).trans rfl
  have c1 : w.cell? ⟨g, 1, none⟩ = some (.bool false) := (blk_cell hg 1).trans rfl
  have c2 : w.cell? ⟨g, 2, none⟩ = some (.int .i64 0) := (blk_cell hg 2).trans rfl
  have f0 := blk_frozen hg 0
  have f1 := blk_frozen hg 1
  have hu117 := Try.underlying56
  have hw1 : wrap64 (n + 1) = n + 1 := wrap64_in _ (by omega) (by omega)
  go_enter Try.func57, Try.ntmps57
  go_wp2_with fail
  have hg1 : (w.setCell ⟨g, 0, none⟩ (.int .i64 (n + 1))).heap[g]? = some (.cells #[.int .i64 (n + 1), .bool false, .int .i64 0, m] 59 (0, 0)) := blk_set hg 0 _
  have hgr : w.grownBy (w.setCell ⟨g, 0, none⟩ (.int .i64 (n + 1))) (some g) := grown_set w ⟨g, 0, none⟩ _
  clear c0 c1 c2 f0 f1 hg hw1
  generalize w.setCell ⟨g, 0, none⟩ (.int .i64 (n + 1)) = w1 at *
  have c0 : w1.cell? ⟨g, 0, none⟩ = some (.int .i64 (n + 1)) := (blk_cell hg1 0).trans rfl
  have c1 : w1.cell? ⟨g, 1, none⟩ = some (.bool false) := (blk_cell hg1 1).trans rfl
  have c2 : w1.cell? ⟨g, 2, none⟩ = some (.int .i64 0) := (blk_cell hg1 2).trans rfl
  have f1 := blk_frozen hg1 1
  have hd : decide ((0 : Int) < 0) = false := rfl
  go_region
  have hg2 : w1.drew.heap[g]? = some (.cells #[.int .i64 (n + 1), .bool false, .int .i64 0, m] 59 (0, 0)) := hg1
  go_end0
  refine ⟨rfl, ?_, ?_⟩
  · exact blk_set hg2 1 _
  · exact (hgr.trans (grown_set w1 ⟨g, 1, none⟩ _)).trans (grown_drew _ _)
end Go.Proofs.Ytoonepmnlgfikaa.D
/-! DiskWalk2 -/
namespace Go.Proofs.Ytoonepmnlgfikaa.D
open Go.RowKit Go.Proofs.YtoonepmnlgfikaaW.PrintWords Go.Proofs.YtoonepmnlgfikaaW.PrintLast Go.Proofs.YtoonepmnlgfikaaW.PrintMore Go.Proofs.Ytoonepmnlgfikaa.Base Go.Maps
set_option linter.unusedVariables false
set_option linter.unusedSimpArgs false

/-- A pointer to a file, or nil. -/
def pv : Option Nat → Value
  | none => .pointer none
  | some f => .pointer (some ⟨f, 0, none⟩)
def pe : Option Nat → DataW Unit
  | none => .lit (.int .i64 (-1))
  | some f => .lit (.int .i64 (f : Int))
def ptrE : Value → Option (DataW Unit × List MemPlace)
  | .pointer none => some (pe none, [])
  | .pointer (some ⟨f, 0, none⟩) => some (pe (some f), [])
  | _ => none
theorem ptrE_pv (p : Option Nat) : ptrE (pv p) = some (pe p, []) := by cases p <;> rfl
theorem pe_inj {p q : Option Nat} (h : pe p = pe q) : p = q := by
  cases p <;> cases q <;> simp [pe] at h ⊢ <;> omega
theorem ptrE_inv {v : Value} {d : DataW Unit} {ps : List MemPlace} (h : ptrE v = some (d, ps)) : ∃ p, v = pv p ∧ d = pe p := by
  unfold ptrE at h
  split at h
  · simp only [Option.some.injEq, Prod.mk.injEq] at h
    exact ⟨none, rfl, h.1.symm⟩
  · next f => simp only [Option.some.injEq, Prod.mk.injEq] at h; exact ⟨some f, rfl, h.1.symm⟩
  · cases h
def Files (w : World) (b n : Nat) (D : DataW Unit) : Prop := w.ownsMap Try.prog 9 ptrE b n D
theorem K9 : Keyed Try.prog 9 := string_keyed Try.underlying9
theorem look {w : World} {b n : Nat} {D : DataW Unit} (h : Files w b n D) (name : ByteArray) (hs : name.size ≤ maxLen) {p : Option Nat} (hp : D.atKey (.string name.data.toList) (pe none) = pe p) :
    (Instr.lookup 57 (.map (some b)) (.string name) false).run Try.prog w = .ok (pv p) w := by
  have hk := WideMaps.keyOf_string_mk Try.underlying9 hs
  obtain ⟨v, ps, hrun, hv⟩ := World.ownsMap.lookup h K9 Try.underlying57 (z := .pointer none) (zd := pe none) (zp := []) (Try.zeroValue80 w) rfl hk
  obtain ⟨q, rfl, hq⟩ := ptrE_inv hv
  rw [hrun, pe_inj (hp.symm.trans hq)]

def PowAt (w : World) (g b : Nat) (n : Int) : Prop := w.heap[g]? = some (.cells #[.int .i64 n, .bool false, .int .i64 0, .map (some b)] 59 (0, 0))
set_option maxRecDepth 100000 in
set_option maxHeartbeats 3200000 in
theorem call_no (g : Nat) (name : ByteArray) (hs : name.size ≤ maxLen) (there : Bool) (w : World) (h : nameB name = false) :
    Calls Try.prog 39 #[.pointer (some ⟨g, 0, none⟩), .bool true, .string name, .bool there] w fun e w' => e = .returned (.tuple #[.pointer none, .int .i64 1]) ∧ Drawn0 w w' := by
  have HG : Aside0 (disk_good.f (3 * name.size + 1) name = some false) := ⟨by rw [good_is name (by unfold maxLen at hs; omega) _ (Nat.le_refl _), h]⟩
  go_enter Try.func39, Try.ntmps39
  go_wp2_with fail
  refine (disk_good.calls _ _ _ _ HG.out).mono ?_
  rintro e w' ⟨rfl, ⟨n1, rfl⟩⟩
  go_wp2_with fail
  go_ret2
  exact ⟨rfl, n1, rfl⟩
set_option maxRecDepth 100000 in
set_option maxHeartbeats 3200000 in
theorem call_yes (g b cnt : Nat) (n : Int) (h0 : 0 ≤ n) (h1 : n ≤ 1000000) (D : DataW Unit) (name : ByteArray) (hs : name.size ≤ maxLen) (there : Bool) (w : World) (h : nameB name = true) (hg : PowAt w g b n) (hm : Files w b cnt D) (hgb : b ≠ g)
    (p : Option Nat) (hp : D.atKey (.string name.data.toList) (pe none) = pe p) :
    Calls Try.prog 39 #[.pointer (some ⟨g, 0, none⟩), .bool true, .string name, .bool there] w fun e w' =>
      e = .returned (.tuple (if there = true ∧ p = none then #[.pointer none, .int .i64 3] else #[pv p, .int .i64 0])) ∧ PowAt w' g b (n + 1) ∧ w.grownBy w' (some g) ∧ Files w' b cnt D := by
  have HG : Aside0 (disk_good.f (3 * name.size + 1) name = some true) := ⟨by rw [good_is name (by unfold maxLen at hs; omega) _ (Nat.le_refl _), h]⟩
  have hu119 := Try.underlying59
  have hu117 := Try.underlying56
  go_enter Try.func39, Try.ntmps39
  go_wp2_with fail
  refine (disk_good.calls _ _ _ _ HG.out).mono ?_
  rintro e w' ⟨rfl, ⟨n1, rfl⟩⟩
  go_wp2_with fail
  refine (spend_calls g n (.map (some b)) h0 h1 _ (by exact hg)).mono ?_
  rintro e w2 ⟨rfl, hg2, hgr2⟩
  have hgr : w.grownBy w2 (some g) := ⟨hgr2.os, hgr2.tape, hgr2.output, hgr2.size, hgr2.block⟩
  have hm2 : Files w2 b cnt D := World.ownsMap.kept hm hgr (by simpa using hgb)
  have hl := look hm2 name hs hp
  have c1 : w2.cell? ⟨g, 1, none⟩ = some (.bool false) := (blk_cell hg2 1).trans rfl
  have c3 : w2.cell? ⟨g, 3, none⟩ = some (.map (some b)) := (blk_cell hg2 3).trans rfl
  cases there <;> rcases p with _ | f
  all_goals simp only [pv] at hl
  all_goals go_wp2_with fail
  all_goals go_ret2
  all_goals refine ⟨?_, hg2, hgr, hm2⟩
  all_goals (first | rfl | (simp; done) | (exfalso; rename_i hx; first | exact absurd hx.1 (by decide) | exact absurd hx.2 (by simp)) | (exfalso; simp_all; done))
end Go.Proofs.Ytoonepmnlgfikaa.D
/-! DiskWalk3 -/
namespace Go.Proofs.Ytoonepmnlgfikaa.D
open Go.RowKit Go.Proofs.YtoonepmnlgfikaaW.PrintWords Go.Proofs.YtoonepmnlgfikaaW.PrintLast Go.Proofs.YtoonepmnlgfikaaW.PrintMore Go.Proofs.Ytoonepmnlgfikaa.Base Go.Maps
set_option linter.unusedVariables false
set_option linter.unusedSimpArgs false
set_option maxRecDepth 100000 in
theorem sync_no (g : Nat) (name : ByteArray) (hs : name.size ≤ maxLen) (w : World) (h : nameB name = false) :
    Calls Try.prog 12 #[.pointer (some ⟨g, 0, none⟩), .string name] w fun e w' => e = .returned (.int .i64 1) ∧ Drawn0 w w' := by
  go_enter Try.func12, Try.ntmps12
  go_wp2_with fail
  refine (call_no g name hs true w h).mono ?_
  rintro e w' ⟨rfl, ⟨n1, rfl⟩⟩
  go_wp2_with fail
  go_ret
  exact ⟨rfl, n1, rfl⟩
set_option maxRecDepth 100000 in
theorem sync_hit (g b cnt f : Nat) (v0 : Value) (A1 : Option Addr) (m1 c1 : Nat) (n : Int) (h0 : 0 ≤ n) (h1 : n ≤ 1000000) (D : DataW Unit) (name : ByteArray) (hs : name.size ≤ maxLen) (w : World) (h : nameB name = true) (hg : PowAt w g b n) (hm : Files w b cnt D) (hgb : b ≠ g)
    (hp : D.atKey (.string name.data.toList) (pe none) = pe (some f)) (hf : w.heap[f]? = some (.cells #[v0, .slice A1 m1 c1] 82 (0, 0))) :
    Calls Try.prog 12 #[.pointer (some ⟨g, 0, none⟩), .string name] w fun e w' => e = .returned (.int .i64 0) ∧ PowAt w' g b (n + 1) ∧ w'.heap[f]? = some (.cells #[.slice A1 m1 c1, .slice A1 m1 c1] 82 (0, 0)) ∧ (∀ i, i < w.heap.size → i ≠ g → i ≠ f → w'.heap[i]? = w.heap[i]?) ∧ w.heap.size ≤ w'.heap.size ∧ (∀ B, B ≤ g → B ≤ f → B ≤ w.heap.size → Below B w w') := by
  have hu122 := Try.underlying82
  have hfg : f ≠ g := blk_ne hf hg (by decide)
  go_enter Try.func12, Try.ntmps12
  go_wp2_with fail
  refine (call_yes g b cnt n h0 h1 D name hs true w h hg hm hgb (some f) hp).mono ?_
  rintro e w2 ⟨rfl, hg2, hgr, hm2⟩
  have hf2 : w2.heap[f]? = some (.cells #[v0, .slice A1 m1 c1] 82 (0, 0)) := blk_grown hf hgr (by simpa using hfg)
  have k1 : w2.cell? ⟨f, 1, none⟩ = some (.slice A1 m1 c1) := (blk_cell hf2 1).trans rfl
  have k0 : w2.cell? ⟨f, 0, none⟩ = some v0 := (blk_cell hf2 0).trans rfl
  have f0 := blk_frozen hf2 0
  rw [if_neg (by simp)]
  simp only [pv]
  go_wp2_with fail
  go_ret
  refine ⟨rfl, blk_far hg2 (Ne.symm hfg) _, blk_set hf2 0 _, fun i hi hig hif => (Below.heap_setCell _ _ _ i hif).trans (hgr.block i hi (by simpa using hig)), Nat.le_trans hgr.size (by simp [World.setCell]), fun B hBg hBf hBs => (pw_below_grown (Below.refl _ _) _ hBs hgr (fun k hk => by cases hk; exact hBg)).setCell hBf _⟩
theorem Files.of_block {w w' : World} {b n : Nat} {D : DataW Unit} (h : Files w b n D) (e : w'.heap[b]? = w.heap[b]?) : Files w' b n D := by
  obtain ⟨es, clock, hb, F, hs, hD⟩ := h
  exact ⟨es, clock, e.trans hb, F, hs, hD⟩
set_option maxRecDepth 100000 in
theorem append_no (g : Nat) (name : ByteArray) (hs : name.size ≤ maxLen) (A : Option Addr) (l c : Nat) (w : World) (h : nameB name = false) :
    Calls Try.prog 11 #[.pointer (some ⟨g, 0, none⟩), .string name, .slice A l c] w fun e w' => e = .returned (.int .i64 1) ∧ Drawn0 w w' := by
  go_enter Try.func11, Try.ntmps11
  go_wp2_with fail
  refine (call_no g name hs false w h).mono ?_
  rintro e w' ⟨rfl, ⟨n1, rfl⟩⟩
  go_wp2_with fail
  go_ret
  exact ⟨rfl, n1, rfl⟩
set_option maxRecDepth 100000 in
set_option maxHeartbeats 1600000 in
theorem append_new (g b cnt : Nat) (hcnt : cnt < 1000) (n : Int) (h0 : 0 ≤ n) (h1 : n ≤ 1000000) (D : DataW Unit) (name : ByteArray) (hs : name.size ≤ maxLen) (l : List Int) (A : Option Addr) (c : Nat) (hl : l.length ≤ 1048576) (w : World)
    (hC : ∀ W : World, (∀ i, i < w.heap.size → i ≠ g → i ≠ b → W.heap[i]? = w.heap[i]?) → Kd.C (Kd.int .u8) W A l.length l) (h : nameB name = true) (hg : PowAt w g b n) (hm : Files w b cnt D) (hgb : b ≠ g) (hp : D.atKey (.string name.data.toList) (pe none) = pe none) (hsz : Maps.size D < 16) :
    Calls Try.prog 11 #[.pointer (some ⟨g, 0, none⟩), .string name, .slice A l.length c] w fun e w' => e = .returned (.int .i64 0) ∧ PowAt w' g b (n + 1) ∧ ∃ f v, Files w' b (cnt + 1) (D.put (.string name.data.toList) (pe (some f))) ∧ w.heap.size ≤ f ∧
      w'.heap[f]? = some (.cells #[.slice none 0 0, v] 82 (0, 0)) ∧ Kd.R (Kd.int .u8) 5 w' w.heap.size (fun k => k ≠ f) v l ∧ (∀ i, i < w.heap.size → i ≠ g → i ≠ b → w'.heap[i]? = w.heap[i]?) ∧ w.heap.size ≤ w'.heap.size ∧ (∀ B, B ≤ g → B ≤ b → B ≤ w.heap.size → Below B w w') := by
  have hu122 := Try.underlying82
  have hu119 := Try.underlying59
  have HC := Aside0.mk hC
  clear hC
  go_enter Try.func11, Try.ntmps11
  go_wp2_with fail
  refine (call_yes g b cnt n h0 h1 D name hs false w h hg hm hgb none hp).mono ?_
  rintro e w2 ⟨rfl, hg2, hgr, hm2⟩
  rw [if_neg (by simp)]
  simp only [pv]
  have hb1 : decide ((1048576 : Int) < (l.length : Int)) = false := decide_eq_false (by omega)
  have k3 : w2.cell? ⟨g, 3, none⟩ = some (.map (some b)) := (blk_cell hg2 3).trans rfl
  have hlen := World.ownsMap.len (w := w2) hm2 Try.underlying57 3
  have hb2 : ((Maps.size D : Int) == 16) = false := beq_eq_false_iff_ne.2 (by omega)
  have hm3 : Files (w2.alloc (.cells #[.slice none 0 0, .slice none 0 0] 82)) b cnt D := World.ownsMap.alloc hm2 _
  obtain ⟨w4, hrun4, hm4, hgr4⟩ := World.ownsMap.update hm3 K9 Try.underlying57 (by unfold maxLen; omega) (WideMaps.keyOf_string_mk Try.underlying9 hs) (ptrE_pv (some w2.heap.size))
  simp only [pv] at hrun4
  have hg3 : (w2.alloc (.cells #[.slice none 0 0, .slice none 0 0] 82)).cell? ⟨g, 3, none⟩ = some (.map (some b)) := (blk_cell (((World.grownBy_alloc w2 _ none).block g (blk_lt hg2) (by simp)).trans hg2) 3).trans rfl
  have hbl : b < w2.heap.size := World.ownsMap.lt hm2
  have hf4 : w4.heap[w2.heap.size]? = some (.cells #[.slice none 0 0, .slice none 0 0] 82 (0, 0)) := (hgr4.block _ (by simp) (by simp; omega)).trans (heap_alloc_new w2 _)
  have hg4 : w4.heap[g]? = some (.cells #[.int .i64 (n + 1), .bool false, .int .i64 0, .map (some b)] 59 (0, 0)) := (hgr4.block g (by have := blk_lt hg2; simp; omega) (by simpa using Ne.symm hgb)).trans ((World.grownBy_alloc w2 _ none).block g (blk_lt hg2) (by simp) |>.trans hg2)
  have hkeep : ∀ i, i < w.heap.size → i ≠ g → i ≠ b → w4.heap[i]? = w.heap[i]? := fun i hi hig hib =>
    (hgr4.block i (by have := hgr.size; simp; omega) (by simpa using hib)).trans (((World.grownBy_alloc w2 _ none).block i (by have := hgr.size; omega) (by simp)).trans (hgr.block i hi (by simpa using hig)))
  have hsize : w.heap.size ≤ w2.heap.size := hgr.size
  have hs4 : w2.heap.size < w4.heap.size := blk_lt hf4
  have k4 : w4.cell? ⟨w2.heap.size, 1, none⟩ = some (.slice none 0 0) := (blk_cell hf4 1).trans rfl
  have HBL : Aside0 (∀ B, B ≤ g → B ≤ b → B ≤ w.heap.size → Below B w w4) := ⟨fun B hBg hBb hBs => pw_below_grown ((pw_below_grown (Below.refl _ _) _ hBs hgr (fun k hk => by cases hk; exact hBg)).alloc (Nat.le_trans hBs hgr.size) _) _ (by simp; have := hgr.size; omega) hgr4 (fun k hk => by cases hk; exact hBb)⟩
  have HHG4 := Aside0.mk hg4
  have HHF4 := Aside0.mk hf4
  have HKEEP := Aside0.mk hkeep
  have HM4 := Aside0.mk hm4
  clear hm4 hf4 hg4 hkeep hm2 hm3 hgr hgr4
  go_wp2_with fail
  clear hrun4 hlen hb1 hb2 hg3
  generalize w2.heap.size = f at *
  refine (clone_nil w4).mono ?_
  rintro e w5 ⟨rfl, ⟨n5, rfl⟩⟩
  have HC4 : Aside0 (Kd.C (Kd.int .u8) w4 A l.length l) := ⟨HC.out w4 HKEEP.out⟩
  have HLL : Aside0 ((0 + l.length) * 1 ≤ 140737488355328) := ⟨by omega⟩
  go_wp2_with (first | ((with_reducible refine gate_builtin (b := .append) (xs := #[.tmp 67, .tmp 68]) rfl ?_); at_builtin; refine Kd.R_append_rows (Kd.int .u8) (w0 := w4) w4.heap.size rfl (.tmp 67) (.tmp 68) 27 5 (.int .u8 0) 1 rfl Try.underlying27 info5 rfl (by decide) (by decide) (.slice none 0 0) [] l _ _ _ (fun _ => True) (fun _ => False) rfl rfl (Kd.R_nil _ _ _ _ _) (Kd.C_drewN HC4.out _) (fun _ _ h => h) (fun _ h => h.elim) (fun _ _ => trivial) (pw_below_drewN (Below.refl _ _) _) (by simp) HLL.out ?_; intro v7 w7 ho7 hb7 hg7 hat7; obtain ⟨A7, c7, rfl, hl7, hC7⟩ := Kd.R_reads ho7; have hf7 := (hb7.block f hs4).trans HHF4.out; have k7 : w7.cell? ⟨f, 1, none⟩ = some (.slice none 0 0) := (blk_cell hf7 1).trans rfl; have f7 := blk_frozen hf7 1; have HO7 := Aside0.mk ho7; have HB7 := Aside0.mk hb7; have HF7 := Aside0.mk hf7; clear ho7 hb7 hg7 hat7 hl7 hC7 hf7))
  go_ret
  have hfg : f ≠ g := blk_ne HHF4.out HHG4.out (by decide)
  have hs7 : w4.heap.size ≤ w7.heap.size := HB7.out.size
  have hset : ∀ i, i ≠ f → (w7.setCell ⟨f, 1, none⟩ (.slice A7 l.length c7)).heap[i]? = w7.heap[i]? := fun i hi => Below.heap_setCell _ _ _ i hi
  refine ⟨rfl, (hset g (Ne.symm hfg)).trans ((HB7.out.block g (blk_lt HHG4.out)).trans HHG4.out), f, _, Files.of_block HM4.out ((hset b (by omega)).trans (HB7.out.block b (by omega))), hsize, blk_set HF7.out 1 _, ?_, ?_, ?_, ?_⟩
  · have h1 := Kd.R_mono (Kd.R_bound HO7.out) (fun k hk => show k ≠ f by have := hk.2.1; omega)
    exact Kd.R_step (Kd.R_lower h1 (by omega)) (fun k hk _ => hset k hk)
  · intro i hi hig hib
    exact (hset i (by omega)).trans ((HB7.out.block i (by omega)).trans (HKEEP.out i hi hig hib))
  · have : (w7.setCell ⟨f, 1, none⟩ (.slice A7 l.length c7)).heap.size = w7.heap.size := by simp [World.setCell]
    omega
  · intro B hBg hBb hBs
    exact ((HBL.out B hBg hBb hBs).trans (HB7.out.mono (by omega))).setCell (by show B ≤ f; omega) _
end Go.Proofs.Ytoonepmnlgfikaa.D
/-! DiskWalk4 -/
namespace Go.Proofs.Ytoonepmnlgfikaa.D
open Go.RowKit Go.Proofs.YtoonepmnlgfikaaW.PrintWords Go.Proofs.YtoonepmnlgfikaaW.PrintLast Go.Proofs.YtoonepmnlgfikaaW.PrintMore Go.Proofs.Ytoonepmnlgfikaa.Base Go.Maps
set_option linter.unusedVariables false
set_option linter.unusedSimpArgs false
/-- 'm[k] = v' in a region that draws its order. -/
theorem mapUpdate_step {P : Program} {ops : Array Oper} {o : Oper} {a : Act} {W : World} {Kc : Act → World → Prop} {Q : Exit → Act → World → Prop} (hw : Region.wanted o (yielded ops a.tmps) = true) (m x v : Operand) (t : TypeId) (hop : o.op = Op.mapUpdate t m x v)
    (k e : TypeId) (K : Keyed P k) (ht : P.underlying t = some (.map k e)) (R : Value → Option (DataW Unit × List MemPlace)) (b n : Nat) (D : DataW Unit)
    (hm : a.eval m = .map (some b)) (hown : W.ownsMap P k R b n D) (hn : n < maxLen) (key val : Value) (kl : Lit) (hx : a.eval x = key) (hv : a.eval v = val) (hkey : keyOf P k key = some kl)
    (d : DataW Unit) (ps : List MemPlace) (hval : R val = some (d, ps))
    (h : ∀ w', w'.ownsMap P k R b (n + 1) (D.put kl d) → W.grownBy w' (some b) → Kc (a.put o.dst undef) w') :
    if Region.wanted o (yielded ops a.tmps) = true then Oper.wp P o a W Kc Q else Kc (a.put o.dst undef) W := by
  rw [if_pos hw]
  obtain ⟨w', hrun, r1, r2⟩ := hown.update K ht hn hkey hval
  unfold Oper.wp
  simp [execOp, hop, hm, hx, hv, hrun, Result.andThen]
  exact h w' r1 r2
set_option maxRecDepth 100000 in
set_option maxHeartbeats 3200000 in
theorem chosen {α : Nat → World → Prop} (h : ∀ n, ∃ w, α n w) : ∃ W : Nat → World, ∀ n, α n (W n) := ⟨fun n => Classical.choose (h n), fun n => Classical.choose_spec (h n)⟩
set_option maxRecDepth 100000 in
set_option maxHeartbeats 3200000 in
theorem new_bad (s : Nat) (name : ByteArray) (hs : name.size ≤ maxLen) (w : World) (hw : w.heap[s]? = some (.cells #[.string name, .slice none 0 0] 40 (0, 0))) (h : nameB name = false) :
    Calls Try.prog 9 #[.slice (some ⟨s, 0, none⟩) 1 1] w fun e w' => e = .returned (.tuple #[.pointer none, .int .i64 1]) ∧ Below w.heap.size w w' := by
  have hmm := @run_makeMap Try.prog
  have hu119 := Try.underlying59
  have hu117 := Try.underlying56
  have hu90 := Try.underlying40
  have HG : Aside0 (disk_good.f (3 * name.size + 1) name = some false) := ⟨by rw [good_is name (by unfold maxLen at hs; omega) _ (Nat.le_refl _), h]⟩
  have hlt := blk_lt hw
  go_enter Try.func9, Try.ntmps9
  go_wp2_with fail
  have hB : Below w.heap.size w ((w.alloc (.map #[] 0)).alloc (.cells #[.int .i64 0, .bool false, .int .i64 0, .map (some w.heap.size)] 59)) := ((Below.refl _ _).alloc (Nat.le_refl _) _).alloc (by simp) _
  have hw1 := (hB.block s hlt).trans hw
  generalize (w.alloc (.map #[] 0)).alloc (.cells #[.int .i64 0, .bool false, .int .i64 0, .map (some w.heap.size)] 59) = w1 at *
  go_loopg [5, 6, 12] 0 (fun kq v5 v6 v12 w' => v12 = .int .i64 0 ∧ w' = w1)
  case atStart => exact ⟨rfl, rfl⟩
  case round =>
    obtain ⟨rfl, rfl⟩ := hrel
    have k0 : wr.cell? ⟨s, 0, none⟩ = some (.string name) := (blk_cell hw1 0).trans rfl
    have k1 : wr.cell? ⟨s, 1, none⟩ = some (.slice none 0 0) := (blk_cell hw1 1).trans rfl
    go_wp2_with fail
    have hn := heap_alloc_new wr (.cells #[.string name, .slice none 0 0] 40)
    have hB2 : Below w.heap.size w (wr.alloc (.cells #[.string name, .slice none 0 0] 40)) := hB.alloc hB.size _
    generalize wr.alloc (.cells #[.string name, .slice none 0 0] 40) = w2 at *
    generalize wr.heap.size = q at *
    have k0' : w2.cell? ⟨q, 0, none⟩ = some (.string name) := (blk_cell hn 0).trans rfl
    have k1' : w2.cell? ⟨q, 1, none⟩ = some (.slice none 0 0) := (blk_cell hn 1).trans rfl
    have hd : decide ((0 : Int) < 0) = false := rfl
    go_quiet (first | (go_at_call 37; refine (disk_good.calls _ _ _ _ HG.out).mono ?_; rintro e w' ⟨rfl, ⟨nd, rfl⟩⟩; (first | exact ⟨rfl, _, World.drewN_drewN _ _ _⟩ | exact ⟨rfl, _, rfl⟩ | (trace_state; fail))))
    go_wp2_with fail
    go_ret2
    exact ⟨rfl, pw_below_drewN hB2 _⟩
/-- A loop of one round: ahead of it, and behind it. -/
def NewI (w w1 : World) (k : Nat) (v : Value) (w' : World) : Prop := (k = 1 ∧ v = .int .i64 0 ∧ w' = w1) ∨ (k = 0 ∧ v = .int .i64 1 ∧ Below w.heap.size w w')
set_option maxRecDepth 100000 in
set_option maxHeartbeats 3200000 in
theorem new_good (s : Nat) (name : ByteArray) (hs : name.size ≤ maxLen) (w : World) (hw : w.heap[s]? = some (.cells #[.string name, .slice none 0 0] 40 (0, 0))) (h : nameB name = true) :
    Calls Try.prog 9 #[.slice (some ⟨s, 0, none⟩) 1 1] w fun e w' => (∃ g, e = .returned (.tuple #[.pointer (some ⟨g, 0, none⟩), .int .i64 0])) ∧ Below w.heap.size w w' := by
  have hmm := @run_makeMap Try.prog
  have hu119 := Try.underlying59
  have hu117 := Try.underlying56
  have hu90 := Try.underlying40
  have HG : Aside0 (disk_good.f (3 * name.size + 1) name = some true) := ⟨by rw [good_is name (by unfold maxLen at hs; omega) _ (Nat.le_refl _), h]⟩
  have hlt := blk_lt hw
  go_enter Try.func9, Try.ntmps9
  go_wp2_with fail
  have hB : Below w.heap.size w ((w.alloc (.map #[] 0)).alloc (.cells #[.int .i64 0, .bool false, .int .i64 0, .map (some w.heap.size)] 59)) := ((Below.refl _ _).alloc (Nat.le_refl _) _).alloc (by simp) _
  have hw1 := (hB.block s hlt).trans hw
  have hm1 : Files ((w.alloc (.map #[] 0)).alloc (.cells #[.int .i64 0, .bool false, .int .i64 0, .map (some w.heap.size)] 59)) w.heap.size 0 (.map []) := World.ownsMap.alloc (World.ownsMap_made w _ _ _) _
  have hg1 : ((w.alloc (.map #[] 0)).alloc (.cells #[.int .i64 0, .bool false, .int .i64 0, .map (some w.heap.size)] 59)).heap[w.heap.size + 1]? = some (.cells #[.int .i64 0, .bool false, .int .i64 0, .map (some w.heap.size)] 59 (0, 0)) := by
    have h1 := heap_alloc_new (w.alloc (.map #[] 0)) (.cells #[.int .i64 0, .bool false, .int .i64 0, .map (some w.heap.size)] 59)
    simpa using h1
  generalize (w.alloc (.map #[] 0)).alloc (.cells #[.int .i64 0, .bool false, .int .i64 0, .map (some w.heap.size)] 59) = w1 at *
  go_loopg [5, 6, 12] 1 (fun kq v5 v6 v12 w' => NewI w w1 kq v12 w')
  case atStart => exact .inl ⟨rfl, rfl, rfl⟩
  case round =>
   rcases hrel with ⟨rfl, rfl, rfl⟩ | ⟨rfl, rfl, hbb⟩
   rotate_left
   · have HBB := Aside0.mk hbb
     clear hbb
     have hd1 : decide ((1 : Int) < 1) = false := rfl
     have hd2 : decide ((16 : Int) < 1) = false := rfl
     go_wp2_with fail
     go_ret2
     exact ⟨⟨_, rfl⟩, HBB.out⟩
   · skip
     have k0 : wr.cell? ⟨s, 0, none⟩ = some (.string name) := (blk_cell hw1 0).trans rfl
     have k1 : wr.cell? ⟨s, 1, none⟩ = some (.slice none 0 0) := (blk_cell hw1 1).trans rfl
     go_wp2_with fail
     have hn := heap_alloc_new wr (.cells #[.string name, .slice none 0 0] 40)
     have hB2 : Below w.heap.size w (wr.alloc (.cells #[.string name, .slice none 0 0] 40)) := hB.alloc hB.size _
     have hm2 : Files (wr.alloc (.cells #[.string name, .slice none 0 0] 40)) w.heap.size 0 (.map []) := World.ownsMap.alloc hm1 _
     have hg2 := ((World.grownBy_alloc wr (.cells #[.string name, .slice none 0 0] 40) none).block _ (blk_lt hg1) (by simp)).trans hg1
     have hgq : w.heap.size + 1 < wr.heap.size := blk_lt hg1
     clear hm1 hg1 hw hw1 hlt hB
     generalize wr.alloc (.cells #[.string name, .slice none 0 0] 40) = w2 at *
     generalize wr.heap.size = q at *
     have k0' : w2.cell? ⟨q, 0, none⟩ = some (.string name) := (blk_cell hn 0).trans rfl
     have k1' : w2.cell? ⟨q, 1, none⟩ = some (.slice none 0 0) := (blk_cell hn 1).trans rfl
     have k2' : w2.cell? ⟨w.heap.size + 1, 3, none⟩ = some (.map (some w.heap.size)) := (blk_cell hg2 3).trans rfl
     have hd : decide ((0 : Int) < 0) = false := rfl
     go_quiet (first | (go_at_call 37; refine (disk_good.calls _ _ _ _ HG.out).mono ?_; rintro e w' ⟨rfl, ⟨nd, rfl⟩⟩; (first | exact ⟨rfl, _, World.drewN_drewN _ _ _⟩ | exact ⟨rfl, _, rfl⟩)))
     go_upto_region 7 with (fail)
     have hm3 : Files (w2.drewN nq) w.heap.size 0 (.map []) := Files.of_block hm2 rfl
     have hB3 : Below w.heap.size w (w2.drewN nq) := pw_below_drewN hB2 _
     have hg3 : (w2.drewN nq).heap[w.heap.size + 1]? = some (.cells #[.int .i64 0, .bool false, .int .i64 0, .map (some w.heap.size)] 59 (0, 0)) := hg2
     have hn3 : (w2.drewN nq).heap[q]? = some (.cells #[.string name, .slice none 0 0] 40 (0, 0)) := hn
     clear k0 k1 k0' k1' k2' hm2 hB2 hg2 hn
     generalize w2.drewN nq = w3 at *
     have hbl : w.heap.size < w3.heap.size := World.ownsMap.lt hm3
     have hkey := WideMaps.keyOf_string_mk Try.underlying9 hs
     have k2' : w3.cell? ⟨w.heap.size + 1, 3, none⟩ = some (.map (some w.heap.size)) := (blk_cell hg3 3).trans rfl
     have k0' : w3.cell? ⟨q, 0, none⟩ = some (.string name) := (blk_cell hn3 0).trans rfl
     have k1' : w3.cell? ⟨q, 1, none⟩ = some (.slice none 0 0) := (blk_cell hn3 1).trans rfl
     have hup : ∀ n : Nat, ∃ w5, Sem.run Try.prog (Instr.mapUpdate 57 (.map (some w.heap.size)) (.string name) (.pointer (some ⟨w3.heap.size, 0, none⟩))) ((w3.drewN n).alloc (.cells #[.slice none 0 0, .slice none 0 0] 82)) = .ok () w5 ∧ Below w.heap.size w w5 ∧
         w5.cell? ⟨w.heap.size + 1, 3, none⟩ = some (.map (some w.heap.size)) ∧ w5.cell? ⟨q, 0, none⟩ = some (.string name) ∧ w5.cell? ⟨q, 1, none⟩ = some (.slice none 0 0) := fun n => by
       have hm4 : Files ((w3.drewN n).alloc (.cells #[.slice none 0 0, .slice none 0 0] 82)) w.heap.size 0 (.map []) := World.ownsMap.alloc (Files.of_block hm3 rfl) _
       obtain ⟨w5, hrun5, hm5, hgr5⟩ := World.ownsMap.update hm4 K9 Try.underlying57 (by unfold maxLen; omega) hkey (ptrE_pv (some w3.heap.size))
       have hB4 : Below w3.heap.size w3 ((w3.drewN n).alloc (.cells #[.slice none 0 0, .slice none 0 0] 82)) := below_alloc (pw_below_drewN (Below.refl _ _) n) _
       have e1 := (hgr5.block (w.heap.size + 1) (Nat.lt_of_lt_of_le (blk_lt hg3) hB4.size) (by simp)).trans ((hB4.block _ (blk_lt hg3)).trans hg3)
       have e2 := (hgr5.block q (Nat.lt_of_lt_of_le (blk_lt hn3) hB4.size) (by simp; omega)).trans ((hB4.block _ (blk_lt hn3)).trans hn3)
       exact ⟨w5, hrun5, pw_below_grown (below_step hB3 hB4) _ (below_step hB3 hB4).size hgr5 (fun k hk => by cases hk; exact Nat.le_refl _), (blk_cell e1 3).trans rfl, (blk_cell e2 0).trans rfl, (blk_cell e2 1).trans rfl⟩
     obtain ⟨W5, HUP⟩ := chosen hup
     have hrun5 := fun n => (HUP n).1
     have HBEL := Aside0.mk fun n => (HUP n).2.1
     have c35 := fun n => (HUP n).2.2.1
     have c05 := fun n => (HUP n).2.2.2.1
     have c15 := fun n => (HUP n).2.2.2.2
     clear hm3 hup HUP
     go_region_held3 (fun w' => w'.cell? ⟨w.heap.size + 1, 3, none⟩ = some (.map (some w.heap.size)) ∧ w'.cell? ⟨q, 0, none⟩ = some (.string name) ∧ w'.cell? ⟨q, 1, none⟩ = some (.slice none 0 0)) (go_keep)
         ((go_at_call 38; refine (clone_nil _).mono ?_; rintro e w' ⟨rfl, ⟨n5, rfl⟩⟩))
     go_wp2_with fail
     go_roundg 0
     case measure => omega
     case rel => exact .inr ⟨rfl, rfl, HBEL.out _⟩
end Go.Proofs.Ytoonepmnlgfikaa.D
/-! DiskWalk5 -/
namespace Go.Proofs.Ytoonepmnlgfikaa.D
open Go.RowKit Go.Proofs.YtoonepmnlgfikaaW.PrintWords Go.Proofs.YtoonepmnlgfikaaW.PrintLast Go.Proofs.YtoonepmnlgfikaaW.PrintMore Go.Proofs.Ytoonepmnlgfikaa.Base Go.Maps
set_option linter.unusedVariables false
set_option linter.unusedSimpArgs false
set_option maxRecDepth 100000 in
set_option maxHeartbeats 1600000 in
theorem read_hit (g b cnt f : Nat) (v0 : Value) (A1 : Option Addr) (l : List Int) (c1 : Nat) (n : Int) (D : DataW Unit) (name : ByteArray) (hs : name.size ≤ maxLen) (w : World) (h : nameB name = true) (hg : PowAt w g b n) (hm : Files w b cnt D)
    (hp : D.atKey (.string name.data.toList) (pe none) = pe (some f)) (hf : w.heap[f]? = some (.cells #[v0, .slice A1 l.length c1] 82 (0, 0))) (hl : l.length ≤ 140737488355328) (hC : Kd.C (Kd.int .u8) w A1 l.length l) :
    Calls Try.prog 20 #[.pointer (some ⟨g, 0, none⟩), .string name] w fun e w' => ∃ v, e = .returned (.tuple #[v, .int .i64 0]) ∧ Kd.R (Kd.int .u8) 5 w' w.heap.size (fun _ => True) v l ∧ Below w.heap.size w w' := by
  have HG : Aside0 (disk_good.f (3 * name.size + 1) name = some true) := ⟨by rw [good_is name (by unfold maxLen at hs; omega) _ (Nat.le_refl _), h]⟩
  have hu119 := Try.underlying59
  have hu117 := Try.underlying56
  have hu122 := Try.underlying82
  have hlk := look hm name hs hp
  simp only [pv] at hlk
  have c3 : w.cell? ⟨g, 3, none⟩ = some (.map (some b)) := (blk_cell hg 3).trans rfl
  have c1' : w.cell? ⟨g, 1, none⟩ = some (.bool false) := (blk_cell hg 1).trans rfl
  have k1 : w.cell? ⟨f, 1, none⟩ = some (.slice A1 l.length c1) := (blk_cell hf 1).trans rfl
  have HC := Aside0.mk hC
  have HL := Aside0.mk hl
  clear hm hp hg hf hC hl
  go_enter Try.func20, Try.ntmps20
  go_wp2_with fail
  refine (disk_good.calls _ _ _ _ HG.out).mono ?_
  rintro e w' ⟨rfl, ⟨n1, rfl⟩⟩
  go_wp2_with fail
  refine (clone_calls l A1 c1 HL.out _ (Kd.C_drewN HC.out _)).mono ?_
  rintro e w2 ⟨v, rfl, hr, hb⟩
  have HR := Aside0.mk hr
  have HB := Aside0.mk hb
  clear hr hb
  go_wp2_with fail
  go_ret2
  exact ⟨v, rfl, HR.out, below_step (pw_below_drewN (Below.refl _ _) n1) HB.out⟩
def abc : List Int := [97, 98, 99]
theorem C_abc (X : World) (q : Nat) (h : X.heap[q]? = some (.cells #[.int .u8 97, .int .u8 98, .int .u8 99] 5 (3, 4))) : Kd.C (Kd.int .u8) X (some ⟨q, 0, none⟩) abc.length abc :=
  Kd.C_of_reads (enc := Value.int .u8) (d := (0 : Int)) ⟨rfl, by decide, fun _ => ⟨_, rfl, fun j hj => by
    rw [add_plain, cell_of_row X q j _ 5 (3, 4) h]
    match j, hj with
    | 0, _ => rfl
    | 1, _ => rfl
    | 2, _ => rfl⟩⟩
theorem C_abc_alloc (W : World) : Kd.C (Kd.int .u8) (W.alloc (.cells #[.int .u8 97, .int .u8 98, .int .u8 99] 5 (3, 4))) (some ⟨W.heap.size, 0, none⟩) abc.length abc := C_abc _ _ (heap_alloc_new W _)
theorem nameA : nameB ⟨#[97]⟩ = true := by decide +kernel
theorem at_first (f : Nat) (l : List UInt8) : ((DataW.map []).put (.string l) (pe (some f))).atKey (.string l) (pe none) = pe (some f) :=
  atKey_put_same ⟨_, rfl⟩ (by trivial) _ _
theorem at_none (k : Lit) : (DataW.map [] : DataW Unit).atKey k (pe none) = pe none := by
  simp [DataW.atKey]
theorem Files_empty {w : World} {b : Nat} (h : w.heap[b]? = some (.map #[] 0)) : Files w b 0 (.map []) := ⟨#[], 0, h, ⟨by simp, Go.MapKept.stamped_empty 0, by simp⟩, Nat.le_refl _, rfl⟩
theorem eq_abc : lecternref0_EqBytes.f 10 abc abc = some true := by decide +kernel
set_option maxRecDepth 100000 in
set_option maxHeartbeats 1600000 in
theorem wakes_true (w : World) : Calls Try.prog 14 #[] w fun e w' => e = .returned (.bool true) ∧ Below w.heap.size w w' := by
  have hA : Aside0 (nameB ⟨#[97]⟩ = true) := ⟨nameA⟩
  go_enter Try.func14, Try.ntmps14
  go_wp2_with fail
  refine (new_nil w).mono ?_
  rintro e w1 ⟨g, b, rfl, hgw, hbw, hb1, hg1, hbel⟩
  have HG1 := Aside0.mk hg1
  have HB1 := Aside0.mk hb1
  have HBEL := Aside0.mk hbel
  have HGB : Aside0 (b ≠ g) := ⟨by rintro rfl; rw [hb1] at hg1; cases hg1⟩
  clear hg1 hb1 hbel
  go_wp2_with fail
  refine (lecternlaw18_num.calls _ _ _ rfl).mono ?_
  rintro e w' ⟨rfl, ⟨n1, rfl⟩⟩
  have hcv : Sem.run Try.prog (convert 27 27 (.slice (some ⟨w1.heap.size, 0, none⟩) 3 3)) ((w1.drewN n1).alloc (.cells #[.int .u8 97, .int .u8 98, .int .u8 99] 5)) = .ok (.slice (some ⟨w1.heap.size, 0, none⟩) 3 3) ((w1.drewN n1).alloc (.cells #[.int .u8 97, .int .u8 98, .int .u8 99] 5 (3, 4))) :=
    Go.Lib.run_convert_bytes_const (P := Try.prog) (w1.drewN n1) 27 5 #[.int .u8 97, .int .u8 98, .int .u8 99] 3 3 Try.underlying27 Try.underlying5
  go_wp2_with fail
  clear hcv
  have hC2 := C_abc_alloc (w1.drewN n1)
  have hB2 : Below w1.heap.size w1 ((w1.drewN n1).alloc (.cells #[.int .u8 97, .int .u8 98, .int .u8 99] 5 (3, 4))) := below_alloc (pw_below_drewN (Below.refl _ _) n1) _
  have hq : ((w1.drewN n1).alloc (.cells #[.int .u8 97, .int .u8 98, .int .u8 99] 5 (3, 4))).heap[w1.heap.size]? = some (.cells #[.int .u8 97, .int .u8 98, .int .u8 99] 5 (3, 4)) := heap_alloc_new (w1.drewN n1) _
  have hg2 : PowAt ((w1.drewN n1).alloc (.cells #[.int .u8 97, .int .u8 98, .int .u8 99] 5 (3, 4))) g b 0 := (hB2.block g (blk_lt HG1.out)).trans HG1.out
  have hm1 : Files ((w1.drewN n1).alloc (.cells #[.int .u8 97, .int .u8 98, .int .u8 99] 5 (3, 4))) b 0 (.map []) := Files_empty ((hB2.block b (blk_lt HB1.out)).trans HB1.out)
  have hbl : b < w1.heap.size := blk_lt HB1.out
  have hgl : g < w1.heap.size := blk_lt HG1.out
  generalize (w1.drewN n1).alloc (.cells #[.int .u8 97, .int .u8 98, .int .u8 99] 5 (3, 4)) = w2 at *
  refine (append_new g b 0 (by decide) 0 (by decide) (by decide) (.map []) ⟨#[97]⟩ (by decide) abc (some ⟨w1.heap.size, 0, none⟩) 3 (by decide) w2
    (fun W hW => C_abc W _ ((hW w1.heap.size (blk_lt hq) (by omega) (by omega)).trans hq)) nameA hg2 hm1 HGB.out (at_none _) (by decide)).mono ?_
  rintro e w3 ⟨rfl, hg3, f, v, hm3, hf3l, hf3, hr3, hk3, hs3, hbw3⟩
  obtain ⟨A3, c3, rfl, hl3, hC3⟩ := Kd.R_reads hr3
  have HG3 := Aside0.mk hg3
  have HM3 := Aside0.mk hm3
  have HF3 := Aside0.mk hf3
  have HC3 := Aside0.mk hC3
  have HK3 := Aside0.mk hk3
  have HS2 := Aside0.mk hB2
  have HW3 := Aside0.mk hbw3
  clear hbw3
  clear hg3 hm3 hf3 hr3 hC3 hk3 hB2 hC2 hq hg2 hm1 hl3
  go_wp2_with fail
  refine (lecternlaw18_num.calls _ _ _ rfl).mono ?_
  rintro e w' ⟨rfl, ⟨n3, rfl⟩⟩
  go_wp2_with fail
  refine (read_hit g b (0 + 1) f _ A3 abc c3 _ _ ⟨#[97]⟩ (by decide) _ nameA (by exact HG3.out) (by exact HM3.out) (at_first f _) (by exact HF3.out) (by decide) (by exact HC3.out)).mono ?_
  rintro e w4 ⟨v4, rfl, hr4, hb4⟩
  have HR4 := Aside0.mk hr4
  have HB4 := Aside0.mk hb4
  clear hr4 hb4
  go_wp2_with fail
  refine (lecternlaw18_num.calls _ _ _ rfl).mono ?_
  rintro e w' ⟨rfl, ⟨n5, rfl⟩⟩
  have hcv : Sem.run Try.prog (convert 27 27 (.slice (some ⟨w4.heap.size, 0, none⟩) 3 3)) ((w4.drewN n5).alloc (.cells #[.int .u8 97, .int .u8 98, .int .u8 99] 5)) = .ok (.slice (some ⟨w4.heap.size, 0, none⟩) 3 3) ((w4.drewN n5).alloc (.cells #[.int .u8 97, .int .u8 98, .int .u8 99] 5 (3, 4))) :=
    Go.Lib.run_convert_bytes_const (P := Try.prog) (w4.drewN n5) 27 5 #[.int .u8 97, .int .u8 98, .int .u8 99] 3 3 Try.underlying27 Try.underlying5
  go_wp2_with fail
  clear hcv
  have hC6 := C_abc_alloc (w4.drewN n5)
  have hB6 : Below w4.heap.size w4 ((w4.drewN n5).alloc (.cells #[.int .u8 97, .int .u8 98, .int .u8 99] 5 (3, 4))) := below_alloc (pw_below_drewN (Below.refl _ _) n5) _
  generalize (w4.drewN n5).alloc (.cells #[.int .u8 97, .int .u8 98, .int .u8 99] 5 (3, 4)) = w6 at *
  obtain ⟨A4, c4, rfl, hl4, hC4⟩ := Kd.R_reads HR4.out
  refine (lecternref0_EqBytes.calls 10 A4 c4 abc (some ⟨w4.heap.size, 0, none⟩) 3 abc true _ (Kd.C_below hC4 hB6) hl4 hC6 (by decide) eq_abc).mono ?_
  rintro e w' ⟨rfl, hd7⟩
  have HD7 := Aside0.mk hd7
  have HB6 := Aside0.mk hB6
  clear hd7 hB6 hC6 hC4
  go_wp2_with fail
  go_ret
  have b2 : Below w.heap.size w w2 := below_step HBEL.out HS2.out
  have b3 : Below w.heap.size w w3 := b2.trans (HW3.out _ hgw hbw b2.size)
  have b4 : Below w.heap.size w w4 := below_step (pw_below_drewN b3 n3) HB4.out
  exact ⟨rfl, below_step (below_step b4 HB6.out) HD7.out.below⟩
end Go.Proofs.Ytoonepmnlgfikaa.D
