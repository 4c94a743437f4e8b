/- Disk: call, Append, Sync, walked over a map that reads as a datum. -/
import Derived.Test.YtoonepmnlgfikaaDx2
import Derived.Test.YtoonepmnlgfikaaDiskWalk
import Derived.Maps.Views
import Derived.StringKeys
namespace Go.Proofs.Ytoonepmnlgfikaa.D
open Go.RowKit Go.Proofs.YtoonepmnlgfikaaW.PrintWords Go.Proofs.YtoonepmnlgfikaaW.PrintLast Go.Proofs.YtoonepmnlgfikaaW.PrintMore Go.Proofs.Ytoonepmnlgfikaa.Base Go.Maps
set_option linter.unusedVariables false
set_option linter.unusedSimpArgs false

/-- A pointer to a file, or nil. -/
def pv : Option Nat → Value
  | none => .pointer none
  | some f => .pointer (some ⟨f, 0, none⟩)
def pe : Option Nat → DataW Unit
  | none => .lit (.int .i64 (-1))
  | some f => .lit (.int .i64 (f : Int))
def ptrE : Value → Option (DataW Unit × List MemPlace)
  | .pointer none => some (pe none, [])
  | .pointer (some ⟨f, 0, none⟩) => some (pe (some f), [])
  | _ => none
theorem ptrE_pv (p : Option Nat) : ptrE (pv p) = some (pe p, []) := by cases p <;> rfl
theorem pe_inj {p q : Option Nat} (h : pe p = pe q) : p = q := by
  cases p <;> cases q <;> simp [pe] at h ⊢ <;> omega
theorem ptrE_inv {v : Value} {d : DataW Unit} {ps : List MemPlace} (h : ptrE v = some (d, ps)) : ∃ p, v = pv p ∧ d = pe p := by
  unfold ptrE at h
  split at h
  · simp only [Option.some.injEq, Prod.mk.injEq] at h
    exact ⟨none, rfl, h.1.symm⟩
  · next f => simp only [Option.some.injEq, Prod.mk.injEq] at h; exact ⟨some f, rfl, h.1.symm⟩
  · cases h
def Files (w : World) (b n : Nat) (D : DataW Unit) : Prop := w.ownsMap Try.prog 9 ptrE b n D
theorem K9 : Keyed Try.prog 9 := string_keyed Try.underlying9
theorem look {w : World} {b n : Nat} {D : DataW Unit} (h : Files w b n D) (name : ByteArray) (hs : name.size ≤ maxLen) {p : Option Nat} (hp : D.atKey (.string name.data.toList) (pe none) = pe p) :
    (Instr.lookup 57 (.map (some b)) (.string name) false).run Try.prog w = .ok (pv p) w := by
  have hk := WideMaps.keyOf_string_mk Try.underlying9 hs
  obtain ⟨v, ps, hrun, hv⟩ := World.ownsMap.lookup h K9 Try.underlying57 (z := .pointer none) (zd := pe none) (zp := []) (Try.zeroValue80 w) rfl hk
  obtain ⟨q, rfl, hq⟩ := ptrE_inv hv
  rw [hrun, pe_inj (hp.symm.trans hq)]

def PowAt (w : World) (g b : Nat) (n : Int) : Prop := w.heap[g]? = some (.cells #[.int .i64 n, .bool false, .int .i64 0, .map (some b)] 59 (0, 0))
set_option maxRecDepth 100000 in
set_option maxHeartbeats 3200000 in
theorem call_no (g : Nat) (name : ByteArray) (hs : name.size ≤ maxLen) (there : Bool) (w : World) (h : nameB name = false) :
    Calls Try.prog 39 #[.pointer (some ⟨g, 0, none⟩), .bool true, .string name, .bool there] w fun e w' => e = .returned (.tuple #[.pointer none, .int .i64 1]) ∧ Drawn0 w w' := by
  have HG : Aside0 (disk_good.f (3 * name.size + 1) name = some false) := ⟨by rw [good_is name (by unfold maxLen at hs; omega) _ (Nat.le_refl _), h]⟩
  go_enter Try.func39, Try.ntmps39
  go_wp2_with fail
  refine (disk_good.calls _ _ _ _ HG.out).mono ?_
  rintro e w' ⟨rfl, ⟨n1, rfl⟩⟩
  go_wp2_with fail
  go_ret2
  exact ⟨rfl, n1, rfl⟩
set_option maxRecDepth 100000 in
set_option maxHeartbeats 3200000 in
theorem call_yes (g b cnt : Nat) (n : Int) (h0 : 0 ≤ n) (h1 : n ≤ 1000000) (D : DataW Unit) (name : ByteArray) (hs : name.size ≤ maxLen) (there : Bool) (w : World) (h : nameB name = true) (hg : PowAt w g b n) (hm : Files w b cnt D) (hgb : b ≠ g)
    (p : Option Nat) (hp : D.atKey (.string name.data.toList) (pe none) = pe p) :
    Calls Try.prog 39 #[.pointer (some ⟨g, 0, none⟩), .bool true, .string name, .bool there] w fun e w' =>
      e = .returned (.tuple (if there = true ∧ p = none then #[.pointer none, .int .i64 3] else #[pv p, .int .i64 0])) ∧ PowAt w' g b (n + 1) ∧ w.grownBy w' (some g) ∧ Files w' b cnt D := by
  have HG : Aside0 (disk_good.f (3 * name.size + 1) name = some true) := ⟨by rw [good_is name (by unfold maxLen at hs; omega) _ (Nat.le_refl _), h]⟩
  have hu119 := Try.underlying59
  have hu117 := Try.underlying56
  go_enter Try.func39, Try.ntmps39
  go_wp2_with fail
  refine (disk_good.calls _ _ _ _ HG.out).mono ?_
  rintro e w' ⟨rfl, ⟨n1, rfl⟩⟩
  go_wp2_with fail
  refine (spend_calls g n (.map (some b)) h0 h1 _ (by exact hg)).mono ?_
  rintro e w2 ⟨rfl, hg2, hgr2⟩
  have hgr : w.grownBy w2 (some g) := ⟨hgr2.os, hgr2.tape, hgr2.output, hgr2.size, hgr2.block⟩
  have hm2 : Files w2 b cnt D := World.ownsMap.kept hm hgr (by simpa using hgb)
  have hl := look hm2 name hs hp
  have c1 : w2.cell? ⟨g, 1, none⟩ = some (.bool false) := (blk_cell hg2 1).trans rfl
  have c3 : w2.cell? ⟨g, 3, none⟩ = some (.map (some b)) := (blk_cell hg2 3).trans rfl
  cases there <;> rcases p with _ | f
  all_goals simp only [pv] at hl
  all_goals go_wp2_with fail
  all_goals go_ret2
  all_goals refine ⟨?_, hg2, hgr, hm2⟩
  all_goals (first | rfl | (simp; done) | (exfalso; rename_i hx; first | exact absurd hx.1 (by decide) | exact absurd hx.2 (by simp)) | (exfalso; simp_all; done))
end Go.Proofs.Ytoonepmnlgfikaa.D
