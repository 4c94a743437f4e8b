/- Sessions: rows of one's own (Mx7, MCmd, QB). -/
import Derived.Test.YtpeldaogdeefeaaGreatMx0
import Derived.Test.YtpeldaogdeefeaaGreatMSHand
import Derived.Deep.QuietTactic
import Derived.BigQuiet
import Derived.Below
/-! Mx7 -/
namespace Go.Proofs.YtpeldaogdeefeaaGreat.M
open Go.RowKit Go.Proofs.YtpeldaogdeefeaaGreatW.PrintWords Go.Proofs.YtpeldaogdeefeaaGreatW.PrintLast Go.Proofs.YtpeldaogdeefeaaGreatW.PrintMore
attribute [local go_sem] max2_int min2_int max_two min_two max_three min_three max_four min_four   -- for this text's walks alone
set_option linter.unusedVariables false
set_option linter.unusedSimpArgs false

/-! ### session_Number: function 97 -/
def session_Number.f (a0 : Int) (a1 : Int) : Option (Bool) := if a0 ≥ a1 then (some (decide (a0 < 1099511627776))) else (some false)
set_option maxHeartbeats 8000000 in
set_option maxRecDepth 100000 in
theorem session_Number.calls (a0 : Int) (a1 : Int) (r : Bool) (w : World) (h : session_Number.f a0 a1 = some r) :
    Calls Tryz.prog 97 #[.int .i64 a0, .int .i64 a1] w fun e w' => e = .returned (.bool r) ∧ Drawn0 w w' := by
  have H : (if a0 ≥ a1 then (some (decide (a0 < 1099511627776))) else (some false)) = some r := h
  clear h
  by_cases c3 : a0 ≥ a1
  · rw [if_pos c3] at H
    have c3b0 : decide (a1 ≤ a0) = true := decide_eq_true c3
    clear c3
    obtain rfl := Option.some.inj H
    go_enter Tryz.func97, Tryz.ntmps97
    go_wp2
    go_ret
    exact ⟨by first | rfl | (simp; done) | (simp [*]; done), by repeat (first | exact Drawn0.refl _ | apply Drawn0.step)⟩
  · rw [if_neg c3] at H
    have c3b0 : decide (a1 ≤ a0) = false := decide_eq_false c3
    clear c3
    obtain rfl := Option.some.inj H
    go_enter Tryz.func97, Tryz.ntmps97
    go_wp2
    go_ret
    exact ⟨by first | rfl | (simp; done) | (simp [*]; done), by repeat (first | exact Drawn0.refl _ | apply Drawn0.step)⟩

end Go.Proofs.YtpeldaogdeefeaaGreat.M
/-! MCmd -/
namespace Go.Proofs.YtpeldaogdeefeaaGreat.M
open Go.RowKit Go.Proofs.YtpeldaogdeefeaaGreatW.PrintWords Go.Proofs.YtpeldaogdeefeaaGreatW.PrintLast Go.Proofs.YtpeldaogdeefeaaGreatW.PrintMore
set_option linter.unusedVariables false
set_option linter.unusedSimpArgs false
def cOpen : Value := .agg #[.int .i64 1, .int .i64 0, .int .i64 0, .string ⟨#[]⟩, .string ⟨#[]⟩]
set_option maxRecDepth 100000 in
set_option maxHeartbeats 800000 in
theorem cmd58_open (w : World) : Calls Tryz.prog 58 #[.agg #[.int .i64 1, .int .i64 0, .int .i64 0, .string ⟨#[]⟩, .string ⟨#[]⟩]] w fun e w' => e = .returned (.bool true) ∧ Below w.heap.size w w' := by
  have hu73 := Tryz.underlying73
  go_enter Tryz.func58, Tryz.ntmps58
  go_wp2_with fail
  go_ret
  exact ⟨rfl, by repeat (first | exact Below.refl _ _ | apply pw_below_drewN | apply below_drew1 | apply below_alloc)⟩
set_option maxRecDepth 100000 in
set_option maxHeartbeats 800000 in
theorem only129_open (w : World) : Calls Tryz.prog 129 #[.agg #[.int .i64 1, .int .i64 0, .int .i64 0, .string ⟨#[]⟩, .string ⟨#[]⟩]] w fun e w' => e = .returned (.tuple #[.agg #[.int .i64 1, .int .i64 0, .int .i64 0, .string ⟨#[]⟩, .string ⟨#[]⟩], .bool true]) ∧ Below w.heap.size w w' := by
  have hu73 := Tryz.underlying73
  go_enter Tryz.func129, Tryz.ntmps129
  go_wp2_with fail
  go_region
  go_wp2_with fail
  exact bodyPost_ret (v := .tuple #[.agg #[.int .i64 1, .int .i64 0, .int .i64 0, .string ⟨#[]⟩, .string ⟨#[]⟩], .bool true]) (by simp [results, Tryz.results129, go_sem]) rfl ⟨rfl, by repeat (first | exact Below.refl _ _ | apply pw_below_drewN | apply below_drew1 | apply below_alloc)⟩
set_option maxRecDepth 100000 in
set_option maxHeartbeats 800000 in
theorem may86_open (w : World) : Calls Tryz.prog 86 #[.agg #[.int .i64 1, .int .i64 0, .int .i64 0, .string ⟨#[]⟩, .string ⟨#[]⟩]] w fun e w' => e = .returned (.bool true) ∧ Below w.heap.size w w' := by
  have hu73 := Tryz.underlying73
  go_enter Tryz.func86, Tryz.ntmps86
  go_wp2_with fail
  refine (only129_open _).mono ?_
  rintro e w1 ⟨rfl, hb1⟩
  have HB1 := Aside0.mk hb1
  have hq := heap_alloc_new w (.cells #[.int .i64 1, .int .i64 0, .int .i64 0, .string ⟨#[]⟩, .string ⟨#[]⟩] 73)
  have HQ := Aside0.mk (blk_below hq hb1)
  have HB : Aside0 (Below w.heap.size w w1) := ⟨below_step (below_alloc (Below.refl _ _) _) hb1⟩
  clear hb1 hq
  go_upto_region 2 with (fail)
  obtain ⟨q, hq⟩ : ∃ b, b = w.heap.size := ⟨_, rfl⟩
  obtain ⟨q2, hq2⟩ : ∃ b, b = w1.heap.size := ⟨_, rfl⟩
  obtain ⟨w2, hw2⟩ : ∃ z, z = w1.alloc (.cells #[.int .i64 1, .int .i64 0, .int .i64 0, .string ⟨#[]⟩, .string ⟨#[]⟩] 73) := ⟨_, rfl⟩
  have HB2 : Aside0 (Below w.heap.size w w2) := ⟨by rw [hw2]; exact below_alloc HB.out _⟩
  have hk1 : w2.heap[q]? = some (.cells #[.int .i64 1, .int .i64 0, .int .i64 0, .string ⟨#[]⟩, .string ⟨#[]⟩] 73 (0, 0)) := by rw [hw2, hq]; exact blk_alloc HQ.out _
  have hk2 : w2.heap[q2]? = some (.cells #[.int .i64 1, .int .i64 0, .int .i64 0, .string ⟨#[]⟩, .string ⟨#[]⟩] 73 (0, 0)) := by rw [hw2, hq2]; exact heap_alloc_new w1 _
  rw [← hw2, ← hq, ← hq2]
  clear hw2 hq hq2 HQ HB
  have x10 : w2.cell? ⟨q, 0, none⟩ = some (.int .i64 1) := (blk_cell hk1 0).trans rfl
  have x11 : w2.cell? ⟨q, 1, none⟩ = some (.int .i64 0) := (blk_cell hk1 1).trans rfl
  have x12 : w2.cell? ⟨q, 2, none⟩ = some (.int .i64 0) := (blk_cell hk1 2).trans rfl
  have x13 : w2.cell? ⟨q, 3, none⟩ = some (.string ⟨#[]⟩) := (blk_cell hk1 3).trans rfl
  have x14 : w2.cell? ⟨q, 4, none⟩ = some (.string ⟨#[]⟩) := (blk_cell hk1 4).trans rfl
  have x20 : w2.cell? ⟨q2, 0, none⟩ = some (.int .i64 1) := (blk_cell hk2 0).trans rfl
  have x21 : w2.cell? ⟨q2, 1, none⟩ = some (.int .i64 0) := (blk_cell hk2 1).trans rfl
  have x22 : w2.cell? ⟨q2, 2, none⟩ = some (.int .i64 0) := (blk_cell hk2 2).trans rfl
  have x23 : w2.cell? ⟨q2, 3, none⟩ = some (.string ⟨#[]⟩) := (blk_cell hk2 3).trans rfl
  have x24 : w2.cell? ⟨q2, 4, none⟩ = some (.string ⟨#[]⟩) := (blk_cell hk2 4).trans rfl
  clear hk1 hk2
  go_wp2_with fail
  go_ret
  exact ⟨rfl, HB2.out⟩
end Go.Proofs.YtpeldaogdeefeaaGreat.M
/-! QB -/
namespace Go.Proofs.YtpeldaogdeefeaaGreat.QB
open Go.RowKit
/-- A world behind 'w0': what lay below is as it was. -/
def Later (w0 : World) : Type := {W : World // Below w0.heap.size w0 W}
instance Later.inhab (w0 : World) : Nonempty (Later w0) := ⟨⟨w0, Below.refl _ _⟩⟩
def Later.val {w0 : World} (x : Later w0) : World := x.1
theorem Later.below {w0 : World} (x : Later w0) : Below w0.heap.size w0 x.val := x.2
def Later.mk {w0 W : World} (h : Below w0.heap.size w0 W) : Later w0 := ⟨W, h⟩
theorem Later.cell {w0 : World} (x : Later w0) {p : Addr} {v : Value} (h : w0.cell? p = some v) (hp : p.block < w0.heap.size) : x.val.cell? p = some v := (x.below.cell hp).trans h
theorem below_trans {w a b : World} (h : Below w.heap.size w a) (h2 : Below a.heap.size a b) : Below w.heap.size w b := h.trans (h2.mono h.size)
theorem region {P : Program} {id : Nat} {Q : Exit → Act → World → Prop} {a : Act} {w0 w : World} {l : List Oper} (hw : Below w0.heap.size w0 { w with drawn := w.drawn + 1 }) (hm : P.follows .mixedOrders = true) (hB : Region.lexB .any l.toArray = true)
    (h : wpQuiet P l.toArray (fun W => ∃ x : Later w0, W = x.val) (fun a' => ∀ W, (∃ x : Later w0, W = x.val) → Q .normal a' W) l a) : (Code.region id l.toArray true).wp P Q a w :=
  wp_region_quiet (C := fun W => ∃ x : Later w0, W = x.val) hm hB ⟨Later.mk hw, rfl⟩ (by simpa using h)
theorem call {P : Program} {f : FuncId} {args : Array Value} {w0 : World} {x : Later w0} {v : Value}
    (h : Calls P f args x.val fun e w' => e = .returned v ∧ Below x.val.heap.size x.val w') : Calls P f args x.val fun e w'' => e = .returned v ∧ ∃ y : Later w0, w'' = y.val :=
  h.mono fun _ _ ⟨he, hb⟩ => ⟨he, Later.mk (below_trans x.below hb), rfl⟩
theorem drawn {w0 w : World} (h : Below w0.heap.size w0 w) : Below w0.heap.size w0 { w with drawn := w.drawn + 1 } := ⟨h.os, h.tape, h.output, h.size, h.block⟩
end Go.Proofs.YtpeldaogdeefeaaGreat.QB
