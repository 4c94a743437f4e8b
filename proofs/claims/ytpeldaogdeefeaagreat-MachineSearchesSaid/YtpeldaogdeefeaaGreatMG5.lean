/- Sessions: rows of one's own (Mx58, Mx59, Mx60, Mx61, Mx62, Mx65, Mx66, Mx67, Mx18). -/
import Derived.Test.YtpeldaogdeefeaaGreatMx0
import Derived.Test.YtpeldaogdeefeaaGreatMG1
import Derived.Test.YtpeldaogdeefeaaGreatMG3
import Derived.Test.YtpeldaogdeefeaaGreatMG4
import Derived.Test.YtpeldaogdeefeaaGreatMSHand
/-! Mx58 -/
namespace Go.Proofs.YtpeldaogdeefeaaGreat.M
open Go.RowKit Go.Proofs.YtpeldaogdeefeaaGreatW.PrintWords Go.Proofs.YtpeldaogdeefeaaGreatW.PrintLast Go.Proofs.YtpeldaogdeefeaaGreatW.PrintMore
attribute [local go_sem] max2_int min2_int max_two min_two max_three min_three max_four min_four   -- for this text's walks alone
set_option linter.unusedVariables false
set_option linter.unusedSimpArgs false

/-! ### lecternref0_CopyHits: function 167 -/
def lecternref0_CopyHits.l0 : Nat → List (S53) → List (S53) → Int → Option ((List (S53)))
  | 0, _, _, _ => none
  | k + 1, x0, x3, x4 => if x4 < (x0.length : Int) then (if 0 ≤ x4 then (if x3.length < 5864062014805 then (lecternref0_CopyHits.l0 k x0 (x3 ++ [(⟨(rd_T53 x0 x4).f0, (rd_T53 x0 x4).f1⟩ : S53)]) (wrap64 (x4 + 1))) else (none)) else (none)) else (some x3)
def lecternref0_CopyHits.f (k : Nat) (l0 : List (S53)) : Option ((List (S53))) := lecternref0_CopyHits.l0 k l0 ([] : List (S53)) 0
end Go.Proofs.YtpeldaogdeefeaaGreat.M
/-! Mx59 -/
namespace Go.Proofs.YtpeldaogdeefeaaGreat.M
open Go.RowKit Go.Proofs.YtpeldaogdeefeaaGreatW.PrintWords Go.Proofs.YtpeldaogdeefeaaGreatW.PrintLast Go.Proofs.YtpeldaogdeefeaaGreatW.PrintMore
attribute [local go_sem] max2_int min2_int max_two min_two max_three min_three max_four min_four   -- for this text's walks alone
set_option linter.unusedVariables false
set_option linter.unusedSimpArgs false

/-! ### lecternref0_CopyReply: function 140 -/
def lecternref0_CopyReply.f (k : Nat) (a0_0 : Int) (a0_1 : Int) (l0_2 : List (S53)) : Option (Int × Int × (List (S53))) := (lecternref0_CopyHits.f k l0_2).bind fun t257 => (some (a0_0, a0_1, t257))
end Go.Proofs.YtpeldaogdeefeaaGreat.M
/-! Mx60 -/
namespace Go.Proofs.YtpeldaogdeefeaaGreat.M
open Go.RowKit Go.Proofs.YtpeldaogdeefeaaGreatW.PrintWords Go.Proofs.YtpeldaogdeefeaaGreatW.PrintLast Go.Proofs.YtpeldaogdeefeaaGreatW.PrintMore
attribute [local go_sem] max2_int min2_int max_two min_two max_three min_three max_four min_four   -- for this text's walks alone
set_option linter.unusedVariables false
set_option linter.unusedSimpArgs false

/-! ### lecternref0_CopySession: function 137 -/
def lecternref0_CopySession.f (k : Nat) (a0_0 : Int) (a0_1 : Int) (a0_2 : Int) (a0_3 : Int) (l0_4 : List (S53)) (a0_5 : Int) : Option (Int × Int × Int × Int × (List (S53)) × Int) := (lecternref0_CopyReply.f k a0_2 a0_3 l0_4).bind fun bt263 => (some (a0_0, a0_1, bt263.1, bt263.2.1, bt263.2.2, a0_5))
end Go.Proofs.YtpeldaogdeefeaaGreat.M
/-! Mx61 -/
namespace Go.Proofs.YtpeldaogdeefeaaGreat.M
open Go.RowKit Go.Proofs.YtpeldaogdeefeaaGreatW.PrintWords Go.Proofs.YtpeldaogdeefeaaGreatW.PrintLast Go.Proofs.YtpeldaogdeefeaaGreatW.PrintMore
attribute [local go_sem] max2_int min2_int max_two min_two max_three min_three max_four min_four   -- for this text's walks alone
set_option linter.unusedVariables false
set_option linter.unusedSimpArgs false

/-! ### lecternref0_CopySessions: function 94 -/
def lecternref0_CopySessions.l0 : Nat → List (S140) → List (S140) → Int → Option ((List (S140)))
  | 0, _, _, _ => none
  | k + 1, x0, x3, x4 => if x4 < (x0.length : Int) then (if 0 ≤ x4 then ((lecternref0_CopySession.f k ((rd_T140 x0 x4).f0) ((rd_T140 x0 x4).f1) ((rd_T140 x0 x4).f2.f0) ((rd_T140 x0 x4).f2.f1) ((rd_T140 x0 x4).f2.f2) ((rd_T140 x0 x4).f3)).bind fun bt269 => (if x3.length < 2199023255552 then (lecternref0_CopySessions.l0 k x0 (x3 ++ [(⟨bt269.1, bt269.2.1, (⟨bt269.2.2.1, bt269.2.2.2.1, bt269.2.2.2.2.1⟩ : S70), bt269.2.2.2.2.2⟩ : S140)]) (wrap64 (x4 + 1))) else (none))) else (none)) else (some x3)
def lecternref0_CopySessions.f (k : Nat) (l0 : List (S140)) : Option ((List (S140))) := lecternref0_CopySessions.l0 k l0 ([] : List (S140)) 0
end Go.Proofs.YtpeldaogdeefeaaGreat.M
/-! Mx62 -/
namespace Go.Proofs.YtpeldaogdeefeaaGreat.M
open Go.RowKit Go.Proofs.YtpeldaogdeefeaaGreatW.PrintWords Go.Proofs.YtpeldaogdeefeaaGreatW.PrintLast Go.Proofs.YtpeldaogdeefeaaGreatW.PrintMore
attribute [local go_sem] max2_int min2_int max_two min_two max_three min_three max_four min_four   -- for this text's walks alone
set_option linter.unusedVariables false
set_option linter.unusedSimpArgs false

/-! ### lecternref0_CopyState: function 55 -/
def lecternref0_CopyState.f (k : Nat) (a0_0 : Int) (l0_1 : List (S36)) (l0_2 : List (S140)) : Option (Int × (List (S36)) × (List (S140))) := (lecternref0_CopyDocs.f k l0_1).bind fun t283 => ((lecternref0_CopySessions.f k l0_2).bind fun t286 => (some (a0_0, t283, t286)))
end Go.Proofs.YtpeldaogdeefeaaGreat.M
/-! Mx65 -/
namespace Go.Proofs.YtpeldaogdeefeaaGreat.M
open Go.RowKit Go.Proofs.YtpeldaogdeefeaaGreatW.PrintWords Go.Proofs.YtpeldaogdeefeaaGreatW.PrintLast Go.Proofs.YtpeldaogdeefeaaGreatW.PrintMore
attribute [local go_sem] max2_int min2_int max_two min_two max_three min_three max_four min_four   -- for this text's walks alone
set_option linter.unusedVariables false
set_option linter.unusedSimpArgs false

/-! ### lecternref14_MayOpen: function 98 -/
def lecternref14_MayOpen.f (k : Nat) (l0 : List (S140)) (a1 : Int) : Option (Bool) := (lecternref14_id.f a1).bind fun t294 => (if t294 = true then ((lecternref14_Find.f k l0 a1).bind fun t295 => (some (decide (t295 < 0)))) else (some false))
end Go.Proofs.YtpeldaogdeefeaaGreat.M
/-! Mx66 -/
namespace Go.Proofs.YtpeldaogdeefeaaGreat.M
open Go.RowKit Go.Proofs.YtpeldaogdeefeaaGreatW.PrintWords Go.Proofs.YtpeldaogdeefeaaGreatW.PrintLast Go.Proofs.YtpeldaogdeefeaaGreatW.PrintMore
attribute [local go_sem] max2_int min2_int max_two min_two max_three min_three max_four min_four   -- for this text's walks alone
set_option linter.unusedVariables false
set_option linter.unusedSimpArgs false

/-! ### lecternref14_drop: function 139 -/
def lecternref14_drop.f (k : Nat) (l0 : List (S140)) (a1 : Int) : Option ((List (S140))) := if 0 ≤ a1 then (if a1 ≤ (l0.length : Int) then ((lecternref0_CopySessions.f k (l0.take (a1 : Int).toNat)).bind fun t301 => (if 0 ≤ (wrap64 (a1 + 1)) then (if (wrap64 (a1 + 1)) ≤ (l0.length : Int) then ((some (l0.drop ((wrap64 (a1 + 1)) : Int).toNat : List (S140))).bind fun y304 => (if t301.length + y304.length < 2199023255552 then (some (t301 ++ y304)) else (none))) else (none)) else (none))) else (none)) else (none)
end Go.Proofs.YtpeldaogdeefeaaGreat.M
/-! Mx67 -/
namespace Go.Proofs.YtpeldaogdeefeaaGreat.M
open Go.RowKit Go.Proofs.YtpeldaogdeefeaaGreatW.PrintWords Go.Proofs.YtpeldaogdeefeaaGreatW.PrintLast Go.Proofs.YtpeldaogdeefeaaGreatW.PrintMore
attribute [local go_sem] max2_int min2_int max_two min_two max_three min_three max_four min_four   -- for this text's walks alone
set_option linter.unusedVariables false
set_option linter.unusedSimpArgs false

/-! ### lecternref14_Open: function 99 -/
mutual
def lecternref14_Open.j1 : Nat → List (S140) → Int → Option ((List (S140)))
  | 0, _, _ => none
  | k + 1, x0, x1 => lecternref14_Open.l1 k x0 x1 0
def lecternref14_Open.l1 : Nat → List (S140) → Int → Int → Option ((List (S140)))
  | 0, _, _, _ => none
  | k + 1, x0, x1, x7 => if x7 < (x0.length : Int) then (if 0 ≤ x7 then (lecternref14_Open.j3 k x0 x1 x7 (decide (((rd_T140 x0 x7).f0) < x1))) else (none)) else (lecternref14_Open.j3 k x0 x1 x7 false)
def lecternref14_Open.j3 : Nat → List (S140) → Int → Int → Bool → Option ((List (S140)))
  | 0, _, _, _, _ => none
  | k + 1, x0, x1, x7, x47 => if x47 = true then (lecternref14_Open.l1 k x0 x1 (wrap64 (x7 + 1))) else (if 0 ≤ x7 then (if x7 ≤ (x0.length : Int) then ((lecternref0_CopySessions.f k (x0.take (x7 : Int).toNat)).bind fun t326 => (if t326.length < 2199023255552 then ((some (t326 ++ [(⟨x1, 0, (⟨0, 0, ([] : List (S53))⟩ : S70), x1⟩ : S140)] : List (S140))).bind fun y329 => ((some (x0.drop (x7 : Int).toNat : List (S140))).bind fun y332 => (if y329.length + y332.length < 2199023255552 then (some (y329 ++ y332)) else (none)))) else (none))) else (none)) else (none))
def lecternref14_Open.l0 : Nat → List (S140) → Int → Int → Int → Option ((List (S140)))
  | 0, _, _, _, _ => none
  | k + 1, x0, x1, x5, x6 => if x6 < (x0.length : Int) then (if 0 ≤ x6 then (if 0 ≤ x5 then (if x5 < (x0.length : Int) then (if ((rd_T140 x0 x6).f3) < ((rd_T140 x0 x5).f3) then (lecternref14_Open.l0 k x0 x1 x6 (wrap64 (x6 + 1))) else (lecternref14_Open.l0 k x0 x1 x5 (wrap64 (x6 + 1)))) else (none)) else (none)) else (none)) else ((lecternref14_drop.f k x0 x5).bind fun t317 => (lecternref14_Open.j1 k t317 x1))
end
def lecternref14_Open.f (k : Nat) (l0 : List (S140)) (a1 : Int) : Option ((List (S140))) := (lecternref0_CopySessions.f k l0).bind fun t312 => (if (t312.length : Int) = 8 then (lecternref14_Open.l0 k t312 a1 0 1) else (lecternref14_Open.j1 k t312 a1))
end Go.Proofs.YtpeldaogdeefeaaGreat.M
/-! Mx18 -/
namespace Go.Proofs.YtpeldaogdeefeaaGreat.M
open Go.RowKit Go.Proofs.YtpeldaogdeefeaaGreatW.PrintWords Go.Proofs.YtpeldaogdeefeaaGreatW.PrintLast Go.Proofs.YtpeldaogdeefeaaGreatW.PrintMore
attribute [local go_sem] max2_int min2_int max_two min_two max_three min_three max_four min_four   -- for this text's walks alone
set_option linter.unusedVariables false
set_option linter.unusedSimpArgs false

/-! ### session_find: function 131 -/
/-- Where a client stands among sessions in order. -/
def session_find.f (l0 : List S140) (a1 : Int) : Option (Int × Bool) := if riseS l0 ∧ l0.length ≤ 1000000000 then some (((l0.countP (fun x => decide (x.f0 < a1)) : Nat) : Int), l0.any (fun x => x.f0 == a1)) else none
theorem session_find.calls (A0 : Option Addr) (c0 : Nat) (l0 : List (S140)) (a1 : Int) (r1 : Int) (r2 : Bool) (w : World) (hr0 : Kd.C k140 w A0 l0.length l0) (hc0 : l0.length ≤ c0) (h : session_find.f l0 a1 = some (r1, r2)) :
    Calls Tryz.prog 131 #[.slice A0 l0.length c0, .int .i64 a1] w fun e w' => e = .returned (.tuple #[.int .i64 r1, .bool r2]) ∧ Below w.heap.size w w' := by
  unfold session_find.f at h
  by_cases hs : riseS l0 ∧ l0.length ≤ 1000000000
  · rw [if_pos hs] at h
    have h := Option.some.inj h
    obtain ⟨rfl, rfl⟩ := Prod.mk.inj h
    have HC : Aside0 (∀ W, Below w.heap.size w W → Calls Tryz.prog 164 #[.slice A0 l0.length c0, .int .i64 a1, .func (.func 165) #[] #[]] W fun e w' => e = .returned (.tuple #[.int .i64 ((l0.countP (fun x => decide (x.f0 < a1)) : Nat) : Int), .bool (l0.any (fun x => x.f0 == a1))]) ∧ Below W.heap.size W w') := ⟨fun W hb => by
      refine (search82 A0 c0 l0 a1 W (Kd.C_below hr0 hb) hc0 hs.2 hs.1).mono ?_
      rintro e w' ⟨i, hp, rfl, hb⟩
      exact ⟨by rw [place_count hp, place_any hp hs.1], hb⟩⟩
    clear hr0 hc0 h hs
    generalize ((l0.countP (fun x => decide (x.f0 < a1)) : Nat) : Int) = n at *
    generalize l0.any (fun x => x.f0 == a1) = b at *
    go_enter Tryz.func131, Tryz.ntmps131
    go_wp2_with (go_at_call 164; refine (HC.out _ (by repeat (first | exact Below.refl _ _ | apply pw_below_drewN | apply below_alloc))).mono ?_; rintro e w' ⟨rfl, hb⟩)
    go_ret2
    exact ⟨rfl, by repeat (first | exact hb | apply pw_below_drewN | apply below_alloc)⟩
  · rw [if_neg hs] at h
    cases h

end Go.Proofs.YtpeldaogdeefeaaGreat.M
