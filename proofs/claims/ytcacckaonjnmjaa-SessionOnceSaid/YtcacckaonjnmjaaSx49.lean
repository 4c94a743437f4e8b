-- Written by a program: the kit's printer with changes of this session (NOTES.md).
import Derived.Test.YtcacckaonjnmjaaSHand
import Derived.Test.YtcacckaonjnmjaaSx0
import Derived.Test.YtcacckaonjnmjaaSx12
import Derived.Test.YtcacckaonjnmjaaSx15
import Derived.Test.YtcacckaonjnmjaaSx17
import Derived.Test.YtcacckaonjnmjaaSx27
import Derived.Test.YtcacckaonjnmjaaSx28
import Derived.Test.YtcacckaonjnmjaaSx30
import Derived.Test.YtcacckaonjnmjaaSx31
import Derived.Test.YtcacckaonjnmjaaSx47
import Derived.Test.YtcacckaonjnmjaaSx48
namespace Go.Proofs.Ytcacckaonjnmjaa.S
open Go.RowKit Go.Proofs.YtcacckaonjnmjaaW.PrintWords Go.Proofs.YtcacckaonjnmjaaW.PrintLast Go.Proofs.YtcacckaonjnmjaaW.PrintMore
attribute [local go_sem] max2_int min2_int max_two min_two max_three min_three max_four min_four   -- for this text's walks alone
set_option linter.unusedVariables false
set_option linter.unusedSimpArgs false

-- shrunk
@[reducible] def fz49_0 : Array Bool := #[true, true, true, true, true, true, true, true, false, true, true, false, false]
@[reducible] def fz49_1 : Array Bool := #[true, true, true, true, true, true, true, true, true, true, true, false, false]
@[reducible] def bx33 (l : List S33) (x : Int) (A : Option Addr) (c : Nat) : Obj := .cells #[.int .i64 ((rd_T33 l x).f0), .int .i64 ((rd_T33 l x).f1), .int .i64 ((rd_T33 l x).f2), .int .i64 ((rd_T33 l x).f3), .int .i64 ((rd_T33 l x).f4.f0), .int .i64 ((rd_T33 l x).f4.f1), .slice A ((rd_T33 l x).f4.f2).length c] 33 (0, 0)
@[reducible] def bx31 (a b : Int) (A : Option Addr) (n c : Nat) : Obj := .cells #[.int .i64 a, .int .i64 b, .slice A n c] 31 (0, 0)
/-! ### lawOnce: function 7 -/
mutual
def lawOnce.l0 : Nat → List (S33) → List (S88) → List Int → Int → Int → Option (Bool)
 | 0, _, _, _, _, _ => none
 | k + 1, x0, x3, x4, x5, x6 => if x6 < (x0.length : Int) then (lawOnce.j1 k x0 x3 x4 x5 x6 (decide (x6 < 40))) else (lawOnce.j1 k x0 x3 x4 x5 x6 false)
def lawOnce.j1 : Nat → List (S33) → List (S88) → List Int → Int → Int → Bool → Option (Bool)
 | 0, _, _, _, _, _, _ => none
 | k + 1, x0, x3, x4, x5, x6, x34 => if x34 = true then (if 0 ≤ x6 then (if x6 < (x0.length : Int) then ((lecternlaw0_Within.f ((rd_T33 x0 x6).f0) 2).bind fun t340 => (if t340 = 0 then (lawOnce.j2 k x0 x3 x4 (wrap64 (x5 + 1)) x6 true ((rd_T33 x0 x6).f0) ((rd_T33 x0 x6).f1) ((rd_T33 x0 x6).f2) ((rd_T33 x0 x6).f3) ((rd_T33 x0 x6).f4.f0) ((rd_T33 x0 x6).f4.f1) ((rd_T33 x0 x6).f4.f2)) else (lawOnce.j2 k x0 x3 x4 (wrap64 (x5 + 1)) x6 ((x4.length : Int) == 0) ((rd_T33 x0 x6).f0) ((rd_T33 x0 x6).f1) ((rd_T33 x0 x6).f2) ((rd_T33 x0 x6).f3) ((rd_T33 x0 x6).f4.f0) ((rd_T33 x0 x6).f4.f1) ((rd_T33 x0 x6).f4.f2)))) else (none)) else (none)) else ((lecternlaw14_wakes.f k).bind fun t438 => (some t438))
def lawOnce.j2 : Nat → List (S33) → List (S88) → List Int → Int → Int → Bool → Int → Int → Int → Int → Int → Int → List (S116) → Option (Bool)
 | 0, _, _, _, _, _, _, _, _, _, _, _, _, _ => none
 | k + 1, x0, x3, x4, x5, x6, x51, x340000, x340001, x340002, x340003, x340004, x340005, x340006 => if x51 = true then ((session_Open.f k x3 x5).bind fun bt341 => ((lecternlaw14_num.f bt341.2).bind fun t345 => (if t345 = 0 then (if (x4.length : Int) = 8 then (if 0 < (x4.length : Int) then ((session_Begin.f k bt341.1 (rd x4 0) 1).bind fun bt347 => ((lecternlaw14_num.f bt347.2.2.2.2).bind fun t355 => (if t355 = 9 then (if 1 ≤ (x4.length : Int) then ((some (x4.drop (1 : Int).toNat : List Int)).bind fun y356 => (if y356.length < 17592186044416 then (lawOnce.j5 k x0 bt341.1 (y356 ++ [x5]) x5 x6) else (none))) else (none)) else (none)))) else (none)) else (if x4.length < 17592186044416 then (lawOnce.j5 k x0 bt341.1 (x4 ++ [x5]) x5 x6) else (none))) else (none)))) else ((lecternlaw0_Within.f x340001 (x4.length : Int)).bind fun t365 => (if 0 ≤ t365 then (if t365 < (x4.length : Int) then ((session_Done.f k x3 (rd x4 t365) x5 0 x5 ([] : List (S116)) x5).bind fun bt368 => ((session_Begin.f k bt368.1 (rd x4 t365) x5).bind fun bt372 => ((session_Begin.f k bt368.1 (rd x4 t365) (wrap64 (x5 - 1))).bind fun bt380 => ((session_Begin.f k bt368.1 (rd x4 t365) (wrap64 (x5 + 1))).bind fun bt388 => ((lecternlaw14_num.f bt368.2).bind fun t396 => (if t396 = 0 then ((lecternlaw14_num.f bt372.2.2.2.2).bind fun t397 => (if t397 = 0 then (if bt372.2.2.2.1 = true then ((lecternref0_EqReply.f k bt372.1 bt372.2.1 bt372.2.2.1 0 x5 ([] : List (S116))).bind fun t398 => (if t398 = true then ((lecternlaw14_num.f bt380.2.2.2.2).bind fun t399 => (if t399 = 10 then ((lecternlaw14_num.f bt388.2.2.2.2).bind fun t400 => (if t400 = 0 then (lawOnce.j3 k x0 x4 x5 x6 t365 (rd x4 t365) bt368.1 bt388.2.2.2.1 x340000 x340001 x340002 x340003 x340004 x340005 x340006) else (none))) else (none))) else (none))) else (none)) else (none))) else (none))))))) else (none)) else (none)))
def lawOnce.j5 : Nat → List (S33) → List (S88) → List Int → Int → Int → Option (Bool)
 | 0, _, _, _, _, _ => none
 | k + 1, x0, x3, x4, x5, x6 => if (x3.length : Int) = (x4.length : Int) then (lawOnce.l0 k x0 x3 x4 x5 (wrap64 (x6 + 1))) else (none)
def lawOnce.j3 : Nat → List (S33) → List Int → Int → Int → Int → Int → List (S88) → Bool → Int → Int → Int → Int → Int → Int → List (S116) → Option (Bool)
 | 0, _, _, _, _, _, _, _, _, _, _, _, _, _, _, _ => none
 | k + 1, x0, x4, x5, x6, x13, x14, x16, x159, x340000, x340001, x340002, x340003, x340004, x340005, x340006 => if x159 = true then (none) else (if 0 ≤ x13 then (if x13 ≤ (x4.length : Int) then ((lecternref0_CopyNumbers.f k (x4.take (x13 : Int).toNat)).bind fun t405 => (if 0 ≤ (wrap64 (x13 + 1)) then (if (wrap64 (x13 + 1)) ≤ (x4.length : Int) then ((some (x4.drop ((wrap64 (x13 + 1)) : Int).toNat : List Int)).bind fun y408 => (if t405.length + y408.length < 17592186044416 then ((some (t405 ++ y408 : List Int)).bind fun y412 => ((some (([x14] : List Int) : List Int)).bind fun y415 => (if y412.length + y415.length < 17592186044416 then ((some (y412 ++ y415 : List Int)).bind fun y418 => ((lecternlaw0_Within.f x340002 5).bind fun t421 => (if t421 = 0 then ((session_Close.f k x16 x14).bind fun bt422 => ((session_Begin.f k bt422.1 x14 (wrap64 (x5 + 1))).bind fun bt426 => ((lecternlaw14_num.f bt422.2).bind fun t433 => (if t433 = 0 then ((lecternlaw14_num.f bt426.2.2.2.2).bind fun t434 => (lawOnce.j4 k x0 y418 x5 x6 bt422.1 (t434 != 9))) else (none))))) else (lawOnce.j5 k x0 x16 y418 x5 x6)))) else (none)))) else (none))) else (none)) else (none))) else (none)) else (none))
def lawOnce.j4 : Nat → List (S33) → List Int → Int → Int → List (S88) → Bool → Option (Bool)
 | 0, _, _, _, _, _, _ => none
 | k + 1, x0, x4, x5, x6, x16, x199 => if x199 = true then (none) else (if 0 ≤ (wrap64 ((x4.length : Int) - 1)) then (if (wrap64 ((x4.length : Int) - 1)) ≤ (x4.length : Int) then (lawOnce.j5 k x0 x16 (x4.take ((wrap64 ((x4.length : Int) - 1)) : Int).toNat) x5 x6) else (none)) else (none))
end
def lawOnce.f (k : Nat) (l0 : List (S33)) : Option (Bool) := lawOnce.l0 k l0 ([] : List (S88)) ([] : List Int) 0 0
theorem lawOnce.mono_l : ∀ k, (∀ y0 y1 y2 y3 y4, LeO (lawOnce.l0 k y0 y1 y2 y3 y4) (lawOnce.l0 (k + 1) y0 y1 y2 y3 y4)) ∧ (∀ y0 y1 y2 y3 y4 y5, LeO (lawOnce.j1 k y0 y1 y2 y3 y4 y5) (lawOnce.j1 (k + 1) y0 y1 y2 y3 y4 y5)) ∧ (∀ y0 y1 y2 y3 y4 y5 y6 y7 y8 y9 y10 y11 y12, LeO (lawOnce.j2 k y0 y1 y2 y3 y4 y5 y6 y7 y8 y9 y10 y11 y12) (lawOnce.j2 (k + 1) y0 y1 y2 y3 y4 y5 y6 y7 y8 y9 y10 y11 y12)) ∧ (∀ y0 y1 y2 y3 y4, LeO (lawOnce.j5 k y0 y1 y2 y3 y4) (lawOnce.j5 (k + 1) y0 y1 y2 y3 y4)) ∧ (∀ y0 y1 y2 y3 y4 y5 y6 y7 y8 y9 y10 y11 y12 y13 y14, LeO (lawOnce.j3 k y0 y1 y2 y3 y4 y5 y6 y7 y8 y9 y10 y11 y12 y13 y14) (lawOnce.j3 (k + 1) y0 y1 y2 y3 y4 y5 y6 y7 y8 y9 y10 y11 y12 y13 y14)) ∧ (∀ y0 y1 y2 y3 y4 y5, LeO (lawOnce.j4 k y0 y1 y2 y3 y4 y5) (lawOnce.j4 (k + 1) y0 y1 y2 y3 y4 y5))
 | 0 => ⟨fun _ _ _ _ _ r h => by simp [lawOnce.l0] at h, fun _ _ _ _ _ _ r h => by simp [lawOnce.j1] at h, fun _ _ _ _ _ _ _ _ _ _ _ _ _ r h => by simp [lawOnce.j2] at h, fun _ _ _ _ _ r h => by simp [lawOnce.j5] at h, fun _ _ _ _ _ _ _ _ _ _ _ _ _ _ _ r h => by simp [lawOnce.j3] at h, fun _ _ _ _ _ _ r h => by simp [lawOnce.j4] at h⟩
 | k + 1 => by
  obtain ⟨ih0, ih1, ih2, ih3, ih4, ih5⟩ := lawOnce.mono_l k
  refine ⟨?_, ?_, ?_, ?_, ?_, ?_⟩
  ·intro y0 y1 y2 y3 y4
   unfold lawOnce.l0
   repeat' first
   | (with_reducible exact ih0 _ _ _ _ _)
   | (with_reducible exact ih1 _ _ _ _ _ _)
   | (with_reducible exact ih2 _ _ _ _ _ _ _ _ _ _ _ _ _)
   | (with_reducible exact ih3 _ _ _ _ _)
   | (with_reducible exact ih4 _ _ _ _ _ _ _ _ _ _ _ _ _ _ _)
   | (with_reducible exact ih5 _ _ _ _ _ _)
   | (with_reducible exact lecternlaw14_wakes.mono _)
   | (with_reducible exact lecternref0_CopyNumbers.mono _ _)
   | (with_reducible exact lecternref0_EqReply.mono _ _ _ _ _ _ _)
   | (with_reducible exact session_Begin.mono _ _ _ _)
   | (with_reducible exact session_Close.mono _ _ _)
   | (with_reducible exact session_Done.mono _ _ _ _ _ _ _ _)
   | (with_reducible exact session_Open.mono _ _ _)
   | (with_reducible exact LeO.refl _)
   | (with_reducible exact LeO.none _)
   | (with_reducible refine LeO.ite ?_ ?_)
   | (with_reducible refine LeO.bind ?_ (fun _ => ?_))
   | exact ih0 _ _ _ _ _
   | exact ih1 _ _ _ _ _ _
   | exact ih2 _ _ _ _ _ _ _ _ _ _ _ _ _
   | exact ih3 _ _ _ _ _
   | exact ih4 _ _ _ _ _ _ _ _ _ _ _ _ _ _ _
   | exact ih5 _ _ _ _ _ _
   | exact lecternlaw14_wakes.mono _
   | exact lecternref0_CopyNumbers.mono _ _
   | exact lecternref0_EqReply.mono _ _ _ _ _ _ _
   | exact session_Begin.mono _ _ _ _
   | exact session_Close.mono _ _ _
   | exact session_Done.mono _ _ _ _ _ _ _ _
   | exact session_Open.mono _ _ _
   | exact LeO.none _
   | refine LeO.ite ?_ ?_
   | refine LeO.bind ?_ (fun _ => ?_)
  ·intro y0 y1 y2 y3 y4 y5
   unfold lawOnce.j1
   repeat' first
   | (with_reducible exact ih0 _ _ _ _ _)
   | (with_reducible exact ih1 _ _ _ _ _ _)
   | (with_reducible exact ih2 _ _ _ _ _ _ _ _ _ _ _ _ _)
   | (with_reducible exact ih3 _ _ _ _ _)
   | (with_reducible exact ih4 _ _ _ _ _ _ _ _ _ _ _ _ _ _ _)
   | (with_reducible exact ih5 _ _ _ _ _ _)
   | (with_reducible exact lecternlaw14_wakes.mono _)
   | (with_reducible exact lecternref0_CopyNumbers.mono _ _)
   | (with_reducible exact lecternref0_EqReply.mono _ _ _ _ _ _ _)
   | (with_reducible exact session_Begin.mono _ _ _ _)
   | (with_reducible exact session_Close.mono _ _ _)
   | (with_reducible exact session_Done.mono _ _ _ _ _ _ _ _)
   | (with_reducible exact session_Open.mono _ _ _)
   | (with_reducible exact LeO.refl _)
   | (with_reducible exact LeO.none _)
   | (with_reducible refine LeO.ite ?_ ?_)
   | (with_reducible refine LeO.bind ?_ (fun _ => ?_))
   | exact ih0 _ _ _ _ _
   | exact ih1 _ _ _ _ _ _
   | exact ih2 _ _ _ _ _ _ _ _ _ _ _ _ _
   | exact ih3 _ _ _ _ _
   | exact ih4 _ _ _ _ _ _ _ _ _ _ _ _ _ _ _
   | exact ih5 _ _ _ _ _ _
   | exact lecternlaw14_wakes.mono _
   | exact lecternref0_CopyNumbers.mono _ _
   | exact lecternref0_EqReply.mono _ _ _ _ _ _ _
   | exact session_Begin.mono _ _ _ _
   | exact session_Close.mono _ _ _
   | exact session_Done.mono _ _ _ _ _ _ _ _
   | exact session_Open.mono _ _ _
   | exact LeO.none _
   | refine LeO.ite ?_ ?_
   | refine LeO.bind ?_ (fun _ => ?_)
  ·intro y0 y1 y2 y3 y4 y5 y6 y7 y8 y9 y10 y11 y12
   unfold lawOnce.j2
   repeat' first
   | (with_reducible exact ih0 _ _ _ _ _)
   | (with_reducible exact ih1 _ _ _ _ _ _)
   | (with_reducible exact ih2 _ _ _ _ _ _ _ _ _ _ _ _ _)
   | (with_reducible exact ih3 _ _ _ _ _)
   | (with_reducible exact ih4 _ _ _ _ _ _ _ _ _ _ _ _ _ _ _)
   | (with_reducible exact ih5 _ _ _ _ _ _)
   | (with_reducible exact lecternlaw14_wakes.mono _)
   | (with_reducible exact lecternref0_CopyNumbers.mono _ _)
   | (with_reducible exact lecternref0_EqReply.mono _ _ _ _ _ _ _)
   | (with_reducible exact session_Begin.mono _ _ _ _)
   | (with_reducible exact session_Close.mono _ _ _)
   | (with_reducible exact session_Done.mono _ _ _ _ _ _ _ _)
   | (with_reducible exact session_Open.mono _ _ _)
   | (with_reducible exact LeO.refl _)
   | (with_reducible exact LeO.none _)
   | (with_reducible refine LeO.ite ?_ ?_)
   | (with_reducible refine LeO.bind ?_ (fun _ => ?_))
   | exact ih0 _ _ _ _ _
   | exact ih1 _ _ _ _ _ _
   | exact ih2 _ _ _ _ _ _ _ _ _ _ _ _ _
   | exact ih3 _ _ _ _ _
   | exact ih4 _ _ _ _ _ _ _ _ _ _ _ _ _ _ _
   | exact ih5 _ _ _ _ _ _
   | exact lecternlaw14_wakes.mono _
   | exact lecternref0_CopyNumbers.mono _ _
   | exact lecternref0_EqReply.mono _ _ _ _ _ _ _
   | exact session_Begin.mono _ _ _ _
   | exact session_Close.mono _ _ _
   | exact session_Done.mono _ _ _ _ _ _ _ _
   | exact session_Open.mono _ _ _
   | exact LeO.none _
   | refine LeO.ite ?_ ?_
   | refine LeO.bind ?_ (fun _ => ?_)
  ·intro y0 y1 y2 y3 y4
   unfold lawOnce.j5
   repeat' first
   | (with_reducible exact ih0 _ _ _ _ _)
   | (with_reducible exact ih1 _ _ _ _ _ _)
   | (with_reducible exact ih2 _ _ _ _ _ _ _ _ _ _ _ _ _)
   | (with_reducible exact ih3 _ _ _ _ _)
   | (with_reducible exact ih4 _ _ _ _ _ _ _ _ _ _ _ _ _ _ _)
   | (with_reducible exact ih5 _ _ _ _ _ _)
   | (with_reducible exact lecternlaw14_wakes.mono _)
   | (with_reducible exact lecternref0_CopyNumbers.mono _ _)
   | (with_reducible exact lecternref0_EqReply.mono _ _ _ _ _ _ _)
   | (with_reducible exact session_Begin.mono _ _ _ _)
   | (with_reducible exact session_Close.mono _ _ _)
   | (with_reducible exact session_Done.mono _ _ _ _ _ _ _ _)
   | (with_reducible exact session_Open.mono _ _ _)
   | (with_reducible exact LeO.refl _)
   | (with_reducible exact LeO.none _)
   | (with_reducible refine LeO.ite ?_ ?_)
   | (with_reducible refine LeO.bind ?_ (fun _ => ?_))
   | exact ih0 _ _ _ _ _
   | exact ih1 _ _ _ _ _ _
   | exact ih2 _ _ _ _ _ _ _ _ _ _ _ _ _
   | exact ih3 _ _ _ _ _
   | exact ih4 _ _ _ _ _ _ _ _ _ _ _ _ _ _ _
   | exact ih5 _ _ _ _ _ _
   | exact lecternlaw14_wakes.mono _
   | exact lecternref0_CopyNumbers.mono _ _
   | exact lecternref0_EqReply.mono _ _ _ _ _ _ _
   | exact session_Begin.mono _ _ _ _
   | exact session_Close.mono _ _ _
   | exact session_Done.mono _ _ _ _ _ _ _ _
   | exact session_Open.mono _ _ _
   | exact LeO.none _
   | refine LeO.ite ?_ ?_
   | refine LeO.bind ?_ (fun _ => ?_)
  ·intro y0 y1 y2 y3 y4 y5 y6 y7 y8 y9 y10 y11 y12 y13 y14
   unfold lawOnce.j3
   repeat' first
   | (with_reducible exact ih0 _ _ _ _ _)
   | (with_reducible exact ih1 _ _ _ _ _ _)
   | (with_reducible exact ih2 _ _ _ _ _ _ _ _ _ _ _ _ _)
   | (with_reducible exact ih3 _ _ _ _ _)
   | (with_reducible exact ih4 _ _ _ _ _ _ _ _ _ _ _ _ _ _ _)
   | (with_reducible exact ih5 _ _ _ _ _ _)
   | (with_reducible exact lecternlaw14_wakes.mono _)
   | (with_reducible exact lecternref0_CopyNumbers.mono _ _)
   | (with_reducible exact lecternref0_EqReply.mono _ _ _ _ _ _ _)
   | (with_reducible exact session_Begin.mono _ _ _ _)
   | (with_reducible exact session_Close.mono _ _ _)
   | (with_reducible exact session_Done.mono _ _ _ _ _ _ _ _)
   | (with_reducible exact session_Open.mono _ _ _)
   | (with_reducible exact LeO.refl _)
   | (with_reducible exact LeO.none _)
   | (with_reducible refine LeO.ite ?_ ?_)
   | (with_reducible refine LeO.bind ?_ (fun _ => ?_))
   | exact ih0 _ _ _ _ _
   | exact ih1 _ _ _ _ _ _
   | exact ih2 _ _ _ _ _ _ _ _ _ _ _ _ _
   | exact ih3 _ _ _ _ _
   | exact ih4 _ _ _ _ _ _ _ _ _ _ _ _ _ _ _
   | exact ih5 _ _ _ _ _ _
   | exact lecternlaw14_wakes.mono _
   | exact lecternref0_CopyNumbers.mono _ _
   | exact lecternref0_EqReply.mono _ _ _ _ _ _ _
   | exact session_Begin.mono _ _ _ _
   | exact session_Close.mono _ _ _
   | exact session_Done.mono _ _ _ _ _ _ _ _
   | exact session_Open.mono _ _ _
   | exact LeO.none _
   | refine LeO.ite ?_ ?_
   | refine LeO.bind ?_ (fun _ => ?_)
  ·intro y0 y1 y2 y3 y4 y5
   unfold lawOnce.j4
   repeat' first
   | (with_reducible exact ih0 _ _ _ _ _)
   | (with_reducible exact ih1 _ _ _ _ _ _)
   | (with_reducible exact ih2 _ _ _ _ _ _ _ _ _ _ _ _ _)
   | (with_reducible exact ih3 _ _ _ _ _)
   | (with_reducible exact ih4 _ _ _ _ _ _ _ _ _ _ _ _ _ _ _)
   | (with_reducible exact ih5 _ _ _ _ _ _)
   | (with_reducible exact lecternlaw14_wakes.mono _)
   | (with_reducible exact lecternref0_CopyNumbers.mono _ _)
   | (with_reducible exact lecternref0_EqReply.mono _ _ _ _ _ _ _)
   | (with_reducible exact session_Begin.mono _ _ _ _)
   | (with_reducible exact session_Close.mono _ _ _)
   | (with_reducible exact session_Done.mono _ _ _ _ _ _ _ _)
   | (with_reducible exact session_Open.mono _ _ _)
   | (with_reducible exact LeO.refl _)
   | (with_reducible exact LeO.none _)
   | (with_reducible refine LeO.ite ?_ ?_)
   | (with_reducible refine LeO.bind ?_ (fun _ => ?_))
   | exact ih0 _ _ _ _ _
   | exact ih1 _ _ _ _ _ _
   | exact ih2 _ _ _ _ _ _ _ _ _ _ _ _ _
   | exact ih3 _ _ _ _ _
   | exact ih4 _ _ _ _ _ _ _ _ _ _ _ _ _ _ _
   | exact ih5 _ _ _ _ _ _
   | exact lecternlaw14_wakes.mono _
   | exact lecternref0_CopyNumbers.mono _ _
   | exact lecternref0_EqReply.mono _ _ _ _ _ _ _
   | exact session_Begin.mono _ _ _ _
   | exact session_Close.mono _ _ _
   | exact session_Done.mono _ _ _ _ _ _ _ _
   | exact session_Open.mono _ _ _
   | exact LeO.none _
   | refine LeO.ite ?_ ?_
   | refine LeO.bind ?_ (fun _ => ?_)
theorem lawOnce.mono : ∀ a0 k, LeO (lawOnce.f k a0) (lawOnce.f (k + 1) a0) := by
 intro a0 k
 obtain ⟨ih0, ih1, ih2, ih3, ih4, ih5⟩ := lawOnce.mono_l k
 unfold lawOnce.f
 repeat' first
   | (with_reducible exact ih0 _ _ _ _ _)
   | (with_reducible exact ih1 _ _ _ _ _ _)
   | (with_reducible exact ih2 _ _ _ _ _ _ _ _ _ _ _ _ _)
   | (with_reducible exact ih3 _ _ _ _ _)
   | (with_reducible exact ih4 _ _ _ _ _ _ _ _ _ _ _ _ _ _ _)
   | (with_reducible exact ih5 _ _ _ _ _ _)
   | (with_reducible exact lecternlaw14_wakes.mono _)
   | (with_reducible exact lecternref0_CopyNumbers.mono _ _)
   | (with_reducible exact lecternref0_EqReply.mono _ _ _ _ _ _ _)
   | (with_reducible exact session_Begin.mono _ _ _ _)
   | (with_reducible exact session_Close.mono _ _ _)
   | (with_reducible exact session_Done.mono _ _ _ _ _ _ _ _)
   | (with_reducible exact session_Open.mono _ _ _)
   | (with_reducible exact LeO.refl _)
   | (with_reducible exact LeO.none _)
   | (with_reducible refine LeO.ite ?_ ?_)
   | (with_reducible refine LeO.bind ?_ (fun _ => ?_))
   | exact ih0 _ _ _ _ _
   | exact ih1 _ _ _ _ _ _
   | exact ih2 _ _ _ _ _ _ _ _ _ _ _ _ _
   | exact ih3 _ _ _ _ _
   | exact ih4 _ _ _ _ _ _ _ _ _ _ _ _ _ _ _
   | exact ih5 _ _ _ _ _ _
   | exact lecternlaw14_wakes.mono _
   | exact lecternref0_CopyNumbers.mono _ _
   | exact lecternref0_EqReply.mono _ _ _ _ _ _ _
   | exact session_Begin.mono _ _ _ _
   | exact session_Close.mono _ _ _
   | exact session_Done.mono _ _ _ _ _ _ _ _
   | exact session_Open.mono _ _ _
   | exact LeO.none _
   | refine LeO.ite ?_ ?_
   | refine LeO.bind ?_ (fun _ => ?_)
def lawOnce.T29 : Bool × List (List Nat × List Nat) := (true, [([], []), ([], []), ([0, 1], [0, 1]), ([2], [2]), ([], []), ([], []), ([5], [5]), ([4, 6], [4, 6]), ([3, 7, 3], [3, 7]), ([], []), ([9], [9]), ([8, 10, 8], [8, 10]), ([11, 11, 0, 1, 2, 3, 4, 5, 6, 7, 8, 9, 10, 11], [0, 4, 11])])
def lawOnce.B29 : List Nat := [0, 0, 3, 7, 0, 0, 32, 112, 255, 0, 512, 2047, 4095]
theorem lawOnce.tab29 : rtab .any (opsOf Try.f7 29) = lawOnce.T29 := by kernel_rfl
theorem lawOnce.bits29 : waitsOk lawOnce.T29.2 lawOnce.B29 = true := by kernel_rfl
set_option maxHeartbeats 8000000 in
set_option maxRecDepth 100000 in
theorem lawOnce.calls (k : Nat) (A0 : Option Addr) (c0 : Nat) (l0 : List (S33)) (r : Bool) (w : World) (hr0 : Kd.C k33 w A0 l0.length l0) (hc0 : l0.length ≤ c0) (h : lawOnce.f k l0 = some r) :
  Calls Try.prog 7 #[.slice A0 l0.length c0] w fun e w' => e = .returned (.bool r) ∧ Below w.heap.size w w' := by
 have hu33 := Try.underlying33
 have hu31 := Try.underlying31
 have HR0 := Aside0.mk hr0
 have HC0 := Aside0.mk hc0
 clear hr0 hc0
 have HB := Aside0.mk (Below.refl w.heap.size w)
 have H : (lawOnce.l0 k l0 ([] : List (S88)) ([] : List Int) 0 0) = some r := h
 clear h
 have H' := Aside0.mk H
 clear H
 go_enter Try.func7, Try.ntmps7
 go_wp2
 go_loopg [3, 4, 5, 6] k (fun kq v3 v4 v5 v6 w' => ∃ (x3_1 : List (S88)) (x4_1 : List Int) (x5_1 : Int) (x6_1 : Int), v5 = .int .i64 x5_1 ∧ v6 = .int .i64 x6_1 ∧ Aside0 (lawOnce.l0 kq l0 x3_1 x4_1 x5_1 x6_1 = some r) ∧ Aside0 (kq ≤ k) ∧ Aside0 (Kd.S k88 88 w' w.heap.size (fun _ => True) v3 x3_1) ∧ Aside0 (Kd.Q (Kd.int .i64) 3 w' w.heap.size (fun _ => True) v4 x4_1) ∧ Aside0 (Below w.heap.size w w'))
 case atStart => exact ⟨(([] : List (S88))), (([] : List Int)), (0), (0), (by first | rfl | (simp; done) | (simp [*]; done)), (by first | rfl | (simp; done) | (simp [*]; done)), H', ⟨Nat.le_refl _⟩, ⟨by first | exact Kd.S_nil _ _ _ _ _ | exact Kd.N_nil _ _ _ _ _ | exact Kd.V_nil _ _ _ _ _ | exact Kd.Q_nil _ _ _ _ _ | exact Kd.R_nil _ _ _ _ _⟩, ⟨Kd.Q_of_R (by first | exact Kd.R_nil _ _ _ _ _ | exact Kd.N_nil _ _ _ _ _ | exact Kd.V_nil _ _ _ _ _ | exact Kd.Q_nil _ _ _ _ _ | exact Kd.S_nil _ _ _ _ _)⟩, ⟨by repeat (first | (with_reducible first | exact HB.out | apply below_alloc | apply pw_below_drewN | apply below_drew1) | exact HB.out)⟩⟩
 case round =>
  clear H'
  obtain ⟨x3_1, x4_1, x5_1, x6_1, rfl, rfl, HA, HK1, HO_3, HO_4, HB⟩ := hrel
  cases gk with
  | zero => exact absurd HA.out (by simp [lawOnce.l0])
  | succ k1 =>
   have H := HA.out
   clear HA
   simp only [lawOnce.l0] at H
   have HC2 := Aside0.mk H
   clear H
   go_upto_region 5 with (fail)
   go_cut [34] (fun v34 wc => ∃ (kq : Nat) (x34_1 : Bool), v34 = .bool x34_1 ∧ Aside0 (lawOnce.j1 kq l0 x3_1 x4_1 x5_1 x6_1 x34_1 = some r) ∧ Aside0 (kq ≤ k1) ∧ Aside0 (Kd.S k88 88 wc w.heap.size (fun _ => True) u3 x3_1) ∧ Aside0 (Kd.Q (Kd.int .i64) 3 wc w.heap.size (fun _ => True) u4 x4_1) ∧ Aside0 (Below w.heap.size w wc))
   case first =>
    have H := HC2.out
    clear HC2
    by_cases c3 : x6_1 < (l0.length : Int)
    ·rw [if_pos c3] at H
     have c3b0 : decide (x6_1 < (l0.length : Int)) = true := decide_eq_true c3
     clear c3
     (first | rw [c3b0] | (simp only [i64_w, i32_w]; rw [c3b0]) | skip)
     have H' := Aside0.mk H
     clear H
     go_wp2
     go_meet
     case rel => exact ⟨_, (decide (x6_1 < 40)), (by first | rfl | (simp; done) | (simp [*]; done)), H', ⟨by have := HK1.out; first | omega | exact Nat.le_refl _⟩, ⟨by (with_reducible repeat (first | apply Kd.S_alloc | apply Kd.S_drewN | apply Kd.S_drew)); exact HO_3.out⟩, ⟨by (with_reducible repeat (first | apply Kd.Q_alloc | apply Kd.Q_drewN | apply Kd.Q_drew)); exact HO_4.out⟩, ⟨by repeat (first | (with_reducible first | exact HB.out | apply below_alloc | apply pw_below_drewN | apply below_drew1) | exact HB.out)⟩⟩
    ·rw [if_neg c3] at H
     have c3b0 : decide (x6_1 < (l0.length : Int)) = false := decide_eq_false c3
     clear c3
     (first | rw [c3b0] | (simp only [i64_w, i32_w]; rw [c3b0]) | skip)
     have H' := Aside0.mk H
     clear H
     go_wp2
     go_meet
     case rel => exact ⟨_, (false), (by first | rfl | (simp; done) | (simp [*]; done)), H', ⟨by have := HK1.out; first | omega | exact Nat.le_refl _⟩, ⟨by (with_reducible repeat (first | apply Kd.S_alloc | apply Kd.S_drewN | apply Kd.S_drew)); exact HO_3.out⟩, ⟨by (with_reducible repeat (first | apply Kd.Q_alloc | apply Kd.Q_drewN | apply Kd.Q_drew)); exact HO_4.out⟩, ⟨by repeat (first | (with_reducible first | exact HB.out | apply below_alloc | apply pw_below_drewN | apply below_drew1) | exact HB.out)⟩⟩
   case rest =>
    clear HC2
    try clear p2
    try clear c3
    try clear c3b0
    obtain ⟨kq, x34_1, rfl, HA, HJ1, HO_3, HO_4, HB⟩ := hcut
    cases kq with
    | zero => exact absurd HA.out (by simp [lawOnce.j1])
    | succ kj1 =>
     have H := HA.out
     clear HA
     simp only [lawOnce.j1] at H
     by_cases c4 : x34_1 = true
     ·subst c4
      have H1 : (if 0 ≤ x6_1 then (if x6_1 < (l0.length : Int) then ((lecternlaw0_Within.f ((rd_T33 l0 x6_1).f0) 2).bind fun t340 => (if t340 = 0 then (lawOnce.j2 kj1 l0 x3_1 x4_1 (wrap64 (x5_1 + 1)) x6_1 true ((rd_T33 l0 x6_1).f0) ((rd_T33 l0 x6_1).f1) ((rd_T33 l0 x6_1).f2) ((rd_T33 l0 x6_1).f3) ((rd_T33 l0 x6_1).f4.f0) ((rd_T33 l0 x6_1).f4.f1) ((rd_T33 l0 x6_1).f4.f2)) else (lawOnce.j2 kj1 l0 x3_1 x4_1 (wrap64 (x5_1 + 1)) x6_1 ((x4_1.length : Int) == 0) ((rd_T33 l0 x6_1).f0) ((rd_T33 l0 x6_1).f1) ((rd_T33 l0 x6_1).f2) ((rd_T33 l0 x6_1).f3) ((rd_T33 l0 x6_1).f4.f0) ((rd_T33 l0 x6_1).f4.f1) ((rd_T33 l0 x6_1).f4.f2)))) else (none)) else (none)) = some r := by rw [if_pos rfl] at H; exact H
      clear H
      have H := H1
      clear H1
      by_cases c5 : 0 ≤ x6_1
      ·rw [if_pos c5] at H
       have c5b0 : decide (0 ≤ x6_1) = true := decide_eq_true c5
       clear c5
       by_cases c6 : x6_1 < (l0.length : Int)
       ·rw [if_pos c6] at H
        have c6b0 : decide (x6_1 < (l0.length : Int)) = true := decide_eq_true c6
        clear c6
        have HC7 := Aside0.mk H
        clear H
        have p338 : 0 ≤ (x6_1 : Int) := of_decide_eq_true (by assumption)
        have q338 : x6_1 < (l0.length : Int) := of_decide_eq_true (by assumption)
        obtain ⟨ad338, A338_6, c338_6, e338, hx338_0, hx338_1, hx338_2, hx338_3, hx338_4, hx338_5, hx338_6, hl338_6, hi338_6⟩ := at_T33 HR0.out x6_1 p338 q338
        cases e338
        replace hx338_0 := cb_ HB hx338_0
        replace hx338_1 := cb_ HB hx338_1
        replace hx338_2 := cb_ HB hx338_2
        replace hx338_3 := cb_ HB hx338_3
        replace hx338_4 := cb_ HB hx338_4
        replace hx338_5 := cb_ HB hx338_5
        replace hx338_6 := cb_ HB hx338_6
        have HR338_6 := Aside0.mk hi338_6
        have HC338_6 := Aside0.mk hl338_6
        clear hi338_6 hl338_6
        replace p338 := eq_true p338
        replace q338 := eq_true q338
        go_upto_region 9 with (first | ((with_reducible refine gate_dst (N := 7) rfl ?_); (try (refine gate_guard (by rfl) ?_; dsimp only)); refine box_event ?hg (N := 7) ?hd (cs := #[.int .i64 0, .int .i64 0, .int .i64 0, .int .i64 0, .int .i64 0, .int .i64 0, .slice none 0 0]) (t := 33) ?hr ?_; (case hd => rfl); (case hg => rfl); (case hr => first | (go_simp; done) | (go_simp; rfl)); intro gb339 hg w8 hbox hb; have n0_ := Aside0.mk (Kd.S_below (by (with_reducible repeat (first | apply Kd.S_alloc | apply Kd.S_drewN | apply Kd.S_drew)); exact HO_3.out) hb); have n1_ := Aside0.mk (Kd.Q_below (by (with_reducible repeat (first | apply Kd.Q_alloc | apply Kd.Q_drewN | apply Kd.Q_drew)); exact HO_4.out) hb); have n2_ := Aside0.mk (below_step (by repeat (first | (with_reducible first | exact HB.out | apply below_alloc | apply pw_below_drewN | apply below_drew1) | exact HB.out)) hb); have n3_ := Aside0.mk (hbox); have n4_ := Aside0.mk ((by rw [hg]; exact (below_size (by repeat (first | (with_reducible first | exact HB.out | apply below_alloc | apply pw_below_drewN | apply below_drew1) | exact HB.out))) : w.heap.size ≤ gb339)); have n5_ := Aside0.mk ((by rw [hg]; exact (below_size (by repeat (first | (with_reducible first | exact HB.out | apply below_alloc | apply pw_below_drewN | apply below_drew1) | exact HB.out))) : w.heap.size ≤ gb339)); clear HO_3; clear HO_4; clear HB; have HO_3 := n0_; have HO_4 := n1_; have HB := n2_; have BK339 := n3_; have GW339 := n4_; have GE339 := n5_; clear n0_ n1_ n2_ n3_ n4_ n5_; clear hb hbox hg; have hcz9_0 : w8.cell? ⟨gb339, 0, none⟩ = some (.int .i64 0) := (blk_cell BK339.out 0).trans rfl; have hcz9_1 : w8.cell? ⟨gb339, 1, none⟩ = some (.int .i64 0) := (blk_cell BK339.out 1).trans rfl; have hcz9_2 : w8.cell? ⟨gb339, 2, none⟩ = some (.int .i64 0) := (blk_cell BK339.out 2).trans rfl; have hcz9_3 : w8.cell? ⟨gb339, 3, none⟩ = some (.int .i64 0) := (blk_cell BK339.out 3).trans rfl; have hcz9_4 : w8.cell? ⟨gb339, 4, none⟩ = some (.int .i64 0) := (blk_cell BK339.out 4).trans rfl; have hcz9_5 : w8.cell? ⟨gb339, 5, none⟩ = some (.int .i64 0) := (blk_cell BK339.out 5).trans rfl; have hcz9_6 : w8.cell? ⟨gb339, 6, none⟩ = some (.slice none 0 0) := (blk_cell BK339.out 6).trans rfl; have hfz9_0 := blk_frozen BK339.out 0; have hfz9_1 := blk_frozen BK339.out 1; have hfz9_2 := blk_frozen BK339.out 2; have hfz9_3 := blk_frozen BK339.out 3; have hfz9_4 := blk_frozen BK339.out 4; have hfz9_5 := blk_frozen BK339.out 5; have hfz9_6 := blk_frozen BK339.out 6))
        (try simp only [Act.put, List.setIfInBounds_toArray, List.set_cons_zero, List.set_cons_succ])
        go_cut [51] (fun v51 wc => ∃ (kq : Nat) (x51_6 : Bool), v51 = .bool x51_6 ∧ Aside0 (lawOnce.j2 kq l0 x3_1 x4_1 (wrap64 (x5_1 + 1)) x6_1 x51_6 ((rd_T33 l0 x6_1).f0) ((rd_T33 l0 x6_1).f1) ((rd_T33 l0 x6_1).f2) ((rd_T33 l0 x6_1).f3) ((rd_T33 l0 x6_1).f4.f0) ((rd_T33 l0 x6_1).f4.f1) ((rd_T33 l0 x6_1).f4.f2) = some r) ∧ Aside0 (kq ≤ kj1) ∧ Aside0 (Kd.S k88 88 wc w.heap.size (fun _ => True) u3 x3_1) ∧ Aside0 (Kd.Q (Kd.int .i64) 3 wc w.heap.size (fun _ => True) u4 x4_1) ∧ Aside0 (wc.heap[gb339]? = some ((bx33 l0 x6_1 A338_6 c338_6))) ∧ Aside0 (Below w.heap.size w wc))
        case first =>
         have H := HC7.out
         clear HC7
         replace H := Option.bind_eq_some_iff.mp H
         obtain ⟨t340, A100, H⟩ := H
         replace H : (if t340 = 0 then (lawOnce.j2 kj1 l0 x3_1 x4_1 (wrap64 (x5_1 + 1)) x6_1 true ((rd_T33 l0 x6_1).f0) ((rd_T33 l0 x6_1).f1) ((rd_T33 l0 x6_1).f2) ((rd_T33 l0 x6_1).f3) ((rd_T33 l0 x6_1).f4.f0) ((rd_T33 l0 x6_1).f4.f1) ((rd_T33 l0 x6_1).f4.f2)) else (lawOnce.j2 kj1 l0 x3_1 x4_1 (wrap64 (x5_1 + 1)) x6_1 ((x4_1.length : Int) == 0) ((rd_T33 l0 x6_1).f0) ((rd_T33 l0 x6_1).f1) ((rd_T33 l0 x6_1).f2) ((rd_T33 l0 x6_1).f3) ((rd_T33 l0 x6_1).f4.f0) ((rd_T33 l0 x6_1).f4.f1) ((rd_T33 l0 x6_1).f4.f2))) = some r := H
         have A10 := Aside0.mk A100
         clear A100
         by_cases c11 : t340 = 0
         ·rw [if_pos c11] at H
          have c11b0 : (t340 == 0) = true := beq_iff_eq.mpr c11
          have c11b1 : (t340 != 0) = false := bne_eq_false_iff_eq.mpr c11
          clear c11
          (first | rw [c11b0] | (simp only [i64_w, i32_w]; rw [c11b0]) | skip)
          have H' := Aside0.mk H
          clear H
          have hcz12_0 : w8.cell? ⟨gb339, 0, none⟩ = some (.int .i64 0) := (blk_cell BK339.out 0).trans rfl
          have hcz12_1 : w8.cell? ⟨gb339, 1, none⟩ = some (.int .i64 0) := (blk_cell BK339.out 1).trans rfl
          have hcz12_2 : w8.cell? ⟨gb339, 2, none⟩ = some (.int .i64 0) := (blk_cell BK339.out 2).trans rfl
          have hcz12_3 : w8.cell? ⟨gb339, 3, none⟩ = some (.int .i64 0) := (blk_cell BK339.out 3).trans rfl
          have hcz12_4 : w8.cell? ⟨gb339, 4, none⟩ = some (.int .i64 0) := (blk_cell BK339.out 4).trans rfl
          have hcz12_5 : w8.cell? ⟨gb339, 5, none⟩ = some (.int .i64 0) := (blk_cell BK339.out 5).trans rfl
          have hcz12_6 : w8.cell? ⟨gb339, 6, none⟩ = some (.slice none 0 0) := (blk_cell BK339.out 6).trans rfl
          have hfz12_0 := blk_frozen BK339.out 0
          have hfz12_1 := blk_frozen BK339.out 1
          have hfz12_2 := blk_frozen BK339.out 2
          have hfz12_3 := blk_frozen BK339.out 3
          have hfz12_4 := blk_frozen BK339.out 4
          have hfz12_5 := blk_frozen BK339.out 5
          have hfz12_6 := blk_frozen BK339.out 6
          go_wp2_with (first | ((with_reducible refine gate_callee (f := 21) rfl ?_); refine goesL_ (some 45) rfl rfl Try.func21 (by kernel_rfl) rfl #[.int .i64 ((rd_T33 l0 x6_1).f0), .int .i64 2] rfl (by (try simp only [List.map_toArray, List.map_cons, List.map_nil]); first | done | rfl | (simp only [List.length_drop, List.length_take]; rfl)) ?_; (with_reducible refine (lecternlaw0_Within.calls ((rd_T33 l0 x6_1).f0) 2 t340 _ A10.out).mono ?_); rintro e w' ⟨rfl, ⟨nd, rfl⟩⟩; refine ⟨_, rfl, ?_⟩))
          go_meet
          case rel => exact ⟨_, (true), (by first | rfl | (simp; done) | (simp [*]; done)), H', ⟨by have := HK1.out; have := HJ1.out; first | omega | exact Nat.le_refl _⟩, ⟨by (with_reducible repeat (first | apply Kd.S_alloc | apply Kd.S_drewN | apply Kd.S_drew)); exact Kd.S_mono (Kd.S_far (p := ⟨gb339, 6, none⟩) (Kd.S_far (p := ⟨gb339, 5, none⟩) (Kd.S_far (p := ⟨gb339, 4, none⟩) (Kd.S_far (p := ⟨gb339, 3, none⟩) (Kd.S_far (p := ⟨gb339, 2, none⟩) (Kd.S_far (p := ⟨gb339, 1, none⟩) (Kd.S_far (p := ⟨gb339, 0, none⟩) (Kd.S_types HO_3.out BK339.out (by decide)) (fun _ hk => hk.2) (.int .i64 ((rd_T33 l0 x6_1).f0))) (fun _ hk => hk.2) (.int .i64 ((rd_T33 l0 x6_1).f1))) (fun _ hk => hk.2) (.int .i64 ((rd_T33 l0 x6_1).f2))) (fun _ hk => hk.2) (.int .i64 ((rd_T33 l0 x6_1).f3))) (fun _ hk => hk.2) (.int .i64 ((rd_T33 l0 x6_1).f4.f0))) (fun _ hk => hk.2) (.int .i64 ((rd_T33 l0 x6_1).f4.f1))) (fun _ hk => hk.2) (.slice A338_6 ((rd_T33 l0 x6_1).f4.f2).length c338_6)) (fun _ hk => trivial)⟩, ⟨by (with_reducible repeat (first | apply Kd.Q_alloc | apply Kd.Q_drewN | apply Kd.Q_drew)); exact Kd.Q_mono (Kd.Q_far (p := ⟨gb339, 6, none⟩) (Kd.Q_far (p := ⟨gb339, 5, none⟩) (Kd.Q_far (p := ⟨gb339, 4, none⟩) (Kd.Q_far (p := ⟨gb339, 3, none⟩) (Kd.Q_far (p := ⟨gb339, 2, none⟩) (Kd.Q_far (p := ⟨gb339, 1, none⟩) (Kd.Q_far (p := ⟨gb339, 0, none⟩) (Kd.Q_types HO_4.out BK339.out (by decide)) (fun _ hk => hk.2) (.int .i64 ((rd_T33 l0 x6_1).f0))) (fun _ hk => hk.2) (.int .i64 ((rd_T33 l0 x6_1).f1))) (fun _ hk => hk.2) (.int .i64 ((rd_T33 l0 x6_1).f2))) (fun _ hk => hk.2) (.int .i64 ((rd_T33 l0 x6_1).f3))) (fun _ hk => hk.2) (.int .i64 ((rd_T33 l0 x6_1).f4.f0))) (fun _ hk => hk.2) (.int .i64 ((rd_T33 l0 x6_1).f4.f1))) (fun _ hk => hk.2) (.slice A338_6 ((rd_T33 l0 x6_1).f4.f2).length c338_6)) (fun _ hk => trivial)⟩, ⟨by (with_reducible repeat (first | refine blk_drewN ?_ _ | refine blk_drew ?_ | refine blk_alloc ?_ _)); refine blk_put (cs := #[.int .i64 ((rd_T33 l0 x6_1).f0), .int .i64 ((rd_T33 l0 x6_1).f1), .int .i64 ((rd_T33 l0 x6_1).f2), .int .i64 ((rd_T33 l0 x6_1).f3), .int .i64 ((rd_T33 l0 x6_1).f4.f0), .int .i64 ((rd_T33 l0 x6_1).f4.f1), .slice none 0 0]) ?_ 6 _ rfl; (with_reducible repeat (first | refine blk_drewN ?_ _ | refine blk_drew ?_ | refine blk_alloc ?_ _)); refine blk_put (cs := #[.int .i64 ((rd_T33 l0 x6_1).f0), .int .i64 ((rd_T33 l0 x6_1).f1), .int .i64 ((rd_T33 l0 x6_1).f2), .int .i64 ((rd_T33 l0 x6_1).f3), .int .i64 ((rd_T33 l0 x6_1).f4.f0), .int .i64 0, .slice none 0 0]) ?_ 5 _ rfl; (with_reducible repeat (first | refine blk_drewN ?_ _ | refine blk_drew ?_ | refine blk_alloc ?_ _)); refine blk_put (cs := #[.int .i64 ((rd_T33 l0 x6_1).f0), .int .i64 ((rd_T33 l0 x6_1).f1), .int .i64 ((rd_T33 l0 x6_1).f2), .int .i64 ((rd_T33 l0 x6_1).f3), .int .i64 0, .int .i64 0, .slice none 0 0]) ?_ 4 _ rfl; (with_reducible repeat (first | refine blk_drewN ?_ _ | refine blk_drew ?_ | refine blk_alloc ?_ _)); refine blk_put (cs := #[.int .i64 ((rd_T33 l0 x6_1).f0), .int .i64 ((rd_T33 l0 x6_1).f1), .int .i64 ((rd_T33 l0 x6_1).f2), .int .i64 0, .int .i64 0, .int .i64 0, .slice none 0 0]) ?_ 3 _ rfl; (with_reducible repeat (first | refine blk_drewN ?_ _ | refine blk_drew ?_ | refine blk_alloc ?_ _)); refine blk_put (cs := #[.int .i64 ((rd_T33 l0 x6_1).f0), .int .i64 ((rd_T33 l0 x6_1).f1), .int .i64 0, .int .i64 0, .int .i64 0, .int .i64 0, .slice none 0 0]) ?_ 2 _ rfl; (with_reducible repeat (first | refine blk_drewN ?_ _ | refine blk_drew ?_ | refine blk_alloc ?_ _)); refine blk_put (cs := #[.int .i64 ((rd_T33 l0 x6_1).f0), .int .i64 0, .int .i64 0, .int .i64 0, .int .i64 0, .int .i64 0, .slice none 0 0]) ?_ 1 _ rfl; (with_reducible repeat (first | refine blk_drewN ?_ _ | refine blk_drew ?_ | refine blk_alloc ?_ _)); refine blk_put (cs := #[.int .i64 0, .int .i64 0, .int .i64 0, .int .i64 0, .int .i64 0, .int .i64 0, .slice none 0 0]) ?_ 0 _ rfl; (with_reducible repeat (first | refine blk_drewN ?_ _ | refine blk_drew ?_ | refine blk_alloc ?_ _)); exact BK339.out⟩, ⟨by repeat (first | (with_reducible first | exact HB.out | apply below_alloc | apply pw_below_drewN | apply below_drew1 | refine below_set ?_ GE339.out) | exact HB.out)⟩⟩
         ·rw [if_neg c11] at H
          have c11b0 : (t340 == 0) = false := beq_eq_false_iff_ne.mpr c11
          have c11b1 : (t340 != 0) = true := bne_iff_ne.mpr c11
          (first | rw [c11b0] | (simp only [i64_w, i32_w]; rw [c11b0]) | skip)
          have H' := Aside0.mk H
          clear H
          have hcz13_0 : w8.cell? ⟨gb339, 0, none⟩ = some (.int .i64 0) := (blk_cell BK339.out 0).trans rfl
          have hcz13_1 : w8.cell? ⟨gb339, 1, none⟩ = some (.int .i64 0) := (blk_cell BK339.out 1).trans rfl
          have hcz13_2 : w8.cell? ⟨gb339, 2, none⟩ = some (.int .i64 0) := (blk_cell BK339.out 2).trans rfl
          have hcz13_3 : w8.cell? ⟨gb339, 3, none⟩ = some (.int .i64 0) := (blk_cell BK339.out 3).trans rfl
          have hcz13_4 : w8.cell? ⟨gb339, 4, none⟩ = some (.int .i64 0) := (blk_cell BK339.out 4).trans rfl
          have hcz13_5 : w8.cell? ⟨gb339, 5, none⟩ = some (.int .i64 0) := (blk_cell BK339.out 5).trans rfl
          have hcz13_6 : w8.cell? ⟨gb339, 6, none⟩ = some (.slice none 0 0) := (blk_cell BK339.out 6).trans rfl
          have hfz13_0 := blk_frozen BK339.out 0
          have hfz13_1 := blk_frozen BK339.out 1
          have hfz13_2 := blk_frozen BK339.out 2
          have hfz13_3 := blk_frozen BK339.out 3
          have hfz13_4 := blk_frozen BK339.out 4
          have hfz13_5 := blk_frozen BK339.out 5
          have hfz13_6 := blk_frozen BK339.out 6
          go_wp2_with (first | ((with_reducible refine gate_callee (f := 21) rfl ?_); refine goesL_ (some 45) rfl rfl Try.func21 (by kernel_rfl) rfl #[.int .i64 ((rd_T33 l0 x6_1).f0), .int .i64 2] rfl (by (try simp only [List.map_toArray, List.map_cons, List.map_nil]); first | done | rfl | (simp only [List.length_drop, List.length_take]; rfl)) ?_; (with_reducible refine (lecternlaw0_Within.calls ((rd_T33 l0 x6_1).f0) 2 t340 _ A10.out).mono ?_); rintro e w' ⟨rfl, ⟨nd, rfl⟩⟩; refine ⟨_, rfl, ?_⟩; obtain ⟨Ao14, co14, eo14, _⟩ := Kd.Q_slice HO_4.out; subst eo14))
          go_meet
          case rel => exact ⟨_, (((x4_1.length : Int) == 0)), (by first | rfl | (simp; done) | (simp [*]; done)), H', ⟨by have := HK1.out; have := HJ1.out; first | omega | exact Nat.le_refl _⟩, ⟨by (with_reducible repeat (first | apply Kd.S_alloc | apply Kd.S_drewN | apply Kd.S_drew)); exact Kd.S_mono (Kd.S_far (p := ⟨gb339, 6, none⟩) (Kd.S_far (p := ⟨gb339, 5, none⟩) (Kd.S_far (p := ⟨gb339, 4, none⟩) (Kd.S_far (p := ⟨gb339, 3, none⟩) (Kd.S_far (p := ⟨gb339, 2, none⟩) (Kd.S_far (p := ⟨gb339, 1, none⟩) (Kd.S_far (p := ⟨gb339, 0, none⟩) (Kd.S_types HO_3.out BK339.out (by decide)) (fun _ hk => hk.2) (.int .i64 ((rd_T33 l0 x6_1).f0))) (fun _ hk => hk.2) (.int .i64 ((rd_T33 l0 x6_1).f1))) (fun _ hk => hk.2) (.int .i64 ((rd_T33 l0 x6_1).f2))) (fun _ hk => hk.2) (.int .i64 ((rd_T33 l0 x6_1).f3))) (fun _ hk => hk.2) (.int .i64 ((rd_T33 l0 x6_1).f4.f0))) (fun _ hk => hk.2) (.int .i64 ((rd_T33 l0 x6_1).f4.f1))) (fun _ hk => hk.2) (.slice A338_6 ((rd_T33 l0 x6_1).f4.f2).length c338_6)) (fun _ hk => trivial)⟩, ⟨by (with_reducible repeat (first | apply Kd.Q_alloc | apply Kd.Q_drewN | apply Kd.Q_drew)); exact Kd.Q_mono (Kd.Q_far (p := ⟨gb339, 6, none⟩) (Kd.Q_far (p := ⟨gb339, 5, none⟩) (Kd.Q_far (p := ⟨gb339, 4, none⟩) (Kd.Q_far (p := ⟨gb339, 3, none⟩) (Kd.Q_far (p := ⟨gb339, 2, none⟩) (Kd.Q_far (p := ⟨gb339, 1, none⟩) (Kd.Q_far (p := ⟨gb339, 0, none⟩) (Kd.Q_types HO_4.out BK339.out (by decide)) (fun _ hk => hk.2) (.int .i64 ((rd_T33 l0 x6_1).f0))) (fun _ hk => hk.2) (.int .i64 ((rd_T33 l0 x6_1).f1))) (fun _ hk => hk.2) (.int .i64 ((rd_T33 l0 x6_1).f2))) (fun _ hk => hk.2) (.int .i64 ((rd_T33 l0 x6_1).f3))) (fun _ hk => hk.2) (.int .i64 ((rd_T33 l0 x6_1).f4.f0))) (fun _ hk => hk.2) (.int .i64 ((rd_T33 l0 x6_1).f4.f1))) (fun _ hk => hk.2) (.slice A338_6 ((rd_T33 l0 x6_1).f4.f2).length c338_6)) (fun _ hk => trivial)⟩, ⟨by (with_reducible repeat (first | refine blk_drewN ?_ _ | refine blk_drew ?_ | refine blk_alloc ?_ _)); refine blk_put (cs := #[.int .i64 ((rd_T33 l0 x6_1).f0), .int .i64 ((rd_T33 l0 x6_1).f1), .int .i64 ((rd_T33 l0 x6_1).f2), .int .i64 ((rd_T33 l0 x6_1).f3), .int .i64 ((rd_T33 l0 x6_1).f4.f0), .int .i64 ((rd_T33 l0 x6_1).f4.f1), .slice none 0 0]) ?_ 6 _ rfl; (with_reducible repeat (first | refine blk_drewN ?_ _ | refine blk_drew ?_ | refine blk_alloc ?_ _)); refine blk_put (cs := #[.int .i64 ((rd_T33 l0 x6_1).f0), .int .i64 ((rd_T33 l0 x6_1).f1), .int .i64 ((rd_T33 l0 x6_1).f2), .int .i64 ((rd_T33 l0 x6_1).f3), .int .i64 ((rd_T33 l0 x6_1).f4.f0), .int .i64 0, .slice none 0 0]) ?_ 5 _ rfl; (with_reducible repeat (first | refine blk_drewN ?_ _ | refine blk_drew ?_ | refine blk_alloc ?_ _)); refine blk_put (cs := #[.int .i64 ((rd_T33 l0 x6_1).f0), .int .i64 ((rd_T33 l0 x6_1).f1), .int .i64 ((rd_T33 l0 x6_1).f2), .int .i64 ((rd_T33 l0 x6_1).f3), .int .i64 0, .int .i64 0, .slice none 0 0]) ?_ 4 _ rfl; (with_reducible repeat (first | refine blk_drewN ?_ _ | refine blk_drew ?_ | refine blk_alloc ?_ _)); refine blk_put (cs := #[.int .i64 ((rd_T33 l0 x6_1).f0), .int .i64 ((rd_T33 l0 x6_1).f1), .int .i64 ((rd_T33 l0 x6_1).f2), .int .i64 0, .int .i64 0, .int .i64 0, .slice none 0 0]) ?_ 3 _ rfl; (with_reducible repeat (first | refine blk_drewN ?_ _ | refine blk_drew ?_ | refine blk_alloc ?_ _)); refine blk_put (cs := #[.int .i64 ((rd_T33 l0 x6_1).f0), .int .i64 ((rd_T33 l0 x6_1).f1), .int .i64 0, .int .i64 0, .int .i64 0, .int .i64 0, .slice none 0 0]) ?_ 2 _ rfl; (with_reducible repeat (first | refine blk_drewN ?_ _ | refine blk_drew ?_ | refine blk_alloc ?_ _)); refine blk_put (cs := #[.int .i64 ((rd_T33 l0 x6_1).f0), .int .i64 0, .int .i64 0, .int .i64 0, .int .i64 0, .int .i64 0, .slice none 0 0]) ?_ 1 _ rfl; (with_reducible repeat (first | refine blk_drewN ?_ _ | refine blk_drew ?_ | refine blk_alloc ?_ _)); refine blk_put (cs := #[.int .i64 0, .int .i64 0, .int .i64 0, .int .i64 0, .int .i64 0, .int .i64 0, .slice none 0 0]) ?_ 0 _ rfl; (with_reducible repeat (first | refine blk_drewN ?_ _ | refine blk_drew ?_ | refine blk_alloc ?_ _)); exact BK339.out⟩, ⟨by repeat (first | (with_reducible first | exact HB.out | apply below_alloc | apply pw_below_drewN | apply below_drew1 | refine below_set ?_ GE339.out) | exact HB.out)⟩⟩
        case rest =>
         clear HC7
         try clear c1
         try clear c2
         try clear p2
         try clear c3
         try clear c3b0
         try clear p3
         try clear q3
         try clear hx3
         try clear c4
         try clear c5
         try clear c5b0
         try clear c6
         try clear c6b0
         try clear p6
         try clear c7
         try clear c11
         try clear c11b0
         try clear c11b1
         try clear hcz12_0
         try clear hcz12_1
         try clear hcz12_2
         try clear hcz12_3
         try clear hcz12_4
         try clear hcz12_5
         try clear hcz12_6
         try clear hcz13_0
         try clear hcz13_1
         try clear hcz13_2
         try clear hcz13_3
         try clear hcz13_4
         try clear hcz13_5
         try clear hcz13_6
         try clear hcz9_0
         try clear hcz9_1
         try clear hcz9_2
         try clear hcz9_3
         try clear hcz9_4
         try clear hcz9_5
         try clear hcz9_6
         try clear hfz12_0
         try clear hfz12_1
         try clear hfz12_2
         try clear hfz12_3
         try clear hfz12_4
         try clear hfz12_5
         try clear hfz12_6
         try clear hfz13_0
         try clear hfz13_1
         try clear hfz13_2
         try clear hfz13_3
         try clear hfz13_4
         try clear hfz13_5
         try clear hfz13_6
         try clear hfz9_0
         try clear hfz9_1
         try clear hfz9_2
         try clear hfz9_3
         try clear hfz9_4
         try clear hfz9_5
         try clear hfz9_6
         try clear hx338_0
         try clear hx338_1
         try clear hx338_2
         try clear hx338_3
         try clear hx338_4
         try clear hx338_5
         try clear hx338_6
         try clear p2
         try clear p338
         try clear q338
         obtain ⟨kq, x51_6, rfl, HA, HJ6, HO_3, HO_4, BK339, HB⟩ := hcut
         cases kq with
         | zero => exact absurd HA.out (by simp [lawOnce.j2])
         | succ kj6 =>
          have H := HA.out
          clear HA
          simp only [lawOnce.j2] at H
          have HC15 := Aside0.mk H
          clear H
          go_upto_if 51 with (fail)
          go_cut [3, 4] (fun v3 v4 wc => ∃ (kq : Nat) (x3_14 : List (S88)) (x4_14 : List Int), Aside0 (lawOnce.j5 kq l0 x3_14 x4_14 (wrap64 (x5_1 + 1)) x6_1 = some r) ∧ Aside0 (kq ≤ kj6) ∧ Aside0 (Kd.S k88 88 wc w.heap.size (fun _ => True) v3 x3_14) ∧ Aside0 (Kd.Q (Kd.int .i64) 3 wc w.heap.size (fun _ => True) v4 x4_14) ∧ Aside0 (wc.heap[gb339]? = some ((bx33 l0 x6_1 A338_6 c338_6))) ∧ Aside0 (Below w.heap.size w wc))
          case first =>
           have H := HC15.out
           clear HC15
           by_cases c16 : x51_6 = true
           ·as_aux_lemma =>
             subst c16
             have H1 : ((session_Open.f kj6 x3_1 (wrap64 (x5_1 + 1))).bind fun bt341 => ((lecternlaw14_num.f bt341.2).bind fun t345 => (if t345 = 0 then (if (x4_1.length : Int) = 8 then (if 0 < (x4_1.length : Int) then ((session_Begin.f kj6 bt341.1 (rd x4_1 0) 1).bind fun bt347 => ((lecternlaw14_num.f bt347.2.2.2.2).bind fun t355 => (if t355 = 9 then (if 1 ≤ (x4_1.length : Int) then ((some (x4_1.drop (1 : Int).toNat : List Int)).bind fun y356 => (if y356.length < 17592186044416 then (lawOnce.j5 kj6 l0 bt341.1 (y356 ++ [(wrap64 (x5_1 + 1))]) (wrap64 (x5_1 + 1)) x6_1) else (none))) else (none)) else (none)))) else (none)) else (if x4_1.length < 17592186044416 then (lawOnce.j5 kj6 l0 bt341.1 (x4_1 ++ [(wrap64 (x5_1 + 1))]) (wrap64 (x5_1 + 1)) x6_1) else (none))) else (none)))) = some r := by rw [if_pos rfl] at H; exact H
             clear H
             have H := H1
             clear H1
             replace H := Option.bind_eq_some_iff.mp H
             obtain ⟨⟨t341, t342⟩, A170, H⟩ := H
             replace H : ((lecternlaw14_num.f t342).bind fun t345 => (if t345 = 0 then (if (x4_1.length : Int) = 8 then (if 0 < (x4_1.length : Int) then ((session_Begin.f kj6 t341 (rd x4_1 0) 1).bind fun bt347 => ((lecternlaw14_num.f bt347.2.2.2.2).bind fun t355 => (if t355 = 9 then (if 1 ≤ (x4_1.length : Int) then ((some (x4_1.drop (1 : Int).toNat : List Int)).bind fun y356 => (if y356.length < 17592186044416 then (lawOnce.j5 kj6 l0 t341 (y356 ++ [(wrap64 (x5_1 + 1))]) (wrap64 (x5_1 + 1)) x6_1) else (none))) else (none)) else (none)))) else (none)) else (if x4_1.length < 17592186044416 then (lawOnce.j5 kj6 l0 t341 (x4_1 ++ [(wrap64 (x5_1 + 1))]) (wrap64 (x5_1 + 1)) x6_1) else (none))) else (none))) = some r := H
             have A17 := Aside0.mk A170
             clear A170
             replace H := Option.bind_eq_some_iff.mp H
             obtain ⟨t345, A180, H⟩ := H
             replace H : (if t345 = 0 then (if (x4_1.length : Int) = 8 then (if 0 < (x4_1.length : Int) then ((session_Begin.f kj6 t341 (rd x4_1 0) 1).bind fun bt347 => ((lecternlaw14_num.f bt347.2.2.2.2).bind fun t355 => (if t355 = 9 then (if 1 ≤ (x4_1.length : Int) then ((some (x4_1.drop (1 : Int).toNat : List Int)).bind fun y356 => (if y356.length < 17592186044416 then (lawOnce.j5 kj6 l0 t341 (y356 ++ [(wrap64 (x5_1 + 1))]) (wrap64 (x5_1 + 1)) x6_1) else (none))) else (none)) else (none)))) else (none)) else (if x4_1.length < 17592186044416 then (lawOnce.j5 kj6 l0 t341 (x4_1 ++ [(wrap64 (x5_1 + 1))]) (wrap64 (x5_1 + 1)) x6_1) else (none))) else (none)) = some r := H
             have A18 := Aside0.mk A180
             clear A180
             by_cases c19 : t345 = 0
             ·rw [if_pos c19] at H
              have c19b0 : (t345 == 0) = true := beq_iff_eq.mpr c19
              have c19b1 : (t345 != 0) = false := bne_eq_false_iff_eq.mpr c19
              clear c19
              (first | rw [c19b0] | (simp only [i64_w, i32_w]; rw [c19b0]) | skip)
              by_cases c20 : (x4_1.length : Int) = 8
              ·rw [if_pos c20] at H
               have c20b0 : ((x4_1.length : Int) == 8) = true := beq_iff_eq.mpr c20
               have c20b1 : ((x4_1.length : Int) != 8) = false := bne_eq_false_iff_eq.mpr c20
               clear c20
               by_cases c21 : 0 < (x4_1.length : Int)
               ·rw [if_pos c21] at H
                have c21b0 : decide (0 < (x4_1.length : Int)) = true := decide_eq_true c21
                have c21b1 : decide (0 < x4_1.length) = true := decide_eq_true (by omega)
                clear c21
                replace H := Option.bind_eq_some_iff.mp H
                obtain ⟨⟨t347, t348, t349, t352, t353⟩, A220, H⟩ := H
                replace H : ((lecternlaw14_num.f t353).bind fun t355 => (if t355 = 9 then (if 1 ≤ (x4_1.length : Int) then ((some (x4_1.drop (1 : Int).toNat : List Int)).bind fun y356 => (if y356.length < 17592186044416 then (lawOnce.j5 kj6 l0 t341 (y356 ++ [(wrap64 (x5_1 + 1))]) (wrap64 (x5_1 + 1)) x6_1) else (none))) else (none)) else (none))) = some r := H
                have A22 := Aside0.mk A220
                clear A220
                replace H := Option.bind_eq_some_iff.mp H
                obtain ⟨t355, A230, H⟩ := H
                replace H : (if t355 = 9 then (if 1 ≤ (x4_1.length : Int) then ((some (x4_1.drop (1 : Int).toNat : List Int)).bind fun y356 => (if y356.length < 17592186044416 then (lawOnce.j5 kj6 l0 t341 (y356 ++ [(wrap64 (x5_1 + 1))]) (wrap64 (x5_1 + 1)) x6_1) else (none))) else (none)) else (none)) = some r := H
                have A23 := Aside0.mk A230
                clear A230
                by_cases c24 : t355 = 9
                ·rw [if_pos c24] at H
                 have c24b0 : (t355 == 9) = true := beq_iff_eq.mpr c24
                 have c24b1 : (t355 != 9) = false := bne_eq_false_iff_eq.mpr c24
                 clear c24
                 by_cases c25 : 1 ≤ (x4_1.length : Int)
                 ·rw [if_pos c25] at H
                  have c25b0 := eq_true c25
                  have c25b1 : decide (1 ≤ (x4_1.length : Int)) = true := decide_eq_true c25
                  clear c25
                  obtain ⟨y356, hy356⟩ : ∃ y_ : List Int, y_ = (x4_1.drop (1 : Int).toNat) := ⟨_, rfl⟩
                  replace H : (if y356.length < 17592186044416 then (lawOnce.j5 kj6 l0 t341 (y356 ++ [(wrap64 (x5_1 + 1))]) (wrap64 (x5_1 + 1)) x6_1) else (none)) = some r := by first | (rw [hy356]; with_reducible exact H) | (have H2_ := (Option.bind_some _ _).symm.trans H; rw [hy356]; with_reducible exact H2_) | (have H2_ := (Option.bind_some _ _).symm.trans H; with_reducible exact H2_) | with_reducible exact H | (rw [hy356]; exact H) | exact H
                  have Ny356 := Aside0.mk hy356
                  clear hy356
                  by_cases c26 : y356.length < 17592186044416
                  ·rw [if_pos c26] at H
                   have LMc26 := Aside0.mk c26
                   clear c26
                   obtain ⟨y359, hy359⟩ : ∃ y_ : List Int, y_ = (y356 ++ [(wrap64 (x5_1 + 1))]) := ⟨_, rfl⟩
                   replace H : (lawOnce.j5 kj6 l0 t341 y359 (wrap64 (x5_1 + 1)) x6_1) = some r := by first | (rw [hy359]; with_reducible exact H) | (have H2_ := (Option.bind_some _ _).symm.trans H; rw [hy359]; with_reducible exact H2_) | (have H2_ := (Option.bind_some _ _).symm.trans H; with_reducible exact H2_) | with_reducible exact H | (rw [hy359]; exact H) | exact H
                   have Ny359 := Aside0.mk hy359
                   clear hy359
                   have H' := Aside0.mk H
                   clear H
                   obtain ⟨Ao27, co27, eo27⟩ := Kd.S_slice HO_3.out
                   subst eo27
                   go_wp2_with (first | ((with_reducible refine gate_callee (f := 22) rfl ?_); refine goesL_ (some 55) rfl rfl Try.func22 (by kernel_rfl) rfl #[.slice Ao27 x3_1.length co27, .int .i64 (wrap64 (x5_1 + 1))] rfl (by (try simp only [List.map_toArray, List.map_cons, List.map_nil]); first | done | rfl | (simp only [List.length_drop, List.length_take]; rfl)) ?_; (with_reducible refine (session_Open.calls kj6 _ _ x3_1 (wrap64 (x5_1 + 1)) t341 t342 _ ?side1 ?side2 A17.out).mono ?_); (case side1 => repeat (first | exact (Kd.S_reads' HO_3.out).2.2 | (with_reducible refine Kd.C_alloc ?_ _) | (with_reducible refine Kd.C_drewN ?_ _) | (with_reducible refine Kd.C_drew ?_))); (case side2 => exact (Kd.S_reads' HO_3.out).2.1); rintro e w28 ⟨v343, rfl, ho0, hb⟩; refine ⟨_, rfl, ?_⟩; have n0_ := Aside0.mk (Kd.S_elder' (by (with_reducible repeat (first | apply Kd.S_alloc | apply Kd.S_drewN | apply Kd.S_drew)); exact HO_3.out) (Kd.S_base ho0) hb); have n1_ := Aside0.mk (Kd.Q_below (by (with_reducible repeat (first | apply Kd.Q_alloc | apply Kd.Q_drewN | apply Kd.Q_drew)); exact HO_4.out) hb); have n2_ := Aside0.mk (Kd.S_lower (Kd.S_new' ho0 (Kd.S_lt (by (with_reducible repeat (first | apply Kd.S_alloc | apply Kd.S_drewN | apply Kd.S_drew)); exact HO_3.out))) (below_size (by repeat (first | (with_reducible first | exact HB.out | apply below_alloc | apply pw_below_drewN | apply below_drew1 | refine below_set ?_ GE339.out) | exact HB.out)))); have n3_ := Aside0.mk (blk_below (g := gb339) (o := (bx33 l0 x6_1 A338_6 c338_6)) (by (with_reducible repeat (first | refine blk_drewN ?_ _ | refine blk_drew ?_ | refine blk_alloc ?_ _)); exact BK339.out) hb); have n4_ := Aside0.mk (below_step (by repeat (first | (with_reducible first | exact HB.out | apply below_alloc | apply pw_below_drewN | apply below_drew1 | refine below_set ?_ GE339.out) | exact HB.out)) hb); clear HO_3; clear HO_4; clear BK339; clear HB; have HO_3 := n0_; have HO_4 := n1_; have HO344 := n2_; have BK339 := n3_; have HB := n4_; clear n0_ n1_ n2_ n3_ n4_; (try clear hb); (try clear hb2); (try clear hk); (try clear hi); (try clear ho0)) | ((with_reducible refine gate_callee (f := 17) rfl ?_); refine goesL_ (some 59) rfl rfl Try.func17 (by kernel_rfl) rfl #[.int .i64 t342] rfl (by (try simp only [List.map_toArray, List.map_cons, List.map_nil]); first | done | rfl | (simp only [List.length_drop, List.length_take]; rfl)) ?_; (with_reducible refine (lecternlaw14_num.calls t342 t345 _ A18.out).mono ?_); rintro e w' ⟨rfl, ⟨nd, rfl⟩⟩; refine ⟨_, rfl, ?_⟩; (try (rw [drewN_self w28]; generalize hq_ : World.drewN w28 _ = w28; have n0_ : Aside0 (Kd.S k88 88 w28 w.heap.size (fun k_ => some k_ ≠ (.slice Ao27 x3_1.length co27 : Value).ownBlock) v343 t341) := ⟨by rw [← hq_]; exact (by (with_reducible repeat (first | apply Kd.S_alloc | apply Kd.S_drewN | apply Kd.S_drew)); exact Kd.S_mono HO344.out (fun _ hk => hk.2))⟩; have n1_ : Aside0 (Kd.S k88 88 w28 w.heap.size (fun k_ => some k_ ≠ (v343 : Value).ownBlock) (.slice Ao27 x3_1.length co27) x3_1) := ⟨by rw [← hq_]; exact (by (with_reducible repeat (first | apply Kd.S_alloc | apply Kd.S_drewN | apply Kd.S_drew)); exact Kd.S_mono HO_3.out (fun _ hk => hk.2))⟩; have n2_ : Aside0 (Kd.Q (Kd.int .i64) 3 w28 w.heap.size (fun _ => True) u4 x4_1) := ⟨by rw [← hq_]; exact (by (with_reducible repeat (first | apply Kd.Q_alloc | apply Kd.Q_drewN | apply Kd.Q_drew)); exact HO_4.out)⟩; have n3_ : Aside0 (w28.heap[gb339]? = some ((bx33 l0 x6_1 A338_6 c338_6))) := ⟨by rw [← hq_]; exact (by (with_reducible repeat (first | refine blk_drewN ?_ _ | refine blk_drew ?_ | refine blk_alloc ?_ _)); exact BK339.out)⟩; have n4_ : Aside0 (Below w.heap.size w w28) := ⟨by rw [← hq_]; exact (by repeat (first | (with_reducible first | exact HB.out | apply below_alloc | apply pw_below_drewN | apply below_drew1 | refine below_set ?_ GE339.out) | exact HB.out))⟩; clear HO344 HO_3 HO_4 BK339 HB hq_; have HO344 := n0_; have HO_3 := n1_; have HO_4 := n2_; have BK339 := n3_; have HB := n4_; clear n0_ n1_ n2_ n3_ n4_)); obtain ⟨Ao29, co29, eo29, _⟩ := Kd.Q_slice HO_4.out; subst eo29; have p346 : 0 ≤ (0 : Int) := (by omega); have q346 : 0 < (x4_1.length : Int) := of_decide_eq_true (by assumption); obtain ⟨ad346, e346, hx346_0⟩ := Kd.at_int (Kd.Q_reads' HO_4.out).2.2 0 p346 q346; cases e346; have qi346 : (0 < x4_1.length) = True := eq_true (by omega); (try rw [show ((0 : Int)).toNat = 0 from rfl] at hx346_0); (try rw [Addr.add_zero'] at hx346_0); replace p346 := eq_true p346; replace q346 := eq_true q346; obtain ⟨Ao30, co30, eo30⟩ := Kd.S_slice HO344.out; subst eo30) | ((with_reducible refine gate_callee (f := 15) rfl ?_); refine goesL_ (some 69) rfl rfl Try.func15 (by kernel_rfl) rfl #[.slice Ao30 t341.length co30, .int .i64 (rd x4_1 0), .int .i64 1] rfl (by (try simp only [List.map_toArray, List.map_cons, List.map_nil]); first | done | rfl | (simp only [List.length_drop, List.length_take]; rfl)) ?_; (with_reducible refine (session_Begin.calls kj6 _ _ t341 (rd x4_1 0) 1 t347 t348 t349 t352 t353 _ ?side1 ?side2 A22.out).mono ?_); (case side1 => repeat (first | exact (Kd.S_reads' HO344.out).2.2 | (with_reducible refine Kd.C_alloc ?_ _) | (with_reducible refine Kd.C_drewN ?_ _) | (with_reducible refine Kd.C_drew ?_))); (case side2 => exact (Kd.S_reads' HO344.out).2.1); rintro e w31 ⟨v350, rfl, ho0, hb⟩; refine ⟨_, rfl, ?_⟩; have n0_ := Aside0.mk (Kd.S_elder' (by (with_reducible repeat (first | apply Kd.S_alloc | apply Kd.S_drewN | apply Kd.S_drew)); exact HO_3.out) (Kd.R_base ho0) hb); have n1_ := Aside0.mk (Kd.Q_below (by (with_reducible repeat (first | apply Kd.Q_alloc | apply Kd.Q_drewN | apply Kd.Q_drew)); exact HO_4.out) hb); have n2_ := Aside0.mk (Kd.S_elder' (by (with_reducible repeat (first | apply Kd.S_alloc | apply Kd.S_drewN | apply Kd.S_drew)); exact HO344.out) (Kd.R_base ho0) hb); have n3_ := Aside0.mk (Kd.R_lower ho0 (below_size (by repeat (first | (with_reducible first | exact HB.out | apply below_alloc | apply pw_below_drewN | apply below_drew1 | refine below_set ?_ GE339.out) | exact HB.out)))); have n4_ := Aside0.mk (blk_below (g := gb339) (o := (bx33 l0 x6_1 A338_6 c338_6)) (by (with_reducible repeat (first | refine blk_drewN ?_ _ | refine blk_drew ?_ | refine blk_alloc ?_ _)); exact BK339.out) hb); have n5_ := Aside0.mk (below_step (by repeat (first | (with_reducible first | exact HB.out | apply below_alloc | apply pw_below_drewN | apply below_drew1 | refine below_set ?_ GE339.out) | exact HB.out)) hb); clear HO_3; clear HO_4; clear HO344; clear BK339; clear HB; have HO_3 := n0_; have HO_4 := n1_; have HO344 := n2_; have HO351 := n3_; have BK339 := n4_; have HB := n5_; clear n0_ n1_ n2_ n3_ n4_ n5_; (try clear hb); (try clear hb2); (try clear hk); (try clear hi); (try clear ho0)) | ((with_reducible refine gate_dst (N := 10) rfl ?_); (try (refine gate_guard (by rfl) ?_; dsimp only)); refine box_event ?hg (N := 10) ?hd (cs := #[.int .i64 0, .int .i64 0, .slice none 0 0]) (t := 31) ?hr ?_; (case hd => rfl); (case hg => rfl); (case hr => first | (go_simp; done) | (go_simp; rfl)); intro gb354 hg w32 hbox hb; have n0_ := Aside0.mk (Kd.S_below (by (with_reducible repeat (first | apply Kd.S_alloc | apply Kd.S_drewN | apply Kd.S_drew)); exact HO_3.out) hb); have n1_ := Aside0.mk (Kd.Q_below (by (with_reducible repeat (first | apply Kd.Q_alloc | apply Kd.Q_drewN | apply Kd.Q_drew)); exact HO_4.out) hb); have n2_ := Aside0.mk (Kd.S_below (by (with_reducible repeat (first | apply Kd.S_alloc | apply Kd.S_drewN | apply Kd.S_drew)); exact HO344.out) hb); have n3_ := Aside0.mk (Kd.R_below (by (with_reducible repeat (first | apply Kd.R_alloc | apply Kd.R_drewN | apply Kd.R_drew)); exact HO351.out) hb); have n4_ := Aside0.mk (blk_below (g := gb339) (o := (bx33 l0 x6_1 A338_6 c338_6)) (by (with_reducible repeat (first | refine blk_drewN ?_ _ | refine blk_drew ?_ | refine blk_alloc ?_ _)); exact BK339.out) hb); have n5_ := Aside0.mk (below_step (by repeat (first | (with_reducible first | exact HB.out | apply below_alloc | apply pw_below_drewN | apply below_drew1 | refine below_set ?_ GE339.out) | exact HB.out)) hb); have n6_ := Aside0.mk (hbox); have n7_ := Aside0.mk ((by rw [hg]; exact (below_size (by repeat (first | (with_reducible first | exact HB.out | apply below_alloc | apply pw_below_drewN | apply below_drew1 | refine below_set ?_ GE339.out) | exact HB.out))) : w.heap.size ≤ gb354)); have n8_ := Aside0.mk ((by rw [hg]; exact (below_size (by repeat (first | (with_reducible first | exact HB.out | apply below_alloc | apply pw_below_drewN | apply below_drew1 | refine below_set ?_ GE339.out) | exact HB.out))) : w.heap.size ≤ gb354)); have n9_ := Aside0.mk ((by rw [hg]; exact Nat.ne_of_lt (blk_lt (g := gb339) (o := (bx33 l0 x6_1 A338_6 c338_6)) (by (with_reducible repeat (first | refine blk_drewN ?_ _ | refine blk_drew ?_ | refine blk_alloc ?_ _)); exact BK339.out)) : gb339 ≠ gb354)); have n10_ := Aside0.mk ((by rw [hg]; exact Nat.ne_of_gt (blk_lt (g := gb339) (o := (bx33 l0 x6_1 A338_6 c338_6)) (by (with_reducible repeat (first | refine blk_drewN ?_ _ | refine blk_drew ?_ | refine blk_alloc ?_ _)); exact BK339.out)) : gb354 ≠ gb339)); clear HO_3; clear HO_4; clear HO344; clear HO351; clear BK339; clear HB; have HO_3 := n0_; have HO_4 := n1_; have HO344 := n2_; have HO351 := n3_; have BK339 := n4_; have HB := n5_; have BK354 := n6_; have GW354 := n7_; have GE354 := n8_; have NB339_354 := n9_; have NB354_339 := n10_; clear n0_ n1_ n2_ n3_ n4_ n5_ n6_ n7_ n8_ n9_ n10_; clear hb hbox hg; have hnb33 := NB354_339.out; have hnc33 := NB339_354.out; have hcz34_0 : w32.cell? ⟨gb354, 0, none⟩ = some (.int .i64 0) := (blk_cell BK354.out 0).trans rfl; have hcz34_1 : w32.cell? ⟨gb354, 1, none⟩ = some (.int .i64 0) := (blk_cell BK354.out 1).trans rfl; have hcz34_2 : w32.cell? ⟨gb354, 2, none⟩ = some (.slice none 0 0) := (blk_cell BK354.out 2).trans rfl; have hfz34_0 := blk_frozen BK354.out 0; have hfz34_1 := blk_frozen BK354.out 1; have hfz34_2 := blk_frozen BK354.out 2; obtain ⟨Ao35, co35, eo35⟩ := Kd.R_slice HO351.out; subst eo35) | ((with_reducible refine gate_store (t := 31) (p := 10) rfl ?_); refine store_event (t := 31) (p := 10) (v := ?vo_w36) (w1 := (((w32.setCell ⟨gb354, 0, none⟩ (.int .i64 t347)).setCell ⟨gb354, 1, none⟩ (.int .i64 t348)).setCell ⟨gb354, 2, none⟩ (.slice Ao35 t349.length co35))) ?hg ?ho ?hn ?hr ?_; (case ho => rfl); (case hg => rfl); (case hn => rfl); (case hr => first | (go_simp; done) | (go_simp; rfl)); intro w36 hw; have n0_ : Aside0 (Kd.S k88 88 w36 w.heap.size (fun k_ => some k_ ≠ (.slice Ao30 t341.length co30 : Value).ownBlock ∧ some k_ ≠ (.slice Ao35 t349.length co35 : Value).ownBlock) (.slice Ao27 x3_1.length co27) x3_1) := ⟨(by rw [hw]; exact (by (with_reducible repeat (first | apply Kd.S_alloc | apply Kd.S_drewN | apply Kd.S_drew)); exact Kd.S_mono (Kd.S_far (p := ⟨gb354, 2, none⟩) (Kd.S_far (p := ⟨gb354, 1, none⟩) (Kd.S_far (p := ⟨gb354, 0, none⟩) (Kd.S_types HO_3.out BK354.out (by decide)) (fun _ hk => hk.2) (.int .i64 t347)) (fun _ hk => hk.2) (.int .i64 t348)) (fun _ hk => hk.2) (.slice Ao35 t349.length co35)) (fun _ hk => by first | exact ⟨hk.1.1.2, hk.1.2⟩ | exact ⟨hk.1.1, hk.1.2⟩)))⟩; have n1_ : Aside0 (Kd.Q (Kd.int .i64) 3 w36 w.heap.size (fun _ => True) (.slice (some ad346) x4_1.length co29) x4_1) := ⟨(by rw [hw]; exact (by (with_reducible repeat (first | apply Kd.Q_alloc | apply Kd.Q_drewN | apply Kd.Q_drew)); exact Kd.Q_mono (Kd.Q_far (p := ⟨gb354, 2, none⟩) (Kd.Q_far (p := ⟨gb354, 1, none⟩) (Kd.Q_far (p := ⟨gb354, 0, none⟩) (Kd.Q_types HO_4.out BK354.out (by decide)) (fun _ hk => hk.2) (.int .i64 t347)) (fun _ hk => hk.2) (.int .i64 t348)) (fun _ hk => hk.2) (.slice Ao35 t349.length co35)) (fun _ hk => trivial)))⟩; have n2_ : Aside0 (Kd.S k88 88 w36 w.heap.size (fun k_ => some k_ ≠ (.slice Ao27 x3_1.length co27 : Value).ownBlock ∧ some k_ ≠ (.slice Ao35 t349.length co35 : Value).ownBlock) (.slice Ao30 t341.length co30) t341) := ⟨(by rw [hw]; exact (by (with_reducible repeat (first | apply Kd.S_alloc | apply Kd.S_drewN | apply Kd.S_drew)); exact Kd.S_mono (Kd.S_far (p := ⟨gb354, 2, none⟩) (Kd.S_far (p := ⟨gb354, 1, none⟩) (Kd.S_far (p := ⟨gb354, 0, none⟩) (Kd.S_types HO344.out BK354.out (by decide)) (fun _ hk => hk.2) (.int .i64 t347)) (fun _ hk => hk.2) (.int .i64 t348)) (fun _ hk => hk.2) (.slice Ao35 t349.length co35)) (fun _ hk => by first | exact ⟨hk.1.1.2, hk.1.2⟩ | exact ⟨hk.1.1, hk.1.2⟩)))⟩; have n3_ : Aside0 (Kd.R k116 116 w36 w.heap.size (fun _ => True) (.slice Ao35 t349.length co35) t349) := ⟨(by rw [hw]; exact (by (with_reducible repeat (first | apply Kd.R_alloc | apply Kd.R_drewN | apply Kd.R_drew)); exact Kd.R_mono (Kd.R_far (p := ⟨gb354, 2, none⟩) (Kd.R_far (p := ⟨gb354, 1, none⟩) (Kd.R_far (p := ⟨gb354, 0, none⟩) (Kd.R_types HO351.out BK354.out (by decide)) (fun _ hk => hk.2) (.int .i64 t347)) (fun _ hk => hk.2) (.int .i64 t348)) (fun _ hk => hk.2) (.slice Ao35 t349.length co35)) (fun _ hk => trivial)))⟩; have n4_ : Aside0 (w36.heap[gb339]? = some ((bx33 l0 x6_1 A338_6 c338_6))) := ⟨(by rw [hw]; exact (by (with_reducible repeat (first | refine blk_drewN ?_ _ | refine blk_drew ?_ | refine blk_alloc ?_ _)); refine blk_far ?_ NB339_354.out _; (with_reducible repeat (first | refine blk_drewN ?_ _ | refine blk_drew ?_ | refine blk_alloc ?_ _)); refine blk_far ?_ NB339_354.out _; (with_reducible repeat (first | refine blk_drewN ?_ _ | refine blk_drew ?_ | refine blk_alloc ?_ _)); refine blk_far ?_ NB339_354.out _; (with_reducible repeat (first | refine blk_drewN ?_ _ | refine blk_drew ?_ | refine blk_alloc ?_ _)); exact BK339.out))⟩; have n5_ : Aside0 (w36.heap[gb354]? = some ((bx31 t347 t348 Ao35 t349.length co35))) := ⟨(by rw [hw]; exact (by (with_reducible repeat (first | refine blk_drewN ?_ _ | refine blk_drew ?_ | refine blk_alloc ?_ _)); refine blk_put (cs := #[.int .i64 t347, .int .i64 t348, .slice none 0 0]) ?_ 2 _ rfl; (with_reducible repeat (first | refine blk_drewN ?_ _ | refine blk_drew ?_ | refine blk_alloc ?_ _)); refine blk_put (cs := #[.int .i64 t347, .int .i64 0, .slice none 0 0]) ?_ 1 _ rfl; (with_reducible repeat (first | refine blk_drewN ?_ _ | refine blk_drew ?_ | refine blk_alloc ?_ _)); refine blk_put (cs := #[.int .i64 0, .int .i64 0, .slice none 0 0]) ?_ 0 _ rfl; (with_reducible repeat (first | refine blk_drewN ?_ _ | refine blk_drew ?_ | refine blk_alloc ?_ _)); exact BK354.out))⟩; have n6_ : Aside0 (Below w.heap.size w w36) := ⟨(by rw [hw]; exact (by repeat (first | (with_reducible first | exact HB.out | apply below_alloc | apply pw_below_drewN | apply below_drew1 | refine below_set ?_ GE339.out | refine below_set ?_ GE354.out) | exact HB.out)))⟩; clear hw; clear HO_3; clear HO_4; clear HO344; clear HO351; clear BK339; clear BK354; clear HB; have HO_3 := n0_; have HO_4 := n1_; have HO344 := n2_; have HO351 := n3_; have BK339 := n4_; have BK354 := n5_; have HB := n6_; clear n0_ n1_ n2_ n3_ n4_ n5_ n6_) | ((with_reducible refine gate_callee (f := 17) rfl ?_); refine goesL_ (some 74) rfl rfl Try.func17 (by kernel_rfl) rfl #[.int .i64 t353] rfl (by (try simp only [List.map_toArray, List.map_cons, List.map_nil]); first | done | rfl | (simp only [List.length_drop, List.length_take]; rfl)) ?_; (with_reducible refine (lecternlaw14_num.calls t353 t355 _ A23.out).mono ?_); rintro e w' ⟨rfl, ⟨nd, rfl⟩⟩; refine ⟨_, rfl, ?_⟩; have q37 : (1 : Int) ≤ ((x4_1.length : Int) : Int) := of_decide_eq_true (by assumption); obtain ⟨i037, hi037, _, hsz37, _⟩ := info_parts info3; have hcut37 := cut_from (P := Try.prog) 42 3 .i64 Try.underlying42 hi037 1 hsz37 (some ad346) x4_1.length co29 1 (by omega) q37; have hr37 := Kd.Q_drop (k := (1 : Int).toNat) HO_4.out (by omega); obtain ⟨A37, hA37⟩ : ∃ A1, A1 = (if co29 = (1 : Int).toNat then (some ad346) else ((some ad346) : Option Addr).map (·.add ((1 : Int).toNat * 1))) := ⟨_, rfl⟩; obtain ⟨c37, hc37⟩ : ∃ c1, c1 = co29 - (1 : Int).toNat := ⟨_, rfl⟩; have hy37 : y356.length = x4_1.length - (1 : Int).toNat := (by rw [Ny356.out, List.length_drop]); rw [← Ny356.out] at hr37; rw [← hy37, ← hA37, ← hc37] at hcut37; replace hr37 : Kd.Q (Kd.int .i64) 3 w36 w.heap.size (fun _ => True) (.slice A37 y356.length c37) y356 := (by rw [hA37, hc37, hy37]; exact hr37); have HE37 : Aside0 ((Value.slice A37 y356.length c37).ownBlock = (.slice (some ad346) x4_1.length co29 : Value).ownBlock) := ⟨by rw [hA37]; split <;> (cases ((some ad346) : Option Addr) <;> rfl)⟩; clear hy37 hi037 hsz37 HO_4 hA37 hc37; have HO358 := Aside0.mk hr37; clear hr37; replace q37 := eq_true q37) | ((with_reducible refine gate_builtin (b := .append) (xs := #[.tmp 78, .tmp 80]) rfl ?_); (try (refine gate_guard (by rfl) ?_; dsimp only)); at_builtin; refine Kd.Q_append (Kd.int .i64) (w0 := w) w.heap.size rfl (.tmp 78) (.tmp 80) 42 3 (.int .i64 0) 8 rfl Try.underlying42 info3 rfl (by decide) (by omega) (.slice A37 y356.length c37) y356 (wrap64 (x5_1 + 1)) [.int .i64 (wrap64 (x5_1 + 1))] (fun _ => True) (fun _ => False) rfl rfl ?aP (fun _ hk => hk.elim) ?aF ?aO ?aB ?aS ?aL ?_; (case aP => exact rfl); (case aB => exact (by repeat (first | (with_reducible first | exact HB.out | apply below_alloc | apply pw_below_drewN | apply below_drew1 | refine below_set ?_ GE339.out | refine below_set ?_ GE354.out) | exact HB.out))); (case aF => exact (fun _ _ => trivial)); (case aO => exact (by (with_reducible repeat (first | apply Kd.Q_alloc | apply Kd.Q_drewN | apply Kd.Q_drew)); exact HO358.out)); (case aS => exact (below_size (by repeat (first | (with_reducible first | exact HB.out | apply below_alloc | apply pw_below_drewN | apply below_drew1 | refine below_set ?_ GE339.out | refine below_set ?_ GE354.out) | exact HB.out)))); (case aL => have := LMc26.out; omega); intro v360 w38 ho hb hg hat; rw [← Ny359.out] at ho; have n0_ := Aside0.mk (Kd.S_over' (by (with_reducible repeat (first | apply Kd.S_alloc | apply Kd.S_drewN | apply Kd.S_drew)); exact HO_3.out) (Kd.Q_typed (by (with_reducible repeat (first | apply Kd.Q_alloc | apply Kd.Q_drewN | apply Kd.Q_drew)); exact HO358.out)) (by decide) hg); have n1_ := Aside0.mk (blk_grown (g := gb339) (o := (bx33 l0 x6_1 A338_6 c338_6)) (by (with_reducible repeat (first | refine blk_drewN ?_ _ | refine blk_drew ?_ | refine blk_alloc ?_ _)); exact BK339.out) hg (Kd.Q_ne HO358.out BK339.out (by decide))); have n2_ := Aside0.mk (Kd.S_over' (by (with_reducible repeat (first | apply Kd.S_alloc | apply Kd.S_drewN | apply Kd.S_drew)); exact HO344.out) (Kd.Q_typed (by (with_reducible repeat (first | apply Kd.Q_alloc | apply Kd.Q_drewN | apply Kd.Q_drew)); exact HO358.out)) (by decide) hg); have n3_ := Aside0.mk (Kd.R_over' (by (with_reducible repeat (first | apply Kd.R_alloc | apply Kd.R_drewN | apply Kd.R_drew)); exact HO351.out) (Kd.Q_typed (by (with_reducible repeat (first | apply Kd.Q_alloc | apply Kd.Q_drewN | apply Kd.Q_drew)); exact HO358.out)) (by decide) hg); have n4_ := Aside0.mk (blk_grown (g := gb354) (o := (bx31 t347 t348 Ao35 t349.length co35)) (by (with_reducible repeat (first | refine blk_drewN ?_ _ | refine blk_drew ?_ | refine blk_alloc ?_ _)); exact BK354.out) hg (Kd.Q_ne HO358.out BK354.out (by decide))); have n5_ := Aside0.mk (hb); have n6_ := Aside0.mk (ho); clear HO_3; clear BK339; clear HO344; clear HO351; clear BK354; clear HB; clear HO358; have HO_3 := n0_; have BK339 := n1_; have HO344 := n2_; have HO351 := n3_; have BK354 := n4_; have HB := n5_; have HO361 := n6_; clear n0_ n1_ n2_ n3_ n4_ n5_ n6_; clear ho hb hg hat))
                   go_meet
                   case rel => exact ⟨_, (t341), (y359), H', ⟨by have := HK1.out; have := HJ1.out; have := HJ6.out; first | omega | exact Nat.le_refl _⟩, ⟨by (with_reducible repeat (first | apply Kd.S_alloc | apply Kd.S_drewN | apply Kd.S_drew)); exact Kd.S_mono HO344.out (fun _ hk => trivial)⟩, ⟨by (with_reducible repeat (first | apply Kd.Q_alloc | apply Kd.Q_drewN | apply Kd.Q_drew)); exact HO361.out⟩, ⟨by (with_reducible repeat (first | refine blk_drewN ?_ _ | refine blk_drew ?_ | refine blk_alloc ?_ _)); exact BK339.out⟩, ⟨by repeat (first | (with_reducible first | exact HB.out | apply below_alloc | apply pw_below_drewN | apply below_drew1 | refine below_set ?_ GE339.out | refine below_set ?_ GE354.out) | exact HB.out)⟩⟩
                  ·rw [if_neg c26] at H
                   exact absurd H (by simp)
                 ·rw [if_neg c25] at H
                  exact absurd H (by simp)
                ·rw [if_neg c24] at H
                 exact absurd H (by simp)
               ·rw [if_neg c21] at H
                exact absurd H (by simp)
              ·rw [if_neg c20] at H
               have c20b0 : ((x4_1.length : Int) == 8) = false := beq_eq_false_iff_ne.mpr c20
               have c20b1 : ((x4_1.length : Int) != 8) = true := bne_iff_ne.mpr c20
               by_cases c48 : x4_1.length < 17592186044416
               ·rw [if_pos c48] at H
                have LMc48 := Aside0.mk c48
                clear c48
                obtain ⟨y362, hy362⟩ : ∃ y_ : List Int, y_ = (x4_1 ++ [(wrap64 (x5_1 + 1))]) := ⟨_, rfl⟩
                replace H : (lawOnce.j5 kj6 l0 t341 y362 (wrap64 (x5_1 + 1)) x6_1) = some r := by first | (rw [hy362]; with_reducible exact H) | (have H2_ := (Option.bind_some _ _).symm.trans H; rw [hy362]; with_reducible exact H2_) | (have H2_ := (Option.bind_some _ _).symm.trans H; with_reducible exact H2_) | with_reducible exact H | (rw [hy362]; exact H) | exact H
                have Ny362 := Aside0.mk hy362
                clear hy362
                have H' := Aside0.mk H
                clear H
                obtain ⟨Ao49, co49, eo49⟩ := Kd.S_slice HO_3.out
                subst eo49
                go_wp2_with (first | ((with_reducible refine gate_callee (f := 22) rfl ?_); refine goesL_ (some 55) rfl rfl Try.func22 (by kernel_rfl) rfl #[.slice Ao49 x3_1.length co49, .int .i64 (wrap64 (x5_1 + 1))] rfl (by (try simp only [List.map_toArray, List.map_cons, List.map_nil]); first | done | rfl | (simp only [List.length_drop, List.length_take]; rfl)) ?_; (with_reducible refine (session_Open.calls kj6 _ _ x3_1 (wrap64 (x5_1 + 1)) t341 t342 _ ?side1 ?side2 A17.out).mono ?_); (case side1 => repeat (first | exact (Kd.S_reads' HO_3.out).2.2 | (with_reducible refine Kd.C_alloc ?_ _) | (with_reducible refine Kd.C_drewN ?_ _) | (with_reducible refine Kd.C_drew ?_))); (case side2 => exact (Kd.S_reads' HO_3.out).2.1); rintro e w50 ⟨v343, rfl, ho0, hb⟩; refine ⟨_, rfl, ?_⟩; have n0_ := Aside0.mk (Kd.S_elder' (by (with_reducible repeat (first | apply Kd.S_alloc | apply Kd.S_drewN | apply Kd.S_drew)); exact HO_3.out) (Kd.S_base ho0) hb); have n1_ := Aside0.mk (Kd.Q_below (by (with_reducible repeat (first | apply Kd.Q_alloc | apply Kd.Q_drewN | apply Kd.Q_drew)); exact HO_4.out) hb); have n2_ := Aside0.mk (Kd.S_lower (Kd.S_new' ho0 (Kd.S_lt (by (with_reducible repeat (first | apply Kd.S_alloc | apply Kd.S_drewN | apply Kd.S_drew)); exact HO_3.out))) (below_size (by repeat (first | (with_reducible first | exact HB.out | apply below_alloc | apply pw_below_drewN | apply below_drew1 | refine below_set ?_ GE339.out) | exact HB.out)))); have n3_ := Aside0.mk (blk_below (g := gb339) (o := (bx33 l0 x6_1 A338_6 c338_6)) (by (with_reducible repeat (first | refine blk_drewN ?_ _ | refine blk_drew ?_ | refine blk_alloc ?_ _)); exact BK339.out) hb); have n4_ := Aside0.mk (below_step (by repeat (first | (with_reducible first | exact HB.out | apply below_alloc | apply pw_below_drewN | apply below_drew1 | refine below_set ?_ GE339.out) | exact HB.out)) hb); clear HO_3; clear HO_4; clear BK339; clear HB; have HO_3 := n0_; have HO_4 := n1_; have HO344 := n2_; have BK339 := n3_; have HB := n4_; clear n0_ n1_ n2_ n3_ n4_; (try clear hb); (try clear hb2); (try clear hk); (try clear hi); (try clear ho0)) | ((with_reducible refine gate_callee (f := 17) rfl ?_); refine goesL_ (some 59) rfl rfl Try.func17 (by kernel_rfl) rfl #[.int .i64 t342] rfl (by (try simp only [List.map_toArray, List.map_cons, List.map_nil]); first | done | rfl | (simp only [List.length_drop, List.length_take]; rfl)) ?_; (with_reducible refine (lecternlaw14_num.calls t342 t345 _ A18.out).mono ?_); rintro e w' ⟨rfl, ⟨nd, rfl⟩⟩; refine ⟨_, rfl, ?_⟩; obtain ⟨Ao51, co51, eo51, _⟩ := Kd.Q_slice HO_4.out; subst eo51) | ((with_reducible refine gate_builtin (b := .append) (xs := #[.tmp 78, .tmp 80]) rfl ?_); (try (refine gate_guard (by rfl) ?_; dsimp only)); at_builtin; refine Kd.Q_append (Kd.int .i64) (w0 := w) w.heap.size rfl (.tmp 78) (.tmp 80) 42 3 (.int .i64 0) 8 rfl Try.underlying42 info3 rfl (by decide) (by omega) (.slice Ao51 x4_1.length co51) x4_1 (wrap64 (x5_1 + 1)) [.int .i64 (wrap64 (x5_1 + 1))] (fun _ => True) (fun _ => False) rfl rfl ?aP (fun _ hk => hk.elim) ?aF ?aO ?aB ?aS ?aL ?_; (case aP => exact rfl); (case aB => exact (by repeat (first | (with_reducible first | exact HB.out | apply below_alloc | apply pw_below_drewN | apply below_drew1 | refine below_set ?_ GE339.out) | exact HB.out))); (case aF => exact (fun _ _ => trivial)); (case aO => exact (by (with_reducible repeat (first | apply Kd.Q_alloc | apply Kd.Q_drewN | apply Kd.Q_drew)); exact HO_4.out)); (case aS => exact (below_size (by repeat (first | (with_reducible first | exact HB.out | apply below_alloc | apply pw_below_drewN | apply below_drew1 | refine below_set ?_ GE339.out) | exact HB.out)))); (case aL => have := LMc48.out; omega); intro v363 w52 ho hb hg hat; rw [← Ny362.out] at ho; have n0_ := Aside0.mk (Kd.S_over' (by (with_reducible repeat (first | apply Kd.S_alloc | apply Kd.S_drewN | apply Kd.S_drew)); exact HO_3.out) (Kd.Q_typed (by (with_reducible repeat (first | apply Kd.Q_alloc | apply Kd.Q_drewN | apply Kd.Q_drew)); exact HO_4.out)) (by decide) hg); have n1_ := Aside0.mk (blk_grown (g := gb339) (o := (bx33 l0 x6_1 A338_6 c338_6)) (by (with_reducible repeat (first | refine blk_drewN ?_ _ | refine blk_drew ?_ | refine blk_alloc ?_ _)); exact BK339.out) hg (Kd.Q_ne HO_4.out BK339.out (by decide))); have n2_ := Aside0.mk (Kd.S_over' (by (with_reducible repeat (first | apply Kd.S_alloc | apply Kd.S_drewN | apply Kd.S_drew)); exact HO344.out) (Kd.Q_typed (by (with_reducible repeat (first | apply Kd.Q_alloc | apply Kd.Q_drewN | apply Kd.Q_drew)); exact HO_4.out)) (by decide) hg); have n3_ := Aside0.mk (hb); have n4_ := Aside0.mk (ho); clear HO_3; clear BK339; clear HO344; clear HB; clear HO_4; have HO_3 := n0_; have BK339 := n1_; have HO344 := n2_; have HB := n3_; have HO364 := n4_; clear n0_ n1_ n2_ n3_ n4_; clear ho hb hg hat))
                go_meet
                case rel => exact ⟨_, (t341), (y362), H', ⟨by have := HK1.out; have := HJ1.out; have := HJ6.out; first | omega | exact Nat.le_refl _⟩, ⟨by (with_reducible repeat (first | apply Kd.S_alloc | apply Kd.S_drewN | apply Kd.S_drew)); exact Kd.S_mono HO344.out (fun _ hk => trivial)⟩, ⟨by (with_reducible repeat (first | apply Kd.Q_alloc | apply Kd.Q_drewN | apply Kd.Q_drew)); exact HO364.out⟩, ⟨by (with_reducible repeat (first | refine blk_drewN ?_ _ | refine blk_drew ?_ | refine blk_alloc ?_ _)); exact BK339.out⟩, ⟨by repeat (first | (with_reducible first | exact HB.out | apply below_alloc | apply pw_below_drewN | apply below_drew1 | refine below_set ?_ GE339.out) | exact HB.out)⟩⟩
               ·rw [if_neg c48] at H
                exact absurd H (by simp)
             ·rw [if_neg c19] at H
              exact absurd H (by simp)
           ·replace c16 := Bool.eq_false_iff.mpr c16
            subst c16
            have H1 : ((lecternlaw0_Within.f ((rd_T33 l0 x6_1).f1) (x4_1.length : Int)).bind fun t365 => (if 0 ≤ t365 then (if t365 < (x4_1.length : Int) then ((session_Done.f kj6 x3_1 (rd x4_1 t365) (wrap64 (x5_1 + 1)) 0 (wrap64 (x5_1 + 1)) ([] : List (S116)) (wrap64 (x5_1 + 1))).bind fun bt368 => ((session_Begin.f kj6 bt368.1 (rd x4_1 t365) (wrap64 (x5_1 + 1))).bind fun bt372 => ((session_Begin.f kj6 bt368.1 (rd x4_1 t365) (wrap64 ((wrap64 (x5_1 + 1)) - 1))).bind fun bt380 => ((session_Begin.f kj6 bt368.1 (rd x4_1 t365) (wrap64 ((wrap64 (x5_1 + 1)) + 1))).bind fun bt388 => ((lecternlaw14_num.f bt368.2).bind fun t396 => (if t396 = 0 then ((lecternlaw14_num.f bt372.2.2.2.2).bind fun t397 => (if t397 = 0 then (if bt372.2.2.2.1 = true then ((lecternref0_EqReply.f kj6 bt372.1 bt372.2.1 bt372.2.2.1 0 (wrap64 (x5_1 + 1)) ([] : List (S116))).bind fun t398 => (if t398 = true then ((lecternlaw14_num.f bt380.2.2.2.2).bind fun t399 => (if t399 = 10 then ((lecternlaw14_num.f bt388.2.2.2.2).bind fun t400 => (if t400 = 0 then (lawOnce.j3 kj6 l0 x4_1 (wrap64 (x5_1 + 1)) x6_1 t365 (rd x4_1 t365) bt368.1 bt388.2.2.2.1 ((rd_T33 l0 x6_1).f0) ((rd_T33 l0 x6_1).f1) ((rd_T33 l0 x6_1).f2) ((rd_T33 l0 x6_1).f3) ((rd_T33 l0 x6_1).f4.f0) ((rd_T33 l0 x6_1).f4.f1) ((rd_T33 l0 x6_1).f4.f2)) else (none))) else (none))) else (none))) else (none)) else (none))) else (none))))))) else (none)) else (none))) = some r := by rw [if_neg (show ¬ (false = true) by decide)] at H; exact H
            clear H
            have H := H1
            clear H1
            replace H := Option.bind_eq_some_iff.mp H
            obtain ⟨t365, A550, H⟩ := H
            replace H : (if 0 ≤ t365 then (if t365 < (x4_1.length : Int) then ((session_Done.f kj6 x3_1 (rd x4_1 t365) (wrap64 (x5_1 + 1)) 0 (wrap64 (x5_1 + 1)) ([] : List (S116)) (wrap64 (x5_1 + 1))).bind fun bt368 => ((session_Begin.f kj6 bt368.1 (rd x4_1 t365) (wrap64 (x5_1 + 1))).bind fun bt372 => ((session_Begin.f kj6 bt368.1 (rd x4_1 t365) (wrap64 ((wrap64 (x5_1 + 1)) - 1))).bind fun bt380 => ((session_Begin.f kj6 bt368.1 (rd x4_1 t365) (wrap64 ((wrap64 (x5_1 + 1)) + 1))).bind fun bt388 => ((lecternlaw14_num.f bt368.2).bind fun t396 => (if t396 = 0 then ((lecternlaw14_num.f bt372.2.2.2.2).bind fun t397 => (if t397 = 0 then (if bt372.2.2.2.1 = true then ((lecternref0_EqReply.f kj6 bt372.1 bt372.2.1 bt372.2.2.1 0 (wrap64 (x5_1 + 1)) ([] : List (S116))).bind fun t398 => (if t398 = true then ((lecternlaw14_num.f bt380.2.2.2.2).bind fun t399 => (if t399 = 10 then ((lecternlaw14_num.f bt388.2.2.2.2).bind fun t400 => (if t400 = 0 then (lawOnce.j3 kj6 l0 x4_1 (wrap64 (x5_1 + 1)) x6_1 t365 (rd x4_1 t365) bt368.1 bt388.2.2.2.1 ((rd_T33 l0 x6_1).f0) ((rd_T33 l0 x6_1).f1) ((rd_T33 l0 x6_1).f2) ((rd_T33 l0 x6_1).f3) ((rd_T33 l0 x6_1).f4.f0) ((rd_T33 l0 x6_1).f4.f1) ((rd_T33 l0 x6_1).f4.f2)) else (none))) else (none))) else (none))) else (none)) else (none))) else (none))))))) else (none)) else (none)) = some r := H
            have A55 := Aside0.mk A550
            clear A550
            by_cases c56 : 0 ≤ t365
            ·rw [if_pos c56] at H
             have c56b0 : decide (0 ≤ t365) = true := decide_eq_true c56
             clear c56
             by_cases c57 : t365 < (x4_1.length : Int)
             ·rw [if_pos c57] at H
              have c57b0 : decide (t365 < (x4_1.length : Int)) = true := decide_eq_true c57
              clear c57
              replace H := Option.bind_eq_some_iff.mp H
              obtain ⟨⟨t368, t371⟩, A580, H⟩ := H
              replace H : ((session_Begin.f kj6 t368 (rd x4_1 t365) (wrap64 (x5_1 + 1))).bind fun bt372 => ((session_Begin.f kj6 t368 (rd x4_1 t365) (wrap64 ((wrap64 (x5_1 + 1)) - 1))).bind fun bt380 => ((session_Begin.f kj6 t368 (rd x4_1 t365) (wrap64 ((wrap64 (x5_1 + 1)) + 1))).bind fun bt388 => ((lecternlaw14_num.f t371).bind fun t396 => (if t396 = 0 then ((lecternlaw14_num.f bt372.2.2.2.2).bind fun t397 => (if t397 = 0 then (if bt372.2.2.2.1 = true then ((lecternref0_EqReply.f kj6 bt372.1 bt372.2.1 bt372.2.2.1 0 (wrap64 (x5_1 + 1)) ([] : List (S116))).bind fun t398 => (if t398 = true then ((lecternlaw14_num.f bt380.2.2.2.2).bind fun t399 => (if t399 = 10 then ((lecternlaw14_num.f bt388.2.2.2.2).bind fun t400 => (if t400 = 0 then (lawOnce.j3 kj6 l0 x4_1 (wrap64 (x5_1 + 1)) x6_1 t365 (rd x4_1 t365) t368 bt388.2.2.2.1 ((rd_T33 l0 x6_1).f0) ((rd_T33 l0 x6_1).f1) ((rd_T33 l0 x6_1).f2) ((rd_T33 l0 x6_1).f3) ((rd_T33 l0 x6_1).f4.f0) ((rd_T33 l0 x6_1).f4.f1) ((rd_T33 l0 x6_1).f4.f2)) else (none))) else (none))) else (none))) else (none)) else (none))) else (none)))))) = some r := H
              have A58 := Aside0.mk A580
              clear A580
              replace H := Option.bind_eq_some_iff.mp H
              obtain ⟨⟨t372, t373, t374, t377, t378⟩, A590, H⟩ := H
              replace H : ((session_Begin.f kj6 t368 (rd x4_1 t365) (wrap64 ((wrap64 (x5_1 + 1)) - 1))).bind fun bt380 => ((session_Begin.f kj6 t368 (rd x4_1 t365) (wrap64 ((wrap64 (x5_1 + 1)) + 1))).bind fun bt388 => ((lecternlaw14_num.f t371).bind fun t396 => (if t396 = 0 then ((lecternlaw14_num.f t378).bind fun t397 => (if t397 = 0 then (if t377 = true then ((lecternref0_EqReply.f kj6 t372 t373 t374 0 (wrap64 (x5_1 + 1)) ([] : List (S116))).bind fun t398 => (if t398 = true then ((lecternlaw14_num.f bt380.2.2.2.2).bind fun t399 => (if t399 = 10 then ((lecternlaw14_num.f bt388.2.2.2.2).bind fun t400 => (if t400 = 0 then (lawOnce.j3 kj6 l0 x4_1 (wrap64 (x5_1 + 1)) x6_1 t365 (rd x4_1 t365) t368 bt388.2.2.2.1 ((rd_T33 l0 x6_1).f0) ((rd_T33 l0 x6_1).f1) ((rd_T33 l0 x6_1).f2) ((rd_T33 l0 x6_1).f3) ((rd_T33 l0 x6_1).f4.f0) ((rd_T33 l0 x6_1).f4.f1) ((rd_T33 l0 x6_1).f4.f2)) else (none))) else (none))) else (none))) else (none)) else (none))) else (none))))) = some r := H
              have A59 := Aside0.mk A590
              clear A590
              replace H := Option.bind_eq_some_iff.mp H
              obtain ⟨⟨t380, t381, t382, t385, t386⟩, A600, H⟩ := H
              replace H : ((session_Begin.f kj6 t368 (rd x4_1 t365) (wrap64 ((wrap64 (x5_1 + 1)) + 1))).bind fun bt388 => ((lecternlaw14_num.f t371).bind fun t396 => (if t396 = 0 then ((lecternlaw14_num.f t378).bind fun t397 => (if t397 = 0 then (if t377 = true then ((lecternref0_EqReply.f kj6 t372 t373 t374 0 (wrap64 (x5_1 + 1)) ([] : List (S116))).bind fun t398 => (if t398 = true then ((lecternlaw14_num.f t386).bind fun t399 => (if t399 = 10 then ((lecternlaw14_num.f bt388.2.2.2.2).bind fun t400 => (if t400 = 0 then (lawOnce.j3 kj6 l0 x4_1 (wrap64 (x5_1 + 1)) x6_1 t365 (rd x4_1 t365) t368 bt388.2.2.2.1 ((rd_T33 l0 x6_1).f0) ((rd_T33 l0 x6_1).f1) ((rd_T33 l0 x6_1).f2) ((rd_T33 l0 x6_1).f3) ((rd_T33 l0 x6_1).f4.f0) ((rd_T33 l0 x6_1).f4.f1) ((rd_T33 l0 x6_1).f4.f2)) else (none))) else (none))) else (none))) else (none)) else (none))) else (none)))) = some r := H
              have A60 := Aside0.mk A600
              clear A600
              replace H := Option.bind_eq_some_iff.mp H
              obtain ⟨⟨t388, t389, t390, t393, t394⟩, A610, H⟩ := H
              replace H : ((lecternlaw14_num.f t371).bind fun t396 => (if t396 = 0 then ((lecternlaw14_num.f t378).bind fun t397 => (if t397 = 0 then (if t377 = true then ((lecternref0_EqReply.f kj6 t372 t373 t374 0 (wrap64 (x5_1 + 1)) ([] : List (S116))).bind fun t398 => (if t398 = true then ((lecternlaw14_num.f t386).bind fun t399 => (if t399 = 10 then ((lecternlaw14_num.f t394).bind fun t400 => (if t400 = 0 then (lawOnce.j3 kj6 l0 x4_1 (wrap64 (x5_1 + 1)) x6_1 t365 (rd x4_1 t365) t368 t393 ((rd_T33 l0 x6_1).f0) ((rd_T33 l0 x6_1).f1) ((rd_T33 l0 x6_1).f2) ((rd_T33 l0 x6_1).f3) ((rd_T33 l0 x6_1).f4.f0) ((rd_T33 l0 x6_1).f4.f1) ((rd_T33 l0 x6_1).f4.f2)) else (none))) else (none))) else (none))) else (none)) else (none))) else (none))) = some r := H
              have A61 := Aside0.mk A610
              clear A610
              have HC62 := Aside0.mk H
              clear H
              have hcz63_0 : wc.cell? ⟨gb339, 0, none⟩ = some (.int .i64 ((rd_T33 l0 x6_1).f0)) := (blk_cell BK339.out 0).trans rfl
              have hcz63_1 : wc.cell? ⟨gb339, 1, none⟩ = some (.int .i64 ((rd_T33 l0 x6_1).f1)) := (blk_cell BK339.out 1).trans rfl
              have hcz63_2 : wc.cell? ⟨gb339, 2, none⟩ = some (.int .i64 ((rd_T33 l0 x6_1).f2)) := (blk_cell BK339.out 2).trans rfl
              have hcz63_3 : wc.cell? ⟨gb339, 3, none⟩ = some (.int .i64 ((rd_T33 l0 x6_1).f3)) := (blk_cell BK339.out 3).trans rfl
              have hcz63_4 : wc.cell? ⟨gb339, 4, none⟩ = some (.int .i64 ((rd_T33 l0 x6_1).f4.f0)) := (blk_cell BK339.out 4).trans rfl
              have hcz63_5 : wc.cell? ⟨gb339, 5, none⟩ = some (.int .i64 ((rd_T33 l0 x6_1).f4.f1)) := (blk_cell BK339.out 5).trans rfl
              have hcz63_6 : wc.cell? ⟨gb339, 6, none⟩ = some (.slice A338_6 ((rd_T33 l0 x6_1).f4.f2).length c338_6) := (blk_cell BK339.out 6).trans rfl
              have hfz63_0 := blk_frozen BK339.out 0
              have hfz63_1 := blk_frozen BK339.out 1
              have hfz63_2 := blk_frozen BK339.out 2
              have hfz63_3 := blk_frozen BK339.out 3
              have hfz63_4 := blk_frozen BK339.out 4
              have hfz63_5 := blk_frozen BK339.out 5
              have hfz63_6 := blk_frozen BK339.out 6
              obtain ⟨Ao64, co64, eo64, _⟩ := Kd.Q_slice HO_4.out
              subst eo64
              go_upto_region 27 with (first | ((with_reducible refine gate_callee (f := 21) rfl ?_); refine goesL_ (some 87) rfl rfl Try.func21 (by kernel_rfl) rfl #[.int .i64 ((rd_T33 l0 x6_1).f1), .int .i64 (x4_1.length : Int)] rfl (by (try simp only [List.map_toArray, List.map_cons, List.map_nil]); first | done | rfl | (simp only [List.length_drop, List.length_take]; rfl)) ?_; (with_reducible refine (lecternlaw0_Within.calls ((rd_T33 l0 x6_1).f1) (x4_1.length : Int) t365 _ A55.out).mono ?_); rintro e w' ⟨rfl, ⟨nd, rfl⟩⟩; refine ⟨_, rfl, ?_⟩; (try (rw [drewN_self wc]; generalize hq_ : World.drewN wc _ = wc; have n0_ : Aside0 (Kd.S k88 88 wc w.heap.size (fun _ => True) u3 x3_1) := ⟨by rw [← hq_]; exact (by (with_reducible repeat (first | apply Kd.S_alloc | apply Kd.S_drewN | apply Kd.S_drew)); exact HO_3.out)⟩; have n1_ : Aside0 (Kd.Q (Kd.int .i64) 3 wc w.heap.size (fun _ => True) (.slice Ao64 x4_1.length co64) x4_1) := ⟨by rw [← hq_]; exact (by (with_reducible repeat (first | apply Kd.Q_alloc | apply Kd.Q_drewN | apply Kd.Q_drew)); exact HO_4.out)⟩; have n2_ : Aside0 (wc.heap[gb339]? = some ((bx33 l0 x6_1 A338_6 c338_6))) := ⟨by rw [← hq_]; exact (by (with_reducible repeat (first | refine blk_drewN ?_ _ | refine blk_drew ?_ | refine blk_alloc ?_ _)); exact BK339.out)⟩; have n3_ : Aside0 (Below w.heap.size w wc) := ⟨by rw [← hq_]; exact (by repeat (first | (with_reducible first | exact HB.out | apply below_alloc | apply pw_below_drewN | apply below_drew1 | refine below_set ?_ GE339.out) | exact HB.out))⟩; clear HO_3 HO_4 BK339 HB hq_; have HO_3 := n0_; have HO_4 := n1_; have BK339 := n2_; have HB := n3_; clear n0_ n1_ n2_ n3_)); have p366 : 0 ≤ (t365 : Int) := of_decide_eq_true (by assumption); have q366 : t365 < (x4_1.length : Int) := of_decide_eq_true (by assumption); obtain ⟨ad366, e366, hx366_0⟩ := Kd.at_int (Kd.Q_reads' HO_4.out).2.2 t365 p366 q366; cases e366; replace p366 := eq_true p366; replace q366 := eq_true q366) | ((with_reducible refine gate_dst (N := 15) rfl ?_); (try (refine gate_guard (by rfl) ?_; dsimp only)); refine box_event ?hg (N := 15) ?hd (cs := #[.int .i64 0, .int .i64 0, .slice none 0 0]) (t := 31) ?hr ?_; (case hd => rfl); (case hg => rfl); (case hr => first | (go_simp; done) | (go_simp; rfl)); intro gb367 hg w65 hbox hb; have n0_ := Aside0.mk (Kd.S_below (by (with_reducible repeat (first | apply Kd.S_alloc | apply Kd.S_drewN | apply Kd.S_drew)); exact HO_3.out) hb); have n1_ := Aside0.mk (Kd.Q_below (by (with_reducible repeat (first | apply Kd.Q_alloc | apply Kd.Q_drewN | apply Kd.Q_drew)); exact HO_4.out) hb); have n2_ := Aside0.mk (blk_below (g := gb339) (o := (bx33 l0 x6_1 A338_6 c338_6)) (by (with_reducible repeat (first | refine blk_drewN ?_ _ | refine blk_drew ?_ | refine blk_alloc ?_ _)); exact BK339.out) hb); have n3_ := Aside0.mk (below_step (by repeat (first | (with_reducible first | exact HB.out | apply below_alloc | apply pw_below_drewN | apply below_drew1 | refine below_set ?_ GE339.out) | exact HB.out)) hb); have n4_ := Aside0.mk (hbox); have n5_ := Aside0.mk ((by rw [hg]; exact (below_size (by repeat (first | (with_reducible first | exact HB.out | apply below_alloc | apply pw_below_drewN | apply below_drew1 | refine below_set ?_ GE339.out) | exact HB.out))) : w.heap.size ≤ gb367)); have n6_ := Aside0.mk ((by rw [hg]; exact (below_size (by repeat (first | (with_reducible first | exact HB.out | apply below_alloc | apply pw_below_drewN | apply below_drew1 | refine below_set ?_ GE339.out) | exact HB.out))) : w.heap.size ≤ gb367)); have n7_ := Aside0.mk ((by rw [hg]; exact Nat.ne_of_lt (blk_lt (g := gb339) (o := (bx33 l0 x6_1 A338_6 c338_6)) (by (with_reducible repeat (first | refine blk_drewN ?_ _ | refine blk_drew ?_ | refine blk_alloc ?_ _)); exact BK339.out)) : gb339 ≠ gb367)); have n8_ := Aside0.mk ((by rw [hg]; exact Nat.ne_of_gt (blk_lt (g := gb339) (o := (bx33 l0 x6_1 A338_6 c338_6)) (by (with_reducible repeat (first | refine blk_drewN ?_ _ | refine blk_drew ?_ | refine blk_alloc ?_ _)); exact BK339.out)) : gb367 ≠ gb339)); clear HO_3; clear HO_4; clear BK339; clear HB; have HO_3 := n0_; have HO_4 := n1_; have BK339 := n2_; have HB := n3_; have BK367 := n4_; have GW367 := n5_; have GE367 := n6_; have NB339_367 := n7_; have NB367_339 := n8_; clear n0_ n1_ n2_ n3_ n4_ n5_ n6_ n7_ n8_; clear hb hbox hg; have hnb66 := NB367_339.out; have hnc66 := NB339_367.out; have hcz67_0 : w65.cell? ⟨gb367, 0, none⟩ = some (.int .i64 0) := (blk_cell BK367.out 0).trans rfl; have hcz67_1 : w65.cell? ⟨gb367, 1, none⟩ = some (.int .i64 0) := (blk_cell BK367.out 1).trans rfl; have hcz67_2 : w65.cell? ⟨gb367, 2, none⟩ = some (.slice none 0 0) := (blk_cell BK367.out 2).trans rfl; have hfz67_0 := blk_frozen BK367.out 0; have hfz67_1 := blk_frozen BK367.out 1; have hfz67_2 := blk_frozen BK367.out 2; obtain ⟨Ao68, co68, eo68⟩ := Kd.S_slice HO_3.out; subst eo68) | ((with_reducible refine gate_callee (f := 23) rfl ?_); refine goesL_ (some 100) rfl rfl Try.func23 (by kernel_rfl) rfl #[.slice Ao68 x3_1.length co68, .int .i64 (rd x4_1 t365), .int .i64 (wrap64 (x5_1 + 1)), .agg #[.int .i64 0, .int .i64 (wrap64 (x5_1 + 1)), .slice none 0 0], .int .i64 (wrap64 (x5_1 + 1))] rfl (by (try simp only [List.map_toArray, List.map_cons, List.map_nil]); first | done | rfl | (simp only [List.length_drop, List.length_take]; rfl)) ?_; (refine (session_Done.calls kj6 _ _ x3_1 (rd x4_1 t365) (wrap64 (x5_1 + 1)) 0 (wrap64 (x5_1 + 1)) _ _ ([] : List (S116)) (wrap64 (x5_1 + 1)) t368 t371 _ ?side1 ?side2 ?side3 ?side4 A58.out).mono ?_); (case side1 => refine (Kd.S_reads' (e := 88) (base := w.heap.size) (ok := fun k_ => True) (n := x3_1.length) (c := co68) ?_).2.2; exact (by (with_reducible repeat (first | apply Kd.S_alloc | apply Kd.S_drewN | apply Kd.S_drew)); exact (Kd.S_mono (Kd.S_far (p := ⟨gb367, 2, none⟩) (Kd.S_far (p := ⟨gb367, 1, none⟩) (Kd.S_far (p := ⟨gb367, 0, none⟩) (Kd.S_types HO_3.out BK367.out (by decide)) (fun _ hk => hk.2) (.int .i64 0)) (fun _ hk => hk.2) (.int .i64 (wrap64 (x5_1 + 1)))) (fun _ hk => hk.2) (.slice none 0 0)) (fun _ h_ => h_.1)))); (case side2 => exact (Kd.S_reads' HO_3.out).2.1); (case side3 => exact Kd.C_nil _ _); (case side4 => exact Nat.le_refl _); rintro e w69 ⟨v369, rfl, ho0, hb⟩; refine ⟨_, rfl, ?_⟩; have n0_ := Aside0.mk (Kd.S_elder' (by (with_reducible repeat (first | apply Kd.S_alloc | apply Kd.S_drewN | apply Kd.S_drew)); exact (Kd.S_mono (Kd.S_far (p := ⟨gb367, 2, none⟩) (Kd.S_far (p := ⟨gb367, 1, none⟩) (Kd.S_far (p := ⟨gb367, 0, none⟩) (Kd.S_types HO_3.out BK367.out (by decide)) (fun _ hk => hk.2) (.int .i64 0)) (fun _ hk => hk.2) (.int .i64 (wrap64 (x5_1 + 1)))) (fun _ hk => hk.2) (.slice none 0 0)) (fun _ h_ => h_.1))) (Kd.S_base ho0) hb); have n1_ := Aside0.mk (Kd.Q_below (by (with_reducible repeat (first | apply Kd.Q_alloc | apply Kd.Q_drewN | apply Kd.Q_drew)); exact (Kd.Q_mono (Kd.Q_far (p := ⟨gb367, 2, none⟩) (Kd.Q_far (p := ⟨gb367, 1, none⟩) (Kd.Q_far (p := ⟨gb367, 0, none⟩) (Kd.Q_types HO_4.out BK367.out (by decide)) (fun _ hk => hk.2) (.int .i64 0)) (fun _ hk => hk.2) (.int .i64 (wrap64 (x5_1 + 1)))) (fun _ hk => hk.2) (.slice none 0 0)) (fun _ h_ => h_.1))) hb); have n2_ := Aside0.mk (Kd.S_lower (Kd.S_new' ho0 (Kd.S_lt (by (with_reducible repeat (first | apply Kd.S_alloc | apply Kd.S_drewN | apply Kd.S_drew)); exact (Kd.S_mono (Kd.S_far (p := ⟨gb367, 2, none⟩) (Kd.S_far (p := ⟨gb367, 1, none⟩) (Kd.S_far (p := ⟨gb367, 0, none⟩) (Kd.S_types HO_3.out BK367.out (by decide)) (fun _ hk => hk.2) (.int .i64 0)) (fun _ hk => hk.2) (.int .i64 (wrap64 (x5_1 + 1)))) (fun _ hk => hk.2) (.slice none 0 0)) (fun _ h_ => h_.1))))) (below_size (by repeat (first | (with_reducible first | exact HB.out | apply below_alloc | apply pw_below_drewN | apply below_drew1 | refine below_set ?_ GE339.out | refine below_set ?_ GE367.out) | exact HB.out)))); have n3_ := Aside0.mk (blk_below (g := gb339) (o := (bx33 l0 x6_1 A338_6 c338_6)) (by (with_reducible repeat (first | refine blk_drewN ?_ _ | refine blk_drew ?_ | refine blk_alloc ?_ _)); refine blk_far ?_ NB339_367.out _; (with_reducible repeat (first | refine blk_drewN ?_ _ | refine blk_drew ?_ | refine blk_alloc ?_ _)); refine blk_far ?_ NB339_367.out _; (with_reducible repeat (first | refine blk_drewN ?_ _ | refine blk_drew ?_ | refine blk_alloc ?_ _)); refine blk_far ?_ NB339_367.out _; (with_reducible repeat (first | refine blk_drewN ?_ _ | refine blk_drew ?_ | refine blk_alloc ?_ _)); exact BK339.out) hb); have n4_ := Aside0.mk (blk_below (g := gb367) (o := (bx31 0 (wrap64 (x5_1 + 1)) none 0 0)) (by (with_reducible repeat (first | refine blk_drewN ?_ _ | refine blk_drew ?_ | refine blk_alloc ?_ _)); refine blk_put (cs := #[.int .i64 0, .int .i64 (wrap64 (x5_1 + 1)), .slice none 0 0]) ?_ 2 _ rfl; (with_reducible repeat (first | refine blk_drewN ?_ _ | refine blk_drew ?_ | refine blk_alloc ?_ _)); refine blk_put (cs := #[.int .i64 0, .int .i64 0, .slice none 0 0]) ?_ 1 _ rfl; (with_reducible repeat (first | refine blk_drewN ?_ _ | refine blk_drew ?_ | refine blk_alloc ?_ _)); refine blk_put (cs := #[.int .i64 0, .int .i64 0, .slice none 0 0]) ?_ 0 _ rfl; (with_reducible repeat (first | refine blk_drewN ?_ _ | refine blk_drew ?_ | refine blk_alloc ?_ _)); exact BK367.out) hb); have n5_ := Aside0.mk (below_step (by repeat (first | (with_reducible first | exact HB.out | apply below_alloc | apply pw_below_drewN | apply below_drew1 | refine below_set ?_ GE339.out | refine below_set ?_ GE367.out) | exact HB.out)) hb); clear HO_3; clear HO_4; clear BK339; clear BK367; clear HB; have HO_3 := n0_; have HO_4 := n1_; have HO370 := n2_; have BK339 := n3_; have BK367 := n4_; have HB := n5_; clear n0_ n1_ n2_ n3_ n4_ n5_; (try clear hb); (try clear hb2); (try clear hk); (try clear hi); (try clear ho0); obtain ⟨Ao70, co70, eo70⟩ := Kd.S_slice HO370.out; subst eo70) | ((with_reducible refine gate_callee (f := 15) rfl ?_); refine goesL_ (some 107) rfl rfl Try.func15 (by kernel_rfl) rfl #[.slice Ao70 t368.length co70, .int .i64 (rd x4_1 t365), .int .i64 (wrap64 (x5_1 + 1))] rfl (by (try simp only [List.map_toArray, List.map_cons, List.map_nil]); first | done | rfl | (simp only [List.length_drop, List.length_take]; rfl)) ?_; (with_reducible refine (session_Begin.calls kj6 _ _ t368 (rd x4_1 t365) (wrap64 (x5_1 + 1)) t372 t373 t374 t377 t378 _ ?side1 ?side2 A59.out).mono ?_); (case side1 => repeat (first | exact (Kd.S_reads' HO370.out).2.2 | (with_reducible refine Kd.C_alloc ?_ _) | (with_reducible refine Kd.C_drewN ?_ _) | (with_reducible refine Kd.C_drew ?_))); (case side2 => exact (Kd.S_reads' HO370.out).2.1); rintro e w71 ⟨v375, rfl, ho0, hb⟩; refine ⟨_, rfl, ?_⟩; have n0_ := Aside0.mk (Kd.S_elder' (by (with_reducible repeat (first | apply Kd.S_alloc | apply Kd.S_drewN | apply Kd.S_drew)); exact HO_3.out) (Kd.R_base ho0) hb); have n1_ := Aside0.mk (Kd.Q_below (by (with_reducible repeat (first | apply Kd.Q_alloc | apply Kd.Q_drewN | apply Kd.Q_drew)); exact HO_4.out) hb); have n2_ := Aside0.mk (Kd.S_elder' (by (with_reducible repeat (first | apply Kd.S_alloc | apply Kd.S_drewN | apply Kd.S_drew)); exact HO370.out) (Kd.R_base ho0) hb); have n3_ := Aside0.mk (Kd.R_lower ho0 (below_size (by repeat (first | (with_reducible first | exact HB.out | apply below_alloc | apply pw_below_drewN | apply below_drew1 | refine below_set ?_ GE339.out | refine below_set ?_ GE367.out) | exact HB.out)))); have n4_ := Aside0.mk (blk_below (g := gb339) (o := (bx33 l0 x6_1 A338_6 c338_6)) (by (with_reducible repeat (first | refine blk_drewN ?_ _ | refine blk_drew ?_ | refine blk_alloc ?_ _)); exact BK339.out) hb); have n5_ := Aside0.mk (blk_below (g := gb367) (o := (bx31 0 (wrap64 (x5_1 + 1)) none 0 0)) (by (with_reducible repeat (first | refine blk_drewN ?_ _ | refine blk_drew ?_ | refine blk_alloc ?_ _)); exact BK367.out) hb); have n6_ := Aside0.mk (below_step (by repeat (first | (with_reducible first | exact HB.out | apply below_alloc | apply pw_below_drewN | apply below_drew1 | refine below_set ?_ GE339.out | refine below_set ?_ GE367.out) | exact HB.out)) hb); clear HO_3; clear HO_4; clear HO370; clear BK339; clear BK367; clear HB; have HO_3 := n0_; have HO_4 := n1_; have HO370 := n2_; have HO376 := n3_; have BK339 := n4_; have BK367 := n5_; have HB := n6_; clear n0_ n1_ n2_ n3_ n4_ n5_ n6_; (try clear hb); (try clear hb2); (try clear hk); (try clear hi); (try clear ho0)) | ((with_reducible refine gate_dst (N := 18) rfl ?_); (try (refine gate_guard (by rfl) ?_; dsimp only)); refine box_event ?hg (N := 18) ?hd (cs := #[.int .i64 0, .int .i64 0, .slice none 0 0]) (t := 31) ?hr ?_; (case hd => rfl); (case hg => rfl); (case hr => first | (go_simp; done) | (go_simp; rfl)); intro gb379 hg w72 hbox hb; have n0_ := Aside0.mk (Kd.S_below (by (with_reducible repeat (first | apply Kd.S_alloc | apply Kd.S_drewN | apply Kd.S_drew)); exact HO_3.out) hb); have n1_ := Aside0.mk (Kd.Q_below (by (with_reducible repeat (first | apply Kd.Q_alloc | apply Kd.Q_drewN | apply Kd.Q_drew)); exact HO_4.out) hb); have n2_ := Aside0.mk (Kd.S_below (by (with_reducible repeat (first | apply Kd.S_alloc | apply Kd.S_drewN | apply Kd.S_drew)); exact HO370.out) hb); have n3_ := Aside0.mk (Kd.R_below (by (with_reducible repeat (first | apply Kd.R_alloc | apply Kd.R_drewN | apply Kd.R_drew)); exact HO376.out) hb); have n4_ := Aside0.mk (blk_below (g := gb339) (o := (bx33 l0 x6_1 A338_6 c338_6)) (by (with_reducible repeat (first | refine blk_drewN ?_ _ | refine blk_drew ?_ | refine blk_alloc ?_ _)); exact BK339.out) hb); have n5_ := Aside0.mk (blk_below (g := gb367) (o := (bx31 0 (wrap64 (x5_1 + 1)) none 0 0)) (by (with_reducible repeat (first | refine blk_drewN ?_ _ | refine blk_drew ?_ | refine blk_alloc ?_ _)); exact BK367.out) hb); have n6_ := Aside0.mk (below_step (by repeat (first | (with_reducible first | exact HB.out | apply below_alloc | apply pw_below_drewN | apply below_drew1 | refine below_set ?_ GE339.out | refine below_set ?_ GE367.out) | exact HB.out)) hb); have n7_ := Aside0.mk (hbox); have n8_ := Aside0.mk ((by rw [hg]; exact (below_size (by repeat (first | (with_reducible first | exact HB.out | apply below_alloc | apply pw_below_drewN | apply below_drew1 | refine below_set ?_ GE339.out | refine below_set ?_ GE367.out) | exact HB.out))) : w.heap.size ≤ gb379)); have n9_ := Aside0.mk ((by rw [hg]; exact (below_size (by repeat (first | (with_reducible first | exact HB.out | apply below_alloc | apply pw_below_drewN | apply below_drew1 | refine below_set ?_ GE339.out | refine below_set ?_ GE367.out) | exact HB.out))) : w.heap.size ≤ gb379)); have n10_ := Aside0.mk ((by rw [hg]; exact Nat.ne_of_lt (blk_lt (g := gb339) (o := (bx33 l0 x6_1 A338_6 c338_6)) (by (with_reducible repeat (first | refine blk_drewN ?_ _ | refine blk_drew ?_ | refine blk_alloc ?_ _)); exact BK339.out)) : gb339 ≠ gb379)); have n11_ := Aside0.mk ((by rw [hg]; exact Nat.ne_of_gt (blk_lt (g := gb339) (o := (bx33 l0 x6_1 A338_6 c338_6)) (by (with_reducible repeat (first | refine blk_drewN ?_ _ | refine blk_drew ?_ | refine blk_alloc ?_ _)); exact BK339.out)) : gb379 ≠ gb339)); have n12_ := Aside0.mk ((by rw [hg]; exact Nat.ne_of_lt (blk_lt (g := gb367) (o := (bx31 0 (wrap64 (x5_1 + 1)) none 0 0)) (by (with_reducible repeat (first | refine blk_drewN ?_ _ | refine blk_drew ?_ | refine blk_alloc ?_ _)); exact BK367.out)) : gb367 ≠ gb379)); have n13_ := Aside0.mk ((by rw [hg]; exact Nat.ne_of_gt (blk_lt (g := gb367) (o := (bx31 0 (wrap64 (x5_1 + 1)) none 0 0)) (by (with_reducible repeat (first | refine blk_drewN ?_ _ | refine blk_drew ?_ | refine blk_alloc ?_ _)); exact BK367.out)) : gb379 ≠ gb367)); clear HO_3; clear HO_4; clear HO370; clear HO376; clear BK339; clear BK367; clear HB; have HO_3 := n0_; have HO_4 := n1_; have HO370 := n2_; have HO376 := n3_; have BK339 := n4_; have BK367 := n5_; have HB := n6_; have BK379 := n7_; have GW379 := n8_; have GE379 := n9_; have NB339_379 := n10_; have NB379_339 := n11_; have NB367_379 := n12_; have NB379_367 := n13_; clear n0_ n1_ n2_ n3_ n4_ n5_ n6_ n7_ n8_ n9_ n10_ n11_ n12_ n13_; clear hb hbox hg; have hnb73 := NB379_339.out; have hnc73 := NB339_379.out; have hnb74 := NB379_367.out; have hnc74 := NB367_379.out; have hcz75_0 : w72.cell? ⟨gb379, 0, none⟩ = some (.int .i64 0) := (blk_cell BK379.out 0).trans rfl; have hcz75_1 : w72.cell? ⟨gb379, 1, none⟩ = some (.int .i64 0) := (blk_cell BK379.out 1).trans rfl; have hcz75_2 : w72.cell? ⟨gb379, 2, none⟩ = some (.slice none 0 0) := (blk_cell BK379.out 2).trans rfl; have hfz75_0 := blk_frozen BK379.out 0; have hfz75_1 := blk_frozen BK379.out 1; have hfz75_2 := blk_frozen BK379.out 2; obtain ⟨Ao76, co76, eo76⟩ := Kd.R_slice HO376.out; subst eo76) | ((with_reducible refine gate_callee (f := 15) rfl ?_); refine goesL_ (some 116) rfl rfl Try.func15 (by kernel_rfl) rfl #[.slice Ao70 t368.length co70, .int .i64 (rd x4_1 t365), .int .i64 (wrap64 ((wrap64 (x5_1 + 1)) - 1))] rfl (by (try simp only [List.map_toArray, List.map_cons, List.map_nil]); first | done | rfl | (simp only [List.length_drop, List.length_take]; rfl)) ?_; (with_reducible refine (session_Begin.calls kj6 _ _ t368 (rd x4_1 t365) (wrap64 ((wrap64 (x5_1 + 1)) - 1)) t380 t381 t382 t385 t386 _ ?side1 ?side2 A60.out).mono ?_); (case side1 => refine (Kd.S_reads' (e := 88) (base := w.heap.size) (ok := fun k_ => ((True ∧ some k_ ≠ (.slice Ao68 x3_1.length co68 : Value).ownBlock) ∧ some k_ ≠ (.slice Ao76 t374.length co76 : Value).ownBlock)) (n := t368.length) (c := co70) ?_).2.2; exact (by (with_reducible repeat (first | apply Kd.S_alloc | apply Kd.S_drewN | apply Kd.S_drew)); exact (Kd.S_mono (Kd.S_far (p := ⟨gb379, 2, none⟩) (Kd.S_far (p := ⟨gb379, 1, none⟩) (Kd.S_far (p := ⟨gb379, 0, none⟩) (Kd.S_types HO370.out BK379.out (by decide)) (fun _ hk => hk.2) (.int .i64 t372)) (fun _ hk => hk.2) (.int .i64 t373)) (fun _ hk => hk.2) (.slice Ao76 t374.length co76)) (fun _ h_ => h_.1)))); (case side2 => exact (Kd.S_reads' HO370.out).2.1); rintro e w77 ⟨v383, rfl, ho0, hb⟩; refine ⟨_, rfl, ?_⟩; have n0_ := Aside0.mk (Kd.S_elder' (by (with_reducible repeat (first | apply Kd.S_alloc | apply Kd.S_drewN | apply Kd.S_drew)); exact (Kd.S_mono (Kd.S_far (p := ⟨gb379, 2, none⟩) (Kd.S_far (p := ⟨gb379, 1, none⟩) (Kd.S_far (p := ⟨gb379, 0, none⟩) (Kd.S_types HO_3.out BK379.out (by decide)) (fun _ hk => hk.2) (.int .i64 t372)) (fun _ hk => hk.2) (.int .i64 t373)) (fun _ hk => hk.2) (.slice Ao76 t374.length co76)) (fun _ h_ => h_.1))) (Kd.R_base ho0) hb); have n1_ := Aside0.mk (Kd.Q_below (by (with_reducible repeat (first | apply Kd.Q_alloc | apply Kd.Q_drewN | apply Kd.Q_drew)); exact (Kd.Q_mono (Kd.Q_far (p := ⟨gb379, 2, none⟩) (Kd.Q_far (p := ⟨gb379, 1, none⟩) (Kd.Q_far (p := ⟨gb379, 0, none⟩) (Kd.Q_types HO_4.out BK379.out (by decide)) (fun _ hk => hk.2) (.int .i64 t372)) (fun _ hk => hk.2) (.int .i64 t373)) (fun _ hk => hk.2) (.slice Ao76 t374.length co76)) (fun _ h_ => h_.1))) hb); have n2_ := Aside0.mk (Kd.S_elder' (by (with_reducible repeat (first | apply Kd.S_alloc | apply Kd.S_drewN | apply Kd.S_drew)); exact (Kd.S_mono (Kd.S_far (p := ⟨gb379, 2, none⟩) (Kd.S_far (p := ⟨gb379, 1, none⟩) (Kd.S_far (p := ⟨gb379, 0, none⟩) (Kd.S_types HO370.out BK379.out (by decide)) (fun _ hk => hk.2) (.int .i64 t372)) (fun _ hk => hk.2) (.int .i64 t373)) (fun _ hk => hk.2) (.slice Ao76 t374.length co76)) (fun _ h_ => h_.1))) (Kd.R_base ho0) hb); have n3_ := Aside0.mk (Kd.R_elder' (by (with_reducible repeat (first | apply Kd.R_alloc | apply Kd.R_drewN | apply Kd.R_drew)); exact (Kd.R_mono (Kd.R_far (p := ⟨gb379, 2, none⟩) (Kd.R_far (p := ⟨gb379, 1, none⟩) (Kd.R_far (p := ⟨gb379, 0, none⟩) (Kd.R_types HO376.out BK379.out (by decide)) (fun _ hk => hk.2) (.int .i64 t372)) (fun _ hk => hk.2) (.int .i64 t373)) (fun _ hk => hk.2) (.slice Ao76 t374.length co76)) (fun _ h_ => h_.1))) (Kd.R_base ho0) hb); have n4_ := Aside0.mk (Kd.R_lower (Kd.R_new' ho0 (Kd.R_lt (by (with_reducible repeat (first | apply Kd.R_alloc | apply Kd.R_drewN | apply Kd.R_drew)); exact (Kd.R_mono (Kd.R_far (p := ⟨gb379, 2, none⟩) (Kd.R_far (p := ⟨gb379, 1, none⟩) (Kd.R_far (p := ⟨gb379, 0, none⟩) (Kd.R_types HO376.out BK379.out (by decide)) (fun _ hk => hk.2) (.int .i64 t372)) (fun _ hk => hk.2) (.int .i64 t373)) (fun _ hk => hk.2) (.slice Ao76 t374.length co76)) (fun _ h_ => h_.1))))) (below_size (by repeat (first | (with_reducible first | exact HB.out | apply below_alloc | apply pw_below_drewN | apply below_drew1 | refine below_set ?_ GE339.out | refine below_set ?_ GE367.out | refine below_set ?_ GE379.out) | exact HB.out)))); have n5_ := Aside0.mk (blk_below (g := gb339) (o := (bx33 l0 x6_1 A338_6 c338_6)) (by (with_reducible repeat (first | refine blk_drewN ?_ _ | refine blk_drew ?_ | refine blk_alloc ?_ _)); refine blk_far ?_ NB339_379.out _; (with_reducible repeat (first | refine blk_drewN ?_ _ | refine blk_drew ?_ | refine blk_alloc ?_ _)); refine blk_far ?_ NB339_379.out _; (with_reducible repeat (first | refine blk_drewN ?_ _ | refine blk_drew ?_ | refine blk_alloc ?_ _)); refine blk_far ?_ NB339_379.out _; (with_reducible repeat (first | refine blk_drewN ?_ _ | refine blk_drew ?_ | refine blk_alloc ?_ _)); exact BK339.out) hb); have n6_ := Aside0.mk (blk_below (g := gb367) (o := (bx31 0 (wrap64 (x5_1 + 1)) none 0 0)) (by (with_reducible repeat (first | refine blk_drewN ?_ _ | refine blk_drew ?_ | refine blk_alloc ?_ _)); refine blk_far ?_ NB367_379.out _; (with_reducible repeat (first | refine blk_drewN ?_ _ | refine blk_drew ?_ | refine blk_alloc ?_ _)); refine blk_far ?_ NB367_379.out _; (with_reducible repeat (first | refine blk_drewN ?_ _ | refine blk_drew ?_ | refine blk_alloc ?_ _)); refine blk_far ?_ NB367_379.out _; (with_reducible repeat (first | refine blk_drewN ?_ _ | refine blk_drew ?_ | refine blk_alloc ?_ _)); exact BK367.out) hb); have n7_ := Aside0.mk (blk_below (g := gb379) (o := (bx31 t372 t373 Ao76 t374.length co76)) (by (with_reducible repeat (first | refine blk_drewN ?_ _ | refine blk_drew ?_ | refine blk_alloc ?_ _)); refine blk_put (cs := #[.int .i64 t372, .int .i64 t373, .slice none 0 0]) ?_ 2 _ rfl; (with_reducible repeat (first | refine blk_drewN ?_ _ | refine blk_drew ?_ | refine blk_alloc ?_ _)); refine blk_put (cs := #[.int .i64 t372, .int .i64 0, .slice none 0 0]) ?_ 1 _ rfl; (with_reducible repeat (first | refine blk_drewN ?_ _ | refine blk_drew ?_ | refine blk_alloc ?_ _)); refine blk_put (cs := #[.int .i64 0, .int .i64 0, .slice none 0 0]) ?_ 0 _ rfl; (with_reducible repeat (first | refine blk_drewN ?_ _ | refine blk_drew ?_ | refine blk_alloc ?_ _)); exact BK379.out) hb); have n8_ := Aside0.mk (below_step (by repeat (first | (with_reducible first | exact HB.out | apply below_alloc | apply pw_below_drewN | apply below_drew1 | refine below_set ?_ GE339.out | refine below_set ?_ GE367.out | refine below_set ?_ GE379.out) | exact HB.out)) hb); clear HO_3; clear HO_4; clear HO370; clear HO376; clear BK339; clear BK367; clear BK379; clear HB; have HO_3 := n0_; have HO_4 := n1_; have HO370 := n2_; have HO376 := n3_; have HO384 := n4_; have BK339 := n5_; have BK367 := n6_; have BK379 := n7_; have HB := n8_; clear n0_ n1_ n2_ n3_ n4_ n5_ n6_ n7_ n8_; (try clear hb); (try clear hb2); (try clear hk); (try clear hi); (try clear ho0)) | ((with_reducible refine gate_dst (N := 21) rfl ?_); (try (refine gate_guard (by rfl) ?_; dsimp only)); refine box_event ?hg (N := 21) ?hd (cs := #[.int .i64 0, .int .i64 0, .slice none 0 0]) (t := 31) ?hr ?_; (case hd => rfl); (case hg => rfl); (case hr => first | (go_simp; done) | (go_simp; rfl)); intro gb387 hg w78 hbox hb; have n0_ := Aside0.mk (Kd.S_below (by (with_reducible repeat (first | apply Kd.S_alloc | apply Kd.S_drewN | apply Kd.S_drew)); exact HO_3.out) hb); have n1_ := Aside0.mk (Kd.Q_below (by (with_reducible repeat (first | apply Kd.Q_alloc | apply Kd.Q_drewN | apply Kd.Q_drew)); exact HO_4.out) hb); have n2_ := Aside0.mk (Kd.S_below (by (with_reducible repeat (first | apply Kd.S_alloc | apply Kd.S_drewN | apply Kd.S_drew)); exact HO370.out) hb); have n3_ := Aside0.mk (Kd.R_below (by (with_reducible repeat (first | apply Kd.R_alloc | apply Kd.R_drewN | apply Kd.R_drew)); exact HO376.out) hb); have n4_ := Aside0.mk (Kd.R_below (by (with_reducible repeat (first | apply Kd.R_alloc | apply Kd.R_drewN | apply Kd.R_drew)); exact HO384.out) hb); have n5_ := Aside0.mk (blk_below (g := gb339) (o := (bx33 l0 x6_1 A338_6 c338_6)) (by (with_reducible repeat (first | refine blk_drewN ?_ _ | refine blk_drew ?_ | refine blk_alloc ?_ _)); exact BK339.out) hb); have n6_ := Aside0.mk (blk_below (g := gb367) (o := (bx31 0 (wrap64 (x5_1 + 1)) none 0 0)) (by (with_reducible repeat (first | refine blk_drewN ?_ _ | refine blk_drew ?_ | refine blk_alloc ?_ _)); exact BK367.out) hb); have n7_ := Aside0.mk (blk_below (g := gb379) (o := (bx31 t372 t373 Ao76 t374.length co76)) (by (with_reducible repeat (first | refine blk_drewN ?_ _ | refine blk_drew ?_ | refine blk_alloc ?_ _)); exact BK379.out) hb); have n8_ := Aside0.mk (below_step (by repeat (first | (with_reducible first | exact HB.out | apply below_alloc | apply pw_below_drewN | apply below_drew1 | refine below_set ?_ GE339.out | refine below_set ?_ GE367.out | refine below_set ?_ GE379.out) | exact HB.out)) hb); have n9_ := Aside0.mk (hbox); have n10_ := Aside0.mk ((by rw [hg]; exact (below_size (by repeat (first | (with_reducible first | exact HB.out | apply below_alloc | apply pw_below_drewN | apply below_drew1 | refine below_set ?_ GE339.out | refine below_set ?_ GE367.out | refine below_set ?_ GE379.out) | exact HB.out))) : w.heap.size ≤ gb387)); have n11_ := Aside0.mk ((by rw [hg]; exact (below_size (by repeat (first | (with_reducible first | exact HB.out | apply below_alloc | apply pw_below_drewN | apply below_drew1 | refine below_set ?_ GE339.out | refine below_set ?_ GE367.out | refine below_set ?_ GE379.out) | exact HB.out))) : w.heap.size ≤ gb387)); have n12_ := Aside0.mk ((by rw [hg]; exact Nat.ne_of_lt (blk_lt (g := gb339) (o := (bx33 l0 x6_1 A338_6 c338_6)) (by (with_reducible repeat (first | refine blk_drewN ?_ _ | refine blk_drew ?_ | refine blk_alloc ?_ _)); exact BK339.out)) : gb339 ≠ gb387)); have n13_ := Aside0.mk ((by rw [hg]; exact Nat.ne_of_gt (blk_lt (g := gb339) (o := (bx33 l0 x6_1 A338_6 c338_6)) (by (with_reducible repeat (first | refine blk_drewN ?_ _ | refine blk_drew ?_ | refine blk_alloc ?_ _)); exact BK339.out)) : gb387 ≠ gb339)); have n14_ := Aside0.mk ((by rw [hg]; exact Nat.ne_of_lt (blk_lt (g := gb367) (o := (bx31 0 (wrap64 (x5_1 + 1)) none 0 0)) (by (with_reducible repeat (first | refine blk_drewN ?_ _ | refine blk_drew ?_ | refine blk_alloc ?_ _)); exact BK367.out)) : gb367 ≠ gb387)); have n15_ := Aside0.mk ((by rw [hg]; exact Nat.ne_of_gt (blk_lt (g := gb367) (o := (bx31 0 (wrap64 (x5_1 + 1)) none 0 0)) (by (with_reducible repeat (first | refine blk_drewN ?_ _ | refine blk_drew ?_ | refine blk_alloc ?_ _)); exact BK367.out)) : gb387 ≠ gb367)); have n16_ := Aside0.mk ((by rw [hg]; exact Nat.ne_of_lt (blk_lt (g := gb379) (o := (bx31 t372 t373 Ao76 t374.length co76)) (by (with_reducible repeat (first | refine blk_drewN ?_ _ | refine blk_drew ?_ | refine blk_alloc ?_ _)); exact BK379.out)) : gb379 ≠ gb387)); have n17_ := Aside0.mk ((by rw [hg]; exact Nat.ne_of_gt (blk_lt (g := gb379) (o := (bx31 t372 t373 Ao76 t374.length co76)) (by (with_reducible repeat (first | refine blk_drewN ?_ _ | refine blk_drew ?_ | refine blk_alloc ?_ _)); exact BK379.out)) : gb387 ≠ gb379)); clear HO_3; clear HO_4; clear HO370; clear HO376; clear HO384; clear BK339; clear BK367; clear BK379; clear HB; have HO_3 := n0_; have HO_4 := n1_; have HO370 := n2_; have HO376 := n3_; have HO384 := n4_; have BK339 := n5_; have BK367 := n6_; have BK379 := n7_; have HB := n8_; have BK387 := n9_; have GW387 := n10_; have GE387 := n11_; have NB339_387 := n12_; have NB387_339 := n13_; have NB367_387 := n14_; have NB387_367 := n15_; have NB379_387 := n16_; have NB387_379 := n17_; clear n0_ n1_ n2_ n3_ n4_ n5_ n6_ n7_ n8_ n9_ n10_ n11_ n12_ n13_ n14_ n15_ n16_ n17_; clear hb hbox hg; have hnb79 := NB387_339.out; have hnc79 := NB339_387.out; have hnb80 := NB387_367.out; have hnc80 := NB367_387.out; have hnb81 := NB387_379.out; have hnc81 := NB379_387.out; have hcz82_0 : w78.cell? ⟨gb387, 0, none⟩ = some (.int .i64 0) := (blk_cell BK387.out 0).trans rfl; have hcz82_1 : w78.cell? ⟨gb387, 1, none⟩ = some (.int .i64 0) := (blk_cell BK387.out 1).trans rfl; have hcz82_2 : w78.cell? ⟨gb387, 2, none⟩ = some (.slice none 0 0) := (blk_cell BK387.out 2).trans rfl; have hfz82_0 := blk_frozen BK387.out 0; have hfz82_1 := blk_frozen BK387.out 1; have hfz82_2 := blk_frozen BK387.out 2; obtain ⟨Ao83, co83, eo83⟩ := Kd.R_slice HO384.out; subst eo83) | ((with_reducible refine gate_callee (f := 15) rfl ?_); refine goesL_ (some 125) rfl rfl Try.func15 (by kernel_rfl) rfl #[.slice Ao70 t368.length co70, .int .i64 (rd x4_1 t365), .int .i64 (wrap64 ((wrap64 (x5_1 + 1)) + 1))] rfl (by (try simp only [List.map_toArray, List.map_cons, List.map_nil]); first | done | rfl | (simp only [List.length_drop, List.length_take]; rfl)) ?_; (with_reducible refine (session_Begin.calls kj6 _ _ t368 (rd x4_1 t365) (wrap64 ((wrap64 (x5_1 + 1)) + 1)) t388 t389 t390 t393 t394 _ ?side1 ?side2 A61.out).mono ?_); (case side1 => refine (Kd.S_reads' (e := 88) (base := w.heap.size) (ok := fun k_ => (((True ∧ some k_ ≠ (.slice Ao68 x3_1.length co68 : Value).ownBlock) ∧ some k_ ≠ (.slice Ao76 t374.length co76 : Value).ownBlock) ∧ some k_ ≠ (.slice Ao83 t382.length co83 : Value).ownBlock)) (n := t368.length) (c := co70) ?_).2.2; exact (by (with_reducible repeat (first | apply Kd.S_alloc | apply Kd.S_drewN | apply Kd.S_drew)); exact (Kd.S_mono (Kd.S_far (p := ⟨gb387, 2, none⟩) (Kd.S_far (p := ⟨gb387, 1, none⟩) (Kd.S_far (p := ⟨gb387, 0, none⟩) (Kd.S_types HO370.out BK387.out (by decide)) (fun _ hk => hk.2) (.int .i64 t380)) (fun _ hk => hk.2) (.int .i64 t381)) (fun _ hk => hk.2) (.slice Ao83 t382.length co83)) (fun _ h_ => h_.1)))); (case side2 => exact (Kd.S_reads' HO370.out).2.1); rintro e w84 ⟨v391, rfl, ho0, hb⟩; refine ⟨_, rfl, ?_⟩; have n0_ := Aside0.mk (Kd.S_elder' (by (with_reducible repeat (first | apply Kd.S_alloc | apply Kd.S_drewN | apply Kd.S_drew)); exact (Kd.S_mono (Kd.S_far (p := ⟨gb387, 2, none⟩) (Kd.S_far (p := ⟨gb387, 1, none⟩) (Kd.S_far (p := ⟨gb387, 0, none⟩) (Kd.S_types HO_3.out BK387.out (by decide)) (fun _ hk => hk.2) (.int .i64 t380)) (fun _ hk => hk.2) (.int .i64 t381)) (fun _ hk => hk.2) (.slice Ao83 t382.length co83)) (fun _ h_ => h_.1))) (Kd.R_base ho0) hb); have n1_ := Aside0.mk (Kd.Q_below (by (with_reducible repeat (first | apply Kd.Q_alloc | apply Kd.Q_drewN | apply Kd.Q_drew)); exact (Kd.Q_mono (Kd.Q_far (p := ⟨gb387, 2, none⟩) (Kd.Q_far (p := ⟨gb387, 1, none⟩) (Kd.Q_far (p := ⟨gb387, 0, none⟩) (Kd.Q_types HO_4.out BK387.out (by decide)) (fun _ hk => hk.2) (.int .i64 t380)) (fun _ hk => hk.2) (.int .i64 t381)) (fun _ hk => hk.2) (.slice Ao83 t382.length co83)) (fun _ h_ => h_.1))) hb); have n2_ := Aside0.mk (Kd.S_elder' (by (with_reducible repeat (first | apply Kd.S_alloc | apply Kd.S_drewN | apply Kd.S_drew)); exact (Kd.S_mono (Kd.S_far (p := ⟨gb387, 2, none⟩) (Kd.S_far (p := ⟨gb387, 1, none⟩) (Kd.S_far (p := ⟨gb387, 0, none⟩) (Kd.S_types HO370.out BK387.out (by decide)) (fun _ hk => hk.2) (.int .i64 t380)) (fun _ hk => hk.2) (.int .i64 t381)) (fun _ hk => hk.2) (.slice Ao83 t382.length co83)) (fun _ h_ => h_.1))) (Kd.R_base ho0) hb); have n3_ := Aside0.mk (Kd.R_elder' (by (with_reducible repeat (first | apply Kd.R_alloc | apply Kd.R_drewN | apply Kd.R_drew)); exact (Kd.R_mono (Kd.R_far (p := ⟨gb387, 2, none⟩) (Kd.R_far (p := ⟨gb387, 1, none⟩) (Kd.R_far (p := ⟨gb387, 0, none⟩) (Kd.R_types HO376.out BK387.out (by decide)) (fun _ hk => hk.2) (.int .i64 t380)) (fun _ hk => hk.2) (.int .i64 t381)) (fun _ hk => hk.2) (.slice Ao83 t382.length co83)) (fun _ h_ => h_.1))) (Kd.R_base ho0) hb); have n4_ := Aside0.mk (Kd.R_elder' (by (with_reducible repeat (first | apply Kd.R_alloc | apply Kd.R_drewN | apply Kd.R_drew)); exact (Kd.R_mono (Kd.R_far (p := ⟨gb387, 2, none⟩) (Kd.R_far (p := ⟨gb387, 1, none⟩) (Kd.R_far (p := ⟨gb387, 0, none⟩) (Kd.R_types HO384.out BK387.out (by decide)) (fun _ hk => hk.2) (.int .i64 t380)) (fun _ hk => hk.2) (.int .i64 t381)) (fun _ hk => hk.2) (.slice Ao83 t382.length co83)) (fun _ h_ => h_.1))) (Kd.R_base ho0) hb); have n5_ := Aside0.mk (Kd.R_lower (Kd.R_new' (Kd.R_new' ho0 (Kd.R_lt (by (with_reducible repeat (first | apply Kd.R_alloc | apply Kd.R_drewN | apply Kd.R_drew)); exact (Kd.R_mono (Kd.R_far (p := ⟨gb387, 2, none⟩) (Kd.R_far (p := ⟨gb387, 1, none⟩) (Kd.R_far (p := ⟨gb387, 0, none⟩) (Kd.R_types HO376.out BK387.out (by decide)) (fun _ hk => hk.2) (.int .i64 t380)) (fun _ hk => hk.2) (.int .i64 t381)) (fun _ hk => hk.2) (.slice Ao83 t382.length co83)) (fun _ h_ => h_.1))))) (Kd.R_lt (by (with_reducible repeat (first | apply Kd.R_alloc | apply Kd.R_drewN | apply Kd.R_drew)); exact (Kd.R_mono (Kd.R_far (p := ⟨gb387, 2, none⟩) (Kd.R_far (p := ⟨gb387, 1, none⟩) (Kd.R_far (p := ⟨gb387, 0, none⟩) (Kd.R_types HO384.out BK387.out (by decide)) (fun _ hk => hk.2) (.int .i64 t380)) (fun _ hk => hk.2) (.int .i64 t381)) (fun _ hk => hk.2) (.slice Ao83 t382.length co83)) (fun _ h_ => h_.1))))) (below_size (by repeat (first | (with_reducible first | exact HB.out | apply below_alloc | apply pw_below_drewN | apply below_drew1 | refine below_set ?_ GE339.out | refine below_set ?_ GE367.out | refine below_set ?_ GE379.out | refine below_set ?_ GE387.out) | exact HB.out)))); have n6_ := Aside0.mk (blk_below (g := gb339) (o := (bx33 l0 x6_1 A338_6 c338_6)) (by (with_reducible repeat (first | refine blk_drewN ?_ _ | refine blk_drew ?_ | refine blk_alloc ?_ _)); refine blk_far ?_ NB339_387.out _; (with_reducible repeat (first | refine blk_drewN ?_ _ | refine blk_drew ?_ | refine blk_alloc ?_ _)); refine blk_far ?_ NB339_387.out _; (with_reducible repeat (first | refine blk_drewN ?_ _ | refine blk_drew ?_ | refine blk_alloc ?_ _)); refine blk_far ?_ NB339_387.out _; (with_reducible repeat (first | refine blk_drewN ?_ _ | refine blk_drew ?_ | refine blk_alloc ?_ _)); exact BK339.out) hb); have n7_ := Aside0.mk (blk_below (g := gb367) (o := (bx31 0 (wrap64 (x5_1 + 1)) none 0 0)) (by (with_reducible repeat (first | refine blk_drewN ?_ _ | refine blk_drew ?_ | refine blk_alloc ?_ _)); refine blk_far ?_ NB367_387.out _; (with_reducible repeat (first | refine blk_drewN ?_ _ | refine blk_drew ?_ | refine blk_alloc ?_ _)); refine blk_far ?_ NB367_387.out _; (with_reducible repeat (first | refine blk_drewN ?_ _ | refine blk_drew ?_ | refine blk_alloc ?_ _)); refine blk_far ?_ NB367_387.out _; (with_reducible repeat (first | refine blk_drewN ?_ _ | refine blk_drew ?_ | refine blk_alloc ?_ _)); exact BK367.out) hb); have n8_ := Aside0.mk (blk_below (g := gb379) (o := (bx31 t372 t373 Ao76 t374.length co76)) (by (with_reducible repeat (first | refine blk_drewN ?_ _ | refine blk_drew ?_ | refine blk_alloc ?_ _)); refine blk_far ?_ NB379_387.out _; (with_reducible repeat (first | refine blk_drewN ?_ _ | refine blk_drew ?_ | refine blk_alloc ?_ _)); refine blk_far ?_ NB379_387.out _; (with_reducible repeat (first | refine blk_drewN ?_ _ | refine blk_drew ?_ | refine blk_alloc ?_ _)); refine blk_far ?_ NB379_387.out _; (with_reducible repeat (first | refine blk_drewN ?_ _ | refine blk_drew ?_ | refine blk_alloc ?_ _)); exact BK379.out) hb); have n9_ := Aside0.mk (blk_below (g := gb387) (o := (bx31 t380 t381 Ao83 t382.length co83)) (by (with_reducible repeat (first | refine blk_drewN ?_ _ | refine blk_drew ?_ | refine blk_alloc ?_ _)); refine blk_put (cs := #[.int .i64 t380, .int .i64 t381, .slice none 0 0]) ?_ 2 _ rfl; (with_reducible repeat (first | refine blk_drewN ?_ _ | refine blk_drew ?_ | refine blk_alloc ?_ _)); refine blk_put (cs := #[.int .i64 t380, .int .i64 0, .slice none 0 0]) ?_ 1 _ rfl; (with_reducible repeat (first | refine blk_drewN ?_ _ | refine blk_drew ?_ | refine blk_alloc ?_ _)); refine blk_put (cs := #[.int .i64 0, .int .i64 0, .slice none 0 0]) ?_ 0 _ rfl; (with_reducible repeat (first | refine blk_drewN ?_ _ | refine blk_drew ?_ | refine blk_alloc ?_ _)); exact BK387.out) hb); have n10_ := Aside0.mk (below_step (by repeat (first | (with_reducible first | exact HB.out | apply below_alloc | apply pw_below_drewN | apply below_drew1 | refine below_set ?_ GE339.out | refine below_set ?_ GE367.out | refine below_set ?_ GE379.out | refine below_set ?_ GE387.out) | exact HB.out)) hb); clear HO_3; clear HO_4; clear HO370; clear HO376; clear HO384; clear BK339; clear BK367; clear BK379; clear BK387; clear HB; have HO_3 := n0_; have HO_4 := n1_; have HO370 := n2_; have HO376 := n3_; have HO384 := n4_; have HO392 := n5_; have BK339 := n6_; have BK367 := n7_; have BK379 := n8_; have BK387 := n9_; have HB := n10_; clear n0_ n1_ n2_ n3_ n4_ n5_ n6_ n7_ n8_ n9_ n10_; (try clear hb); (try clear hb2); (try clear hk); (try clear hi); (try clear ho0)) | ((with_reducible refine gate_dst (N := 24) rfl ?_); (try (refine gate_guard (by rfl) ?_; dsimp only)); refine box_event ?hg (N := 24) ?hd (cs := #[.int .i64 0, .int .i64 0, .slice none 0 0]) (t := 31) ?hr ?_; (case hd => rfl); (case hg => rfl); (case hr => first | (go_simp; done) | (go_simp; rfl)); intro gb395 hg w85 hbox hb; have n0_ := Aside0.mk (Kd.S_below (by (with_reducible repeat (first | apply Kd.S_alloc | apply Kd.S_drewN | apply Kd.S_drew)); exact HO_3.out) hb); have n1_ := Aside0.mk (Kd.Q_below (by (with_reducible repeat (first | apply Kd.Q_alloc | apply Kd.Q_drewN | apply Kd.Q_drew)); exact HO_4.out) hb); have n2_ := Aside0.mk (Kd.S_below (by (with_reducible repeat (first | apply Kd.S_alloc | apply Kd.S_drewN | apply Kd.S_drew)); exact HO370.out) hb); have n3_ := Aside0.mk (Kd.R_below (by (with_reducible repeat (first | apply Kd.R_alloc | apply Kd.R_drewN | apply Kd.R_drew)); exact HO376.out) hb); have n4_ := Aside0.mk (Kd.R_below (by (with_reducible repeat (first | apply Kd.R_alloc | apply Kd.R_drewN | apply Kd.R_drew)); exact HO384.out) hb); have n5_ := Aside0.mk (Kd.R_below (by (with_reducible repeat (first | apply Kd.R_alloc | apply Kd.R_drewN | apply Kd.R_drew)); exact HO392.out) hb); have n6_ := Aside0.mk (blk_below (g := gb339) (o := (bx33 l0 x6_1 A338_6 c338_6)) (by (with_reducible repeat (first | refine blk_drewN ?_ _ | refine blk_drew ?_ | refine blk_alloc ?_ _)); exact BK339.out) hb); have n7_ := Aside0.mk (blk_below (g := gb367) (o := (bx31 0 (wrap64 (x5_1 + 1)) none 0 0)) (by (with_reducible repeat (first | refine blk_drewN ?_ _ | refine blk_drew ?_ | refine blk_alloc ?_ _)); exact BK367.out) hb); have n8_ := Aside0.mk (blk_below (g := gb379) (o := (bx31 t372 t373 Ao76 t374.length co76)) (by (with_reducible repeat (first | refine blk_drewN ?_ _ | refine blk_drew ?_ | refine blk_alloc ?_ _)); exact BK379.out) hb); have n9_ := Aside0.mk (blk_below (g := gb387) (o := (bx31 t380 t381 Ao83 t382.length co83)) (by (with_reducible repeat (first | refine blk_drewN ?_ _ | refine blk_drew ?_ | refine blk_alloc ?_ _)); exact BK387.out) hb); have n10_ := Aside0.mk (below_step (by repeat (first | (with_reducible first | exact HB.out | apply below_alloc | apply pw_below_drewN | apply below_drew1 | refine below_set ?_ GE339.out | refine below_set ?_ GE367.out | refine below_set ?_ GE379.out | refine below_set ?_ GE387.out) | exact HB.out)) hb); have n11_ := Aside0.mk (hbox); have n12_ := Aside0.mk ((by rw [hg]; exact (below_size (by repeat (first | (with_reducible first | exact HB.out | apply below_alloc | apply pw_below_drewN | apply below_drew1 | refine below_set ?_ GE339.out | refine below_set ?_ GE367.out | refine below_set ?_ GE379.out | refine below_set ?_ GE387.out) | exact HB.out))) : w.heap.size ≤ gb395)); have n13_ := Aside0.mk ((by rw [hg]; exact (below_size (by repeat (first | (with_reducible first | exact HB.out | apply below_alloc | apply pw_below_drewN | apply below_drew1 | refine below_set ?_ GE339.out | refine below_set ?_ GE367.out | refine below_set ?_ GE379.out | refine below_set ?_ GE387.out) | exact HB.out))) : w.heap.size ≤ gb395)); have n14_ := Aside0.mk ((by rw [hg]; exact Nat.ne_of_lt (blk_lt (g := gb339) (o := (bx33 l0 x6_1 A338_6 c338_6)) (by (with_reducible repeat (first | refine blk_drewN ?_ _ | refine blk_drew ?_ | refine blk_alloc ?_ _)); exact BK339.out)) : gb339 ≠ gb395)); have n15_ := Aside0.mk ((by rw [hg]; exact Nat.ne_of_gt (blk_lt (g := gb339) (o := (bx33 l0 x6_1 A338_6 c338_6)) (by (with_reducible repeat (first | refine blk_drewN ?_ _ | refine blk_drew ?_ | refine blk_alloc ?_ _)); exact BK339.out)) : gb395 ≠ gb339)); have n16_ := Aside0.mk ((by rw [hg]; exact Nat.ne_of_lt (blk_lt (g := gb367) (o := (bx31 0 (wrap64 (x5_1 + 1)) none 0 0)) (by (with_reducible repeat (first | refine blk_drewN ?_ _ | refine blk_drew ?_ | refine blk_alloc ?_ _)); exact BK367.out)) : gb367 ≠ gb395)); have n17_ := Aside0.mk ((by rw [hg]; exact Nat.ne_of_gt (blk_lt (g := gb367) (o := (bx31 0 (wrap64 (x5_1 + 1)) none 0 0)) (by (with_reducible repeat (first | refine blk_drewN ?_ _ | refine blk_drew ?_ | refine blk_alloc ?_ _)); exact BK367.out)) : gb395 ≠ gb367)); have n18_ := Aside0.mk ((by rw [hg]; exact Nat.ne_of_lt (blk_lt (g := gb379) (o := (bx31 t372 t373 Ao76 t374.length co76)) (by (with_reducible repeat (first | refine blk_drewN ?_ _ | refine blk_drew ?_ | refine blk_alloc ?_ _)); exact BK379.out)) : gb379 ≠ gb395)); have n19_ := Aside0.mk ((by rw [hg]; exact Nat.ne_of_gt (blk_lt (g := gb379) (o := (bx31 t372 t373 Ao76 t374.length co76)) (by (with_reducible repeat (first | refine blk_drewN ?_ _ | refine blk_drew ?_ | refine blk_alloc ?_ _)); exact BK379.out)) : gb395 ≠ gb379)); have n20_ := Aside0.mk ((by rw [hg]; exact Nat.ne_of_lt (blk_lt (g := gb387) (o := (bx31 t380 t381 Ao83 t382.length co83)) (by (with_reducible repeat (first | refine blk_drewN ?_ _ | refine blk_drew ?_ | refine blk_alloc ?_ _)); exact BK387.out)) : gb387 ≠ gb395)); have n21_ := Aside0.mk ((by rw [hg]; exact Nat.ne_of_gt (blk_lt (g := gb387) (o := (bx31 t380 t381 Ao83 t382.length co83)) (by (with_reducible repeat (first | refine blk_drewN ?_ _ | refine blk_drew ?_ | refine blk_alloc ?_ _)); exact BK387.out)) : gb395 ≠ gb387)); clear HO_3; clear HO_4; clear HO370; clear HO376; clear HO384; clear HO392; clear BK339; clear BK367; clear BK379; clear BK387; clear HB; have HO_3 := n0_; have HO_4 := n1_; have HO370 := n2_; have HO376 := n3_; have HO384 := n4_; have HO392 := n5_; have BK339 := n6_; have BK367 := n7_; have BK379 := n8_; have BK387 := n9_; have HB := n10_; have BK395 := n11_; have GW395 := n12_; have GE395 := n13_; have NB339_395 := n14_; have NB395_339 := n15_; have NB367_395 := n16_; have NB395_367 := n17_; have NB379_395 := n18_; have NB395_379 := n19_; have NB387_395 := n20_; have NB395_387 := n21_; clear n0_ n1_ n2_ n3_ n4_ n5_ n6_ n7_ n8_ n9_ n10_ n11_ n12_ n13_ n14_ n15_ n16_ n17_ n18_ n19_ n20_ n21_; clear hb hbox hg; have hnb86 := NB395_339.out; have hnc86 := NB339_395.out; have hnb87 := NB395_367.out; have hnc87 := NB367_395.out; have hnb88 := NB395_379.out; have hnc88 := NB379_395.out; have hnb89 := NB395_387.out; have hnc89 := NB387_395.out; have hcz90_0 : w85.cell? ⟨gb395, 0, none⟩ = some (.int .i64 0) := (blk_cell BK395.out 0).trans rfl; have hcz90_1 : w85.cell? ⟨gb395, 1, none⟩ = some (.int .i64 0) := (blk_cell BK395.out 1).trans rfl; have hcz90_2 : w85.cell? ⟨gb395, 2, none⟩ = some (.slice none 0 0) := (blk_cell BK395.out 2).trans rfl; have hfz90_0 := blk_frozen BK395.out 0; have hfz90_1 := blk_frozen BK395.out 1; have hfz90_2 := blk_frozen BK395.out 2; obtain ⟨Ao91, co91, eo91⟩ := Kd.R_slice HO392.out; subst eo91))
              (try simp only [Act.put, List.setIfInBounds_toArray, List.set_cons_zero, List.set_cons_succ])
              go_cut [159] (fun v159 wc => ∃ (kq : Nat) (x159_61 : Bool), v159 = .bool x159_61 ∧ Aside0 (lawOnce.j3 kq l0 x4_1 (wrap64 (x5_1 + 1)) x6_1 t365 (rd x4_1 t365) t368 x159_61 ((rd_T33 l0 x6_1).f0) ((rd_T33 l0 x6_1).f1) ((rd_T33 l0 x6_1).f2) ((rd_T33 l0 x6_1).f3) ((rd_T33 l0 x6_1).f4.f0) ((rd_T33 l0 x6_1).f4.f1) ((rd_T33 l0 x6_1).f4.f2) = some r) ∧ Aside0 (kq ≤ kj6) ∧ Aside0 (Kd.Q (Kd.int .i64) 3 wc w.heap.size (fun _ => True) (.slice (some ad366) x4_1.length co64) x4_1) ∧ Aside0 (Kd.S k88 88 wc w.heap.size (fun k_ => some k_ ≠ ((.slice Ao76 t374.length co76) : Value).ownBlock ∧ some k_ ≠ ((.slice Ao83 t382.length co83) : Value).ownBlock ∧ some k_ ≠ ((.slice Ao91 t390.length co91) : Value).ownBlock) (.slice Ao70 t368.length co70) t368) ∧ Aside0 (Kd.R k116 116 wc w.heap.size (fun k_ => some k_ ≠ ((.slice Ao83 t382.length co83) : Value).ownBlock ∧ some k_ ≠ ((.slice Ao91 t390.length co91) : Value).ownBlock) (.slice Ao76 t374.length co76) t374) ∧ Aside0 (Kd.R k116 116 wc w.heap.size (fun k_ => some k_ ≠ ((.slice Ao76 t374.length co76) : Value).ownBlock ∧ some k_ ≠ ((.slice Ao91 t390.length co91) : Value).ownBlock) (.slice Ao83 t382.length co83) t382) ∧ Aside0 (Kd.R k116 116 wc w.heap.size (fun k_ => some k_ ≠ ((.slice Ao76 t374.length co76) : Value).ownBlock ∧ some k_ ≠ ((.slice Ao83 t382.length co83) : Value).ownBlock) (.slice Ao91 t390.length co91) t390) ∧ Aside0 (wc.heap[gb339]? = some ((bx33 l0 x6_1 A338_6 c338_6))) ∧ Aside0 (wc.heap[gb367]? = some ((bx31 0 (wrap64 (x5_1 + 1)) none 0 0))) ∧ Aside0 (wc.heap[gb379]? = some ((bx31 t372 t373 Ao76 t374.length co76))) ∧ Aside0 (wc.heap[gb387]? = some ((bx31 t380 t381 Ao83 t382.length co83))) ∧ Aside0 (wc.heap[gb395]? = some ((bx31 t388 t389 Ao91 t390.length co91))) ∧ Aside0 (Below w.heap.size w wc))
              case first =>
               as_aux_lemma =>
                have H := HC62.out
                clear HC62
                replace H := Option.bind_eq_some_iff.mp H
                obtain ⟨t396, A920, H⟩ := H
                replace H : (if t396 = 0 then ((lecternlaw14_num.f t378).bind fun t397 => (if t397 = 0 then (if t377 = true then ((lecternref0_EqReply.f kj6 t372 t373 t374 0 (wrap64 (x5_1 + 1)) ([] : List (S116))).bind fun t398 => (if t398 = true then ((lecternlaw14_num.f t386).bind fun t399 => (if t399 = 10 then ((lecternlaw14_num.f t394).bind fun t400 => (if t400 = 0 then (lawOnce.j3 kj6 l0 x4_1 (wrap64 (x5_1 + 1)) x6_1 t365 (rd x4_1 t365) t368 t393 ((rd_T33 l0 x6_1).f0) ((rd_T33 l0 x6_1).f1) ((rd_T33 l0 x6_1).f2) ((rd_T33 l0 x6_1).f3) ((rd_T33 l0 x6_1).f4.f0) ((rd_T33 l0 x6_1).f4.f1) ((rd_T33 l0 x6_1).f4.f2)) else (none))) else (none))) else (none))) else (none)) else (none))) else (none)) = some r := H
                have A92 := Aside0.mk A920
                clear A920
                by_cases c93 : t396 = 0
                ·rw [if_pos c93] at H
                 have c93b0 : (t396 == 0) = true := beq_iff_eq.mpr c93
                 have c93b1 : (t396 != 0) = false := bne_eq_false_iff_eq.mpr c93
                 clear c93
                 (first | rw [c93b0] | (simp only [i64_w, i32_w]; rw [c93b0]) | skip)
                 replace H := Option.bind_eq_some_iff.mp H
                 obtain ⟨t397, A940, H⟩ := H
                 replace H : (if t397 = 0 then (if t377 = true then ((lecternref0_EqReply.f kj6 t372 t373 t374 0 (wrap64 (x5_1 + 1)) ([] : List (S116))).bind fun t398 => (if t398 = true then ((lecternlaw14_num.f t386).bind fun t399 => (if t399 = 10 then ((lecternlaw14_num.f t394).bind fun t400 => (if t400 = 0 then (lawOnce.j3 kj6 l0 x4_1 (wrap64 (x5_1 + 1)) x6_1 t365 (rd x4_1 t365) t368 t393 ((rd_T33 l0 x6_1).f0) ((rd_T33 l0 x6_1).f1) ((rd_T33 l0 x6_1).f2) ((rd_T33 l0 x6_1).f3) ((rd_T33 l0 x6_1).f4.f0) ((rd_T33 l0 x6_1).f4.f1) ((rd_T33 l0 x6_1).f4.f2)) else (none))) else (none))) else (none))) else (none)) else (none)) = some r := H
                 have A94 := Aside0.mk A940
                 clear A940
                 by_cases c95 : t397 = 0
                 ·rw [if_pos c95] at H
                  have c95b0 : (t397 == 0) = true := beq_iff_eq.mpr c95
                  have c95b1 : (t397 != 0) = false := bne_eq_false_iff_eq.mpr c95
                  clear c95
                  by_cases c96 : t377 = true
                  ·subst c96
                   have H1 : ((lecternref0_EqReply.f kj6 t372 t373 t374 0 (wrap64 (x5_1 + 1)) ([] : List (S116))).bind fun t398 => (if t398 = true then ((lecternlaw14_num.f t386).bind fun t399 => (if t399 = 10 then ((lecternlaw14_num.f t394).bind fun t400 => (if t400 = 0 then (lawOnce.j3 kj6 l0 x4_1 (wrap64 (x5_1 + 1)) x6_1 t365 (rd x4_1 t365) t368 t393 ((rd_T33 l0 x6_1).f0) ((rd_T33 l0 x6_1).f1) ((rd_T33 l0 x6_1).f2) ((rd_T33 l0 x6_1).f3) ((rd_T33 l0 x6_1).f4.f0) ((rd_T33 l0 x6_1).f4.f1) ((rd_T33 l0 x6_1).f4.f2)) else (none))) else (none))) else (none))) = some r := by rw [if_pos rfl] at H; exact H
                   clear H
                   have H := H1
                   clear H1
                   replace H := Option.bind_eq_some_iff.mp H
                   obtain ⟨t398, A970, H⟩ := H
                   replace H : (if t398 = true then ((lecternlaw14_num.f t386).bind fun t399 => (if t399 = 10 then ((lecternlaw14_num.f t394).bind fun t400 => (if t400 = 0 then (lawOnce.j3 kj6 l0 x4_1 (wrap64 (x5_1 + 1)) x6_1 t365 (rd x4_1 t365) t368 t393 ((rd_T33 l0 x6_1).f0) ((rd_T33 l0 x6_1).f1) ((rd_T33 l0 x6_1).f2) ((rd_T33 l0 x6_1).f3) ((rd_T33 l0 x6_1).f4.f0) ((rd_T33 l0 x6_1).f4.f1) ((rd_T33 l0 x6_1).f4.f2)) else (none))) else (none))) else (none)) = some r := H
                   have A97 := Aside0.mk A970
                   clear A970
                   by_cases c98 : t398 = true
                   ·subst c98
                    have H1 : ((lecternlaw14_num.f t386).bind fun t399 => (if t399 = 10 then ((lecternlaw14_num.f t394).bind fun t400 => (if t400 = 0 then (lawOnce.j3 kj6 l0 x4_1 (wrap64 (x5_1 + 1)) x6_1 t365 (rd x4_1 t365) t368 t393 ((rd_T33 l0 x6_1).f0) ((rd_T33 l0 x6_1).f1) ((rd_T33 l0 x6_1).f2) ((rd_T33 l0 x6_1).f3) ((rd_T33 l0 x6_1).f4.f0) ((rd_T33 l0 x6_1).f4.f1) ((rd_T33 l0 x6_1).f4.f2)) else (none))) else (none))) = some r := by rw [if_pos rfl] at H; exact H
                    clear H
                    have H := H1
                    clear H1
                    replace H := Option.bind_eq_some_iff.mp H
                    obtain ⟨t399, A990, H⟩ := H
                    replace H : (if t399 = 10 then ((lecternlaw14_num.f t394).bind fun t400 => (if t400 = 0 then (lawOnce.j3 kj6 l0 x4_1 (wrap64 (x5_1 + 1)) x6_1 t365 (rd x4_1 t365) t368 t393 ((rd_T33 l0 x6_1).f0) ((rd_T33 l0 x6_1).f1) ((rd_T33 l0 x6_1).f2) ((rd_T33 l0 x6_1).f3) ((rd_T33 l0 x6_1).f4.f0) ((rd_T33 l0 x6_1).f4.f1) ((rd_T33 l0 x6_1).f4.f2)) else (none))) else (none)) = some r := H
                    have A99 := Aside0.mk A990
                    clear A990
                    by_cases c100 : t399 = 10
                    ·rw [if_pos c100] at H
                     have c100b0 : (t399 == 10) = true := beq_iff_eq.mpr c100
                     have c100b1 : (t399 != 10) = false := bne_eq_false_iff_eq.mpr c100
                     clear c100
                     replace H := Option.bind_eq_some_iff.mp H
                     obtain ⟨t400, A1010, H⟩ := H
                     replace H : (if t400 = 0 then (lawOnce.j3 kj6 l0 x4_1 (wrap64 (x5_1 + 1)) x6_1 t365 (rd x4_1 t365) t368 t393 ((rd_T33 l0 x6_1).f0) ((rd_T33 l0 x6_1).f1) ((rd_T33 l0 x6_1).f2) ((rd_T33 l0 x6_1).f3) ((rd_T33 l0 x6_1).f4.f0) ((rd_T33 l0 x6_1).f4.f1) ((rd_T33 l0 x6_1).f4.f2)) else (none)) = some r := H
                     have A101 := Aside0.mk A1010
                     clear A1010
                     by_cases c102 : t400 = 0
                     ·rw [if_pos c102] at H
                      have c102b0 : (t400 == 0) = true := beq_iff_eq.mpr c102
                      have c102b1 : (t400 != 0) = false := bne_eq_false_iff_eq.mpr c102
                      clear c102
                      have H' := Aside0.mk H
                      clear H
                      go_wp2_with (first | ((with_reducible refine gate_callee (f := 17) rfl ?_); refine goesL_ (some 130) rfl rfl Try.func17 (by kernel_rfl) rfl #[.int .i64 t371] rfl (by (try simp only [List.map_toArray, List.map_cons, List.map_nil]); first | done | rfl | (simp only [List.length_drop, List.length_take]; rfl)) ?_; (with_reducible refine (lecternlaw14_num.calls t371 t396 _ A92.out).mono ?_); rintro e w' ⟨rfl, ⟨nd, rfl⟩⟩; refine ⟨_, rfl, ?_⟩) | (go_at_call 17; (with_reducible refine (lecternlaw14_num.calls t378 t397 _ A94.out).mono ?_); rintro e w' ⟨rfl, ⟨nd, rfl⟩⟩; have hnb103 := NB379_339.out; have hnc103 := NB339_379.out; have hnb104 := NB379_367.out; have hnc104 := NB367_379.out; have hnb105 := NB379_387.out; have hnc105 := NB387_379.out; have hnb106 := NB379_395.out; have hnc106 := NB395_379.out; have hcz107_0 : w85.cell? ⟨gb379, 0, none⟩ = some (.int .i64 t372) := (blk_cell BK379.out 0).trans rfl; have hcz107_1 : w85.cell? ⟨gb379, 1, none⟩ = some (.int .i64 t373) := (blk_cell BK379.out 1).trans rfl; have hcz107_2 : w85.cell? ⟨gb379, 2, none⟩ = some (.slice Ao76 t374.length co76) := (blk_cell BK379.out 2).trans rfl; have hfz107_0 := blk_frozen BK379.out 0; have hfz107_1 := blk_frozen BK379.out 1; have hfz107_2 := blk_frozen BK379.out 2; have hnb108 := NB367_339.out; have hnc108 := NB339_367.out; have hnb109 := NB367_387.out; have hnc109 := NB387_367.out; have hnb110 := NB367_395.out; have hnc110 := NB395_367.out; have hcz111_0 : w85.cell? ⟨gb367, 0, none⟩ = some (.int .i64 0) := (blk_cell BK367.out 0).trans rfl; have hcz111_1 : w85.cell? ⟨gb367, 1, none⟩ = some (.int .i64 (wrap64 (x5_1 + 1))) := (blk_cell BK367.out 1).trans rfl; have hcz111_2 : w85.cell? ⟨gb367, 2, none⟩ = some (.slice none 0 0) := (blk_cell BK367.out 2).trans rfl; have hfz111_0 := blk_frozen BK367.out 0; have hfz111_1 := blk_frozen BK367.out 1; have hfz111_2 := blk_frozen BK367.out 2) | (go_at_call 18; (refine (lecternref0_EqReply.calls kj6 t372 t373 _ _ t374 0 (wrap64 (x5_1 + 1)) _ _ ([] : List (S116)) true _ ?side1 ?side2 ?side3 ?side4 A97.out).mono ?_); (case side1 => refine (Kd.R_reads' (e := 116) (base := w.heap.size) (ok := fun k_ => ((True ∧ some k_ ≠ (.slice Ao83 t382.length co83 : Value).ownBlock) ∧ some k_ ≠ (.slice Ao91 t390.length co91 : Value).ownBlock)) (n := t374.length) (c := co76) ?_).2.2; exact (by (with_reducible repeat (first | apply Kd.R_alloc | apply Kd.R_drewN | apply Kd.R_drew)); exact (Kd.R_mono (Kd.R_far (p := ⟨gb395, 2, none⟩) (Kd.R_far (p := ⟨gb395, 1, none⟩) (Kd.R_far (p := ⟨gb395, 0, none⟩) (Kd.R_types HO376.out BK395.out (by decide)) (fun _ hk => hk.2) (.int .i64 t388)) (fun _ hk => hk.2) (.int .i64 t389)) (fun _ hk => hk.2) (.slice Ao91 t390.length co91)) (fun _ h_ => h_.1)))); (case side2 => exact (Kd.R_reads' HO376.out).2.1); (case side3 => exact Kd.C_nil _ _); (case side4 => exact Nat.le_refl _); rintro e w112 ⟨rfl, hb⟩; have n0_ := Aside0.mk (Kd.S_below (by (with_reducible repeat (first | apply Kd.S_alloc | apply Kd.S_drewN | apply Kd.S_drew)); exact (Kd.S_mono (Kd.S_far (p := ⟨gb395, 2, none⟩) (Kd.S_far (p := ⟨gb395, 1, none⟩) (Kd.S_far (p := ⟨gb395, 0, none⟩) (Kd.S_types HO_3.out BK395.out (by decide)) (fun _ hk => hk.2) (.int .i64 t388)) (fun _ hk => hk.2) (.int .i64 t389)) (fun _ hk => hk.2) (.slice Ao91 t390.length co91)) (fun _ h_ => h_.1))) hb); have n1_ := Aside0.mk (Kd.Q_below (by (with_reducible repeat (first | apply Kd.Q_alloc | apply Kd.Q_drewN | apply Kd.Q_drew)); exact (Kd.Q_mono (Kd.Q_far (p := ⟨gb395, 2, none⟩) (Kd.Q_far (p := ⟨gb395, 1, none⟩) (Kd.Q_far (p := ⟨gb395, 0, none⟩) (Kd.Q_types HO_4.out BK395.out (by decide)) (fun _ hk => hk.2) (.int .i64 t388)) (fun _ hk => hk.2) (.int .i64 t389)) (fun _ hk => hk.2) (.slice Ao91 t390.length co91)) (fun _ h_ => h_.1))) hb); have n2_ := Aside0.mk (Kd.S_below (by (with_reducible repeat (first | apply Kd.S_alloc | apply Kd.S_drewN | apply Kd.S_drew)); exact (Kd.S_mono (Kd.S_far (p := ⟨gb395, 2, none⟩) (Kd.S_far (p := ⟨gb395, 1, none⟩) (Kd.S_far (p := ⟨gb395, 0, none⟩) (Kd.S_types HO370.out BK395.out (by decide)) (fun _ hk => hk.2) (.int .i64 t388)) (fun _ hk => hk.2) (.int .i64 t389)) (fun _ hk => hk.2) (.slice Ao91 t390.length co91)) (fun _ h_ => h_.1))) hb); have n3_ := Aside0.mk (Kd.R_below (by (with_reducible repeat (first | apply Kd.R_alloc | apply Kd.R_drewN | apply Kd.R_drew)); exact (Kd.R_mono (Kd.R_far (p := ⟨gb395, 2, none⟩) (Kd.R_far (p := ⟨gb395, 1, none⟩) (Kd.R_far (p := ⟨gb395, 0, none⟩) (Kd.R_types HO376.out BK395.out (by decide)) (fun _ hk => hk.2) (.int .i64 t388)) (fun _ hk => hk.2) (.int .i64 t389)) (fun _ hk => hk.2) (.slice Ao91 t390.length co91)) (fun _ h_ => h_.1))) hb); have n4_ := Aside0.mk (Kd.R_below (by (with_reducible repeat (first | apply Kd.R_alloc | apply Kd.R_drewN | apply Kd.R_drew)); exact (Kd.R_mono (Kd.R_far (p := ⟨gb395, 2, none⟩) (Kd.R_far (p := ⟨gb395, 1, none⟩) (Kd.R_far (p := ⟨gb395, 0, none⟩) (Kd.R_types HO384.out BK395.out (by decide)) (fun _ hk => hk.2) (.int .i64 t388)) (fun _ hk => hk.2) (.int .i64 t389)) (fun _ hk => hk.2) (.slice Ao91 t390.length co91)) (fun _ h_ => h_.1))) hb); have n5_ := Aside0.mk (Kd.R_below (by (with_reducible repeat (first | apply Kd.R_alloc | apply Kd.R_drewN | apply Kd.R_drew)); exact (Kd.R_mono (Kd.R_far (p := ⟨gb395, 2, none⟩) (Kd.R_far (p := ⟨gb395, 1, none⟩) (Kd.R_far (p := ⟨gb395, 0, none⟩) (Kd.R_types HO392.out BK395.out (by decide)) (fun _ hk => hk.2) (.int .i64 t388)) (fun _ hk => hk.2) (.int .i64 t389)) (fun _ hk => hk.2) (.slice Ao91 t390.length co91)) (fun _ h_ => h_.1))) hb); have n6_ := Aside0.mk (blk_below (g := gb339) (o := (bx33 l0 x6_1 A338_6 c338_6)) (by (with_reducible repeat (first | refine blk_drewN ?_ _ | refine blk_drew ?_ | refine blk_alloc ?_ _)); refine blk_far ?_ NB339_395.out _; (with_reducible repeat (first | refine blk_drewN ?_ _ | refine blk_drew ?_ | refine blk_alloc ?_ _)); refine blk_far ?_ NB339_395.out _; (with_reducible repeat (first | refine blk_drewN ?_ _ | refine blk_drew ?_ | refine blk_alloc ?_ _)); refine blk_far ?_ NB339_395.out _; (with_reducible repeat (first | refine blk_drewN ?_ _ | refine blk_drew ?_ | refine blk_alloc ?_ _)); exact BK339.out) hb); have n7_ := Aside0.mk (blk_below (g := gb367) (o := (bx31 0 (wrap64 (x5_1 + 1)) none 0 0)) (by (with_reducible repeat (first | refine blk_drewN ?_ _ | refine blk_drew ?_ | refine blk_alloc ?_ _)); refine blk_far ?_ NB367_395.out _; (with_reducible repeat (first | refine blk_drewN ?_ _ | refine blk_drew ?_ | refine blk_alloc ?_ _)); refine blk_far ?_ NB367_395.out _; (with_reducible repeat (first | refine blk_drewN ?_ _ | refine blk_drew ?_ | refine blk_alloc ?_ _)); refine blk_far ?_ NB367_395.out _; (with_reducible repeat (first | refine blk_drewN ?_ _ | refine blk_drew ?_ | refine blk_alloc ?_ _)); exact BK367.out) hb); have n8_ := Aside0.mk (blk_below (g := gb379) (o := (bx31 t372 t373 Ao76 t374.length co76)) (by (with_reducible repeat (first | refine blk_drewN ?_ _ | refine blk_drew ?_ | refine blk_alloc ?_ _)); refine blk_far ?_ NB379_395.out _; (with_reducible repeat (first | refine blk_drewN ?_ _ | refine blk_drew ?_ | refine blk_alloc ?_ _)); refine blk_far ?_ NB379_395.out _; (with_reducible repeat (first | refine blk_drewN ?_ _ | refine blk_drew ?_ | refine blk_alloc ?_ _)); refine blk_far ?_ NB379_395.out _; (with_reducible repeat (first | refine blk_drewN ?_ _ | refine blk_drew ?_ | refine blk_alloc ?_ _)); exact BK379.out) hb); have n9_ := Aside0.mk (blk_below (g := gb387) (o := (bx31 t380 t381 Ao83 t382.length co83)) (by (with_reducible repeat (first | refine blk_drewN ?_ _ | refine blk_drew ?_ | refine blk_alloc ?_ _)); refine blk_far ?_ NB387_395.out _; (with_reducible repeat (first | refine blk_drewN ?_ _ | refine blk_drew ?_ | refine blk_alloc ?_ _)); refine blk_far ?_ NB387_395.out _; (with_reducible repeat (first | refine blk_drewN ?_ _ | refine blk_drew ?_ | refine blk_alloc ?_ _)); refine blk_far ?_ NB387_395.out _; (with_reducible repeat (first | refine blk_drewN ?_ _ | refine blk_drew ?_ | refine blk_alloc ?_ _)); exact BK387.out) hb); have n10_ := Aside0.mk (blk_below (g := gb395) (o := (bx31 t388 t389 Ao91 t390.length co91)) (by (with_reducible repeat (first | refine blk_drewN ?_ _ | refine blk_drew ?_ | refine blk_alloc ?_ _)); refine blk_put (cs := #[.int .i64 t388, .int .i64 t389, .slice none 0 0]) ?_ 2 _ rfl; (with_reducible repeat (first | refine blk_drewN ?_ _ | refine blk_drew ?_ | refine blk_alloc ?_ _)); refine blk_put (cs := #[.int .i64 t388, .int .i64 0, .slice none 0 0]) ?_ 1 _ rfl; (with_reducible repeat (first | refine blk_drewN ?_ _ | refine blk_drew ?_ | refine blk_alloc ?_ _)); refine blk_put (cs := #[.int .i64 0, .int .i64 0, .slice none 0 0]) ?_ 0 _ rfl; (with_reducible repeat (first | refine blk_drewN ?_ _ | refine blk_drew ?_ | refine blk_alloc ?_ _)); exact BK395.out) hb); have n11_ := Aside0.mk (below_step (by repeat (first | (with_reducible first | exact HB.out | apply below_alloc | apply pw_below_drewN | apply below_drew1 | refine below_set ?_ GE339.out | refine below_set ?_ GE367.out | refine below_set ?_ GE379.out | refine below_set ?_ GE387.out | refine below_set ?_ GE395.out) | exact HB.out)) hb); clear HO_3; clear HO_4; clear HO370; clear HO376; clear HO384; clear HO392; clear BK339; clear BK367; clear BK379; clear BK387; clear BK395; clear HB; have HO_3 := n0_; have HO_4 := n1_; have HO370 := n2_; have HO376 := n3_; have HO384 := n4_; have HO392 := n5_; have BK339 := n6_; have BK367 := n7_; have BK379 := n8_; have BK387 := n9_; have BK395 := n10_; have HB := n11_; clear n0_ n1_ n2_ n3_ n4_ n5_ n6_ n7_ n8_ n9_ n10_ n11_; (try clear hb); (try clear hb2); (try clear hk); (try clear hi)) | (go_at_call 17; (with_reducible refine (lecternlaw14_num.calls t386 t399 _ A99.out).mono ?_); rintro e w' ⟨rfl, ⟨nd, rfl⟩⟩) | (go_at_call 17; (with_reducible refine (lecternlaw14_num.calls t394 t400 _ A101.out).mono ?_); rintro e w' ⟨rfl, ⟨nd, rfl⟩⟩))
                      go_meet
                      case rel => exact ⟨_, (t393), (by first | rfl | (simp; done) | (simp [*]; done)), H', ⟨by have := HK1.out; have := HJ1.out; have := HJ6.out; first | omega | exact Nat.le_refl _⟩, ⟨by (with_reducible repeat (first | apply Kd.Q_alloc | apply Kd.Q_drewN | apply Kd.Q_drew)); exact HO_4.out⟩, ⟨by (with_reducible repeat (first | apply Kd.S_alloc | apply Kd.S_drewN | apply Kd.S_drew)); exact Kd.S_mono HO370.out (fun _ hk => by first | exact ⟨hk.1.1.2, ⟨hk.1.2, hk.2⟩⟩ | exact ⟨hk.1.1, ⟨hk.1.2, hk.2⟩⟩)⟩, ⟨by (with_reducible repeat (first | apply Kd.R_alloc | apply Kd.R_drewN | apply Kd.R_drew)); exact Kd.R_mono HO376.out (fun _ hk => ⟨hk.1.2, hk.2⟩)⟩, ⟨by (with_reducible repeat (first | apply Kd.R_alloc | apply Kd.R_drewN | apply Kd.R_drew)); exact Kd.R_mono HO384.out (fun _ hk => ⟨hk.1.2, hk.2⟩)⟩, ⟨by (with_reducible repeat (first | apply Kd.R_alloc | apply Kd.R_drewN | apply Kd.R_drew)); exact Kd.R_mono HO392.out (fun _ hk => ⟨hk.1.2, hk.2⟩)⟩, ⟨by (with_reducible repeat (first | refine blk_drewN ?_ _ | refine blk_drew ?_ | refine blk_alloc ?_ _)); exact BK339.out⟩, ⟨by (with_reducible repeat (first | refine blk_drewN ?_ _ | refine blk_drew ?_ | refine blk_alloc ?_ _)); exact BK367.out⟩, ⟨by (with_reducible repeat (first | refine blk_drewN ?_ _ | refine blk_drew ?_ | refine blk_alloc ?_ _)); exact BK379.out⟩, ⟨by (with_reducible repeat (first | refine blk_drewN ?_ _ | refine blk_drew ?_ | refine blk_alloc ?_ _)); exact BK387.out⟩, ⟨by (with_reducible repeat (first | refine blk_drewN ?_ _ | refine blk_drew ?_ | refine blk_alloc ?_ _)); exact BK395.out⟩, ⟨by repeat (first | (with_reducible first | exact HB.out | apply below_alloc | apply pw_below_drewN | apply below_drew1 | refine below_set ?_ GE339.out | refine below_set ?_ GE367.out | refine below_set ?_ GE379.out | refine below_set ?_ GE387.out | refine below_set ?_ GE395.out) | exact HB.out)⟩⟩
                     ·rw [if_neg c102] at H
                      exact absurd H (by simp)
                    ·rw [if_neg c100] at H
                     exact absurd H (by simp)
                   ·rw [if_neg c98] at H
                    exact absurd H (by simp)
                  ·rw [if_neg c96] at H
                   exact absurd H (by simp)
                 ·rw [if_neg c95] at H
                  exact absurd H (by simp)
                ·rw [if_neg c93] at H
                 exact absurd H (by simp)
              case rest =>
               as_aux_lemma =>
                clear HC62
                try clear c1
                try clear c2
                try clear p2
                try clear c3
                try clear c3b0
                try clear p3
                try clear q3
                try clear hx3
                try clear qi3
                try clear c4
                try clear c5
                try clear c5b0
                try clear c6
                try clear c6b0
                try clear p6
                try clear c7
                try clear c8
                try clear c9
                try clear c10
                try clear c11
                try clear c11b0
                try clear c11b1
                try clear c12
                try clear c13
                try clear c14
                try clear c15
                try clear c16
                try clear c17
                try clear c19
                try clear c19b0
                try clear c19b1
                try clear c20
                try clear c20b0
                try clear c20b1
                try clear c21
                try clear c21b0
                try clear c21b1
                try clear c22
                try clear c23
                try clear c24
                try clear c24b0
                try clear c24b1
                try clear c25
                try clear c25b0
                try clear c25b1
                try clear c26
                try clear c33
                try clear p33
                try clear q33
                try clear hx33
                try clear p34
                try clear q34
                try clear hx34
                try clear qi34
                try clear p36
                try clear q36
                try clear hx36
                try clear c37
                try clear q37
                try clear c45
                try clear c48
                try clear c56
                try clear c56b0
                try clear c57
                try clear c57b0
                try clear p64
                try clear c66
                try clear c73
                try clear c74
                try clear c79
                try clear c80
                try clear c81
                try clear c86
                try clear c87
                try clear c88
                try clear c89
                try clear c93
                try clear c93b0
                try clear c93b1
                try clear c95
                try clear c95b0
                try clear c95b1
                try clear c96
                try clear c98
                try clear c100
                try clear c100b0
                try clear c100b1
                try clear c102
                try clear c102b0
                try clear c102b1
                try clear c103
                try clear c104
                try clear c105
                try clear c106
                try clear c108
                try clear c109
                try clear c110
                try clear c113
                try clear c114
                try clear c115
                try clear c116
                try clear c118
                try clear c119
                try clear c120
                try clear c123
                try clear c124
                try clear c125
                try clear c126
                try clear c128
                try clear c129
                try clear c130
                try clear c133
                try clear c134
                try clear c135
                try clear c136
                try clear c138
                try clear c139
                try clear c140
                try clear hcz107_0
                try clear hcz107_1
                try clear hcz107_2
                try clear hcz111_0
                try clear hcz111_1
                try clear hcz111_2
                try clear hcz117_0
                try clear hcz117_1
                try clear hcz117_2
                try clear hcz121_0
                try clear hcz121_1
                try clear hcz121_2
                try clear hcz127_0
                try clear hcz127_1
                try clear hcz127_2
                try clear hcz12_0
                try clear hcz12_1
                try clear hcz12_2
                try clear hcz12_3
                try clear hcz12_4
                try clear hcz12_5
                try clear hcz12_6
                try clear hcz131_0
                try clear hcz131_1
                try clear hcz131_2
                try clear hcz137_0
                try clear hcz137_1
                try clear hcz137_2
                try clear hcz13_0
                try clear hcz13_1
                try clear hcz13_2
                try clear hcz13_3
                try clear hcz13_4
                try clear hcz13_5
                try clear hcz13_6
                try clear hcz141_0
                try clear hcz141_1
                try clear hcz141_2
                try clear hcz34_0
                try clear hcz34_1
                try clear hcz34_2
                try clear hcz46_0
                try clear hcz46_1
                try clear hcz46_2
                try clear hcz63_0
                try clear hcz63_1
                try clear hcz63_2
                try clear hcz63_3
                try clear hcz63_4
                try clear hcz63_5
                try clear hcz63_6
                try clear hcz67_0
                try clear hcz67_1
                try clear hcz67_2
                try clear hcz75_0
                try clear hcz75_1
                try clear hcz75_2
                try clear hcz82_0
                try clear hcz82_1
                try clear hcz82_2
                try clear hcz90_0
                try clear hcz90_1
                try clear hcz90_2
                try clear hcz9_0
                try clear hcz9_1
                try clear hcz9_2
                try clear hcz9_3
                try clear hcz9_4
                try clear hcz9_5
                try clear hcz9_6
                try clear hfz107_0
                try clear hfz107_1
                try clear hfz107_2
                try clear hfz111_0
                try clear hfz111_1
                try clear hfz111_2
                try clear hfz117_0
                try clear hfz117_1
                try clear hfz117_2
                try clear hfz121_0
                try clear hfz121_1
                try clear hfz121_2
                try clear hfz127_0
                try clear hfz127_1
                try clear hfz127_2
                try clear hfz12_0
                try clear hfz12_1
                try clear hfz12_2
                try clear hfz12_3
                try clear hfz12_4
                try clear hfz12_5
                try clear hfz12_6
                try clear hfz131_0
                try clear hfz131_1
                try clear hfz131_2
                try clear hfz137_0
                try clear hfz137_1
                try clear hfz137_2
                try clear hfz13_0
                try clear hfz13_1
                try clear hfz13_2
                try clear hfz13_3
                try clear hfz13_4
                try clear hfz13_5
                try clear hfz13_6
                try clear hfz141_0
                try clear hfz141_1
                try clear hfz141_2
                try clear hfz34_0
                try clear hfz34_1
                try clear hfz34_2
                try clear hfz46_0
                try clear hfz46_1
                try clear hfz46_2
                try clear hfz63_0
                try clear hfz63_1
                try clear hfz63_2
                try clear hfz63_3
                try clear hfz63_4
                try clear hfz63_5
                try clear hfz63_6
                try clear hfz67_0
                try clear hfz67_1
                try clear hfz67_2
                try clear hfz75_0
                try clear hfz75_1
                try clear hfz75_2
                try clear hfz82_0
                try clear hfz82_1
                try clear hfz82_2
                try clear hfz90_0
                try clear hfz90_1
                try clear hfz90_2
                try clear hfz9_0
                try clear hfz9_1
                try clear hfz9_2
                try clear hfz9_3
                try clear hfz9_4
                try clear hfz9_5
                try clear hfz9_6
                try clear hx338_0
                try clear hx338_1
                try clear hx338_2
                try clear hx338_3
                try clear hx338_4
                try clear hx338_5
                try clear hx338_6
                try clear hx346_0
                try clear hx366_0
                try clear p2
                try clear p3
                try clear p338
                try clear p346
                try clear p366
                try clear p6
                try clear q3
                try clear q338
                try clear q346
                try clear q366
                try clear q37
                obtain ⟨kq, x159_61, rfl, HA, HJ61, HO_4, HO_16, HO_380002, HO_388002, HO_396002, BK339, BK367, BK379, BK387, BK395, HB⟩ := hcut
                cases kq with
                | zero => exact absurd HA.out (by simp [lawOnce.j3])
                | succ kj61 =>
                 have H := HA.out
                 clear HA
                 simp only [lawOnce.j3] at H
                 by_cases c143 : x159_61 = true
                 ·rw [if_pos c143] at H
                  exact absurd H (by simp)
                 ·replace c143 := Bool.eq_false_iff.mpr c143
                  subst c143
                  have H1 : (if 0 ≤ t365 then (if t365 ≤ (x4_1.length : Int) then ((lecternref0_CopyNumbers.f kj61 (x4_1.take (t365 : Int).toNat)).bind fun t405 => (if 0 ≤ (wrap64 (t365 + 1)) then (if (wrap64 (t365 + 1)) ≤ (x4_1.length : Int) then ((some (x4_1.drop ((wrap64 (t365 + 1)) : Int).toNat : List Int)).bind fun y408 => (if t405.length + y408.length < 17592186044416 then ((some (t405 ++ y408 : List Int)).bind fun y412 => ((some (([(rd x4_1 t365)] : List Int) : List Int)).bind fun y415 => (if y412.length + y415.length < 17592186044416 then ((some (y412 ++ y415 : List Int)).bind fun y418 => ((lecternlaw0_Within.f ((rd_T33 l0 x6_1).f2) 5).bind fun t421 => (if t421 = 0 then ((session_Close.f kj61 t368 (rd x4_1 t365)).bind fun bt422 => ((session_Begin.f kj61 bt422.1 (rd x4_1 t365) (wrap64 ((wrap64 (x5_1 + 1)) + 1))).bind fun bt426 => ((lecternlaw14_num.f bt422.2).bind fun t433 => (if t433 = 0 then ((lecternlaw14_num.f bt426.2.2.2.2).bind fun t434 => (lawOnce.j4 kj61 l0 y418 (wrap64 (x5_1 + 1)) x6_1 bt422.1 (t434 != 9))) else (none))))) else (lawOnce.j5 kj61 l0 t368 y418 (wrap64 (x5_1 + 1)) x6_1)))) else (none)))) else (none))) else (none)) else (none))) else (none)) else (none)) = some r := by rw [if_neg (show ¬ (false = true) by decide)] at H; exact H
                  clear H
                  have H := H1
                  clear H1
                  by_cases c144 : 0 ≤ t365
                  ·rw [if_pos c144] at H
                   have c144b0 := eq_true c144
                   have c144b1 : decide (0 ≤ t365) = true := decide_eq_true c144
                   clear c144
                   by_cases c145 : t365 ≤ (x4_1.length : Int)
                   ·rw [if_pos c145] at H
                    have c145b0 := eq_true c145
                    have c145b1 : decide (t365 ≤ (x4_1.length : Int)) = true := decide_eq_true c145
                    clear c145
                    obtain ⟨y401, hy401⟩ : ∃ y_ : List Int, y_ = (x4_1.take (t365 : Int).toNat) := ⟨_, rfl⟩
                    replace H : ((lecternref0_CopyNumbers.f kj61 y401).bind fun t405 => (if 0 ≤ (wrap64 (t365 + 1)) then (if (wrap64 (t365 + 1)) ≤ (x4_1.length : Int) then ((some (x4_1.drop ((wrap64 (t365 + 1)) : Int).toNat : List Int)).bind fun y408 => (if t405.length + y408.length < 17592186044416 then ((some (t405 ++ y408 : List Int)).bind fun y412 => ((some (([(rd x4_1 t365)] : List Int) : List Int)).bind fun y415 => (if y412.length + y415.length < 17592186044416 then ((some (y412 ++ y415 : List Int)).bind fun y418 => ((lecternlaw0_Within.f ((rd_T33 l0 x6_1).f2) 5).bind fun t421 => (if t421 = 0 then ((session_Close.f kj61 t368 (rd x4_1 t365)).bind fun bt422 => ((session_Begin.f kj61 bt422.1 (rd x4_1 t365) (wrap64 ((wrap64 (x5_1 + 1)) + 1))).bind fun bt426 => ((lecternlaw14_num.f bt422.2).bind fun t433 => (if t433 = 0 then ((lecternlaw14_num.f bt426.2.2.2.2).bind fun t434 => (lawOnce.j4 kj61 l0 y418 (wrap64 (x5_1 + 1)) x6_1 bt422.1 (t434 != 9))) else (none))))) else (lawOnce.j5 kj61 l0 t368 y418 (wrap64 (x5_1 + 1)) x6_1)))) else (none)))) else (none))) else (none)) else (none))) = some r := by first | (rw [hy401]; with_reducible exact H) | (have H2_ := (Option.bind_some _ _).symm.trans H; rw [hy401]; with_reducible exact H2_) | (have H2_ := (Option.bind_some _ _).symm.trans H; with_reducible exact H2_) | with_reducible exact H | (rw [hy401]; exact H) | exact H
                    have Ny401 := Aside0.mk hy401
                    clear hy401
                    replace H := Option.bind_eq_some_iff.mp H
                    obtain ⟨t405, A1460, H⟩ := H
                    replace H : (if 0 ≤ (wrap64 (t365 + 1)) then (if (wrap64 (t365 + 1)) ≤ (x4_1.length : Int) then ((some (x4_1.drop ((wrap64 (t365 + 1)) : Int).toNat : List Int)).bind fun y408 => (if t405.length + y408.length < 17592186044416 then ((some (t405 ++ y408 : List Int)).bind fun y412 => ((some (([(rd x4_1 t365)] : List Int) : List Int)).bind fun y415 => (if y412.length + y415.length < 17592186044416 then ((some (y412 ++ y415 : List Int)).bind fun y418 => ((lecternlaw0_Within.f ((rd_T33 l0 x6_1).f2) 5).bind fun t421 => (if t421 = 0 then ((session_Close.f kj61 t368 (rd x4_1 t365)).bind fun bt422 => ((session_Begin.f kj61 bt422.1 (rd x4_1 t365) (wrap64 ((wrap64 (x5_1 + 1)) + 1))).bind fun bt426 => ((lecternlaw14_num.f bt422.2).bind fun t433 => (if t433 = 0 then ((lecternlaw14_num.f bt426.2.2.2.2).bind fun t434 => (lawOnce.j4 kj61 l0 y418 (wrap64 (x5_1 + 1)) x6_1 bt422.1 (t434 != 9))) else (none))))) else (lawOnce.j5 kj61 l0 t368 y418 (wrap64 (x5_1 + 1)) x6_1)))) else (none)))) else (none))) else (none)) else (none)) = some r := H
                    have A146 := Aside0.mk A1460
                    clear A1460
                    obtain ⟨ji147, hji147⟩ : ∃ j_ : Int, (wrap64 (t365 + 1)) = j_ := ⟨_, rfl⟩
                    replace H : (if 0 ≤ (ji147) then (if (ji147) ≤ (x4_1.length : Int) then ((some (x4_1.drop ((ji147) : Int).toNat : List Int)).bind fun y408 => (if t405.length + y408.length < 17592186044416 then ((some (t405 ++ y408 : List Int)).bind fun y412 => ((some (([(rd x4_1 t365)] : List Int) : List Int)).bind fun y415 => (if y412.length + y415.length < 17592186044416 then ((some (y412 ++ y415 : List Int)).bind fun y418 => ((lecternlaw0_Within.f ((rd_T33 l0 x6_1).f2) 5).bind fun t421 => (if t421 = 0 then ((session_Close.f kj61 t368 (rd x4_1 t365)).bind fun bt422 => ((session_Begin.f kj61 bt422.1 (rd x4_1 t365) (wrap64 ((wrap64 (x5_1 + 1)) + 1))).bind fun bt426 => ((lecternlaw14_num.f bt422.2).bind fun t433 => (if t433 = 0 then ((lecternlaw14_num.f bt426.2.2.2.2).bind fun t434 => (lawOnce.j4 kj61 l0 y418 (wrap64 (x5_1 + 1)) x6_1 bt422.1 (t434 != 9))) else (none))))) else (lawOnce.j5 kj61 l0 t368 y418 (wrap64 (x5_1 + 1)) x6_1)))) else (none)))) else (none))) else (none)) else (none)) = some r := by first | (rw [hji147] at H; exact H) | (simp only [hji147] at H ⊢; exact H)
                    (try rw [hji147] at A146)
                    have hji147w : (IntKind.i64.wrap (t365 + 1)) = ji147 := (i64_w _).trans hji147
                    by_cases c148 : 0 ≤ (ji147)
                    ·rw [if_pos c148] at H
                     have c148b0 := eq_true c148
                     have c148b1 : decide (0 ≤ (ji147)) = true := decide_eq_true c148
                     clear c148
                     by_cases c149 : (ji147) ≤ (x4_1.length : Int)
                     ·rw [if_pos c149] at H
                      have c149b0 := eq_true c149
                      have c149b1 : decide ((ji147) ≤ (x4_1.length : Int)) = true := decide_eq_true c149
                      clear c149
                      obtain ⟨y408, hy408⟩ : ∃ y_ : List Int, y_ = (x4_1.drop ((ji147) : Int).toNat) := ⟨_, rfl⟩
                      replace H : (if t405.length + y408.length < 17592186044416 then ((some (t405 ++ y408 : List Int)).bind fun y412 => ((some (([(rd x4_1 t365)] : List Int) : List Int)).bind fun y415 => (if y412.length + y415.length < 17592186044416 then ((some (y412 ++ y415 : List Int)).bind fun y418 => ((lecternlaw0_Within.f ((rd_T33 l0 x6_1).f2) 5).bind fun t421 => (if t421 = 0 then ((session_Close.f kj61 t368 (rd x4_1 t365)).bind fun bt422 => ((session_Begin.f kj61 bt422.1 (rd x4_1 t365) (wrap64 ((wrap64 (x5_1 + 1)) + 1))).bind fun bt426 => ((lecternlaw14_num.f bt422.2).bind fun t433 => (if t433 = 0 then ((lecternlaw14_num.f bt426.2.2.2.2).bind fun t434 => (lawOnce.j4 kj61 l0 y418 (wrap64 (x5_1 + 1)) x6_1 bt422.1 (t434 != 9))) else (none))))) else (lawOnce.j5 kj61 l0 t368 y418 (wrap64 (x5_1 + 1)) x6_1)))) else (none)))) else (none)) = some r := by first | (rw [hy408]; with_reducible exact H) | (have H2_ := (Option.bind_some _ _).symm.trans H; rw [hy408]; with_reducible exact H2_) | (have H2_ := (Option.bind_some _ _).symm.trans H; with_reducible exact H2_) | with_reducible exact H | (rw [hy408]; exact H) | exact H
                      have Ny408 := Aside0.mk hy408
                      clear hy408
                      by_cases c150 : t405.length + y408.length < 17592186044416
                      ·rw [if_pos c150] at H
                       have LMc150 := Aside0.mk c150
                       clear c150
                       obtain ⟨y412, hy412⟩ : ∃ y_ : List Int, y_ = (t405 ++ y408) := ⟨_, rfl⟩
                       replace H : ((some (([(rd x4_1 t365)] : List Int) : List Int)).bind fun y415 => (if y412.length + y415.length < 17592186044416 then ((some (y412 ++ y415 : List Int)).bind fun y418 => ((lecternlaw0_Within.f ((rd_T33 l0 x6_1).f2) 5).bind fun t421 => (if t421 = 0 then ((session_Close.f kj61 t368 (rd x4_1 t365)).bind fun bt422 => ((session_Begin.f kj61 bt422.1 (rd x4_1 t365) (wrap64 ((wrap64 (x5_1 + 1)) + 1))).bind fun bt426 => ((lecternlaw14_num.f bt422.2).bind fun t433 => (if t433 = 0 then ((lecternlaw14_num.f bt426.2.2.2.2).bind fun t434 => (lawOnce.j4 kj61 l0 y418 (wrap64 (x5_1 + 1)) x6_1 bt422.1 (t434 != 9))) else (none))))) else (lawOnce.j5 kj61 l0 t368 y418 (wrap64 (x5_1 + 1)) x6_1)))) else (none))) = some r := by first | (rw [hy412]; with_reducible exact H) | (have H2_ := (Option.bind_some _ _).symm.trans H; rw [hy412]; with_reducible exact H2_) | (have H2_ := (Option.bind_some _ _).symm.trans H; with_reducible exact H2_) | with_reducible exact H | (rw [hy412]; exact H) | exact H
                       have Ny412 := Aside0.mk hy412
                       clear hy412
                       obtain ⟨y415, hy415⟩ : ∃ y_ : List Int, y_ = (([(rd x4_1 t365)] : List Int)) := ⟨_, rfl⟩
                       replace H : (if y412.length + y415.length < 17592186044416 then ((some (y412 ++ y415 : List Int)).bind fun y418 => ((lecternlaw0_Within.f ((rd_T33 l0 x6_1).f2) 5).bind fun t421 => (if t421 = 0 then ((session_Close.f kj61 t368 (rd x4_1 t365)).bind fun bt422 => ((session_Begin.f kj61 bt422.1 (rd x4_1 t365) (wrap64 ((wrap64 (x5_1 + 1)) + 1))).bind fun bt426 => ((lecternlaw14_num.f bt422.2).bind fun t433 => (if t433 = 0 then ((lecternlaw14_num.f bt426.2.2.2.2).bind fun t434 => (lawOnce.j4 kj61 l0 y418 (wrap64 (x5_1 + 1)) x6_1 bt422.1 (t434 != 9))) else (none))))) else (lawOnce.j5 kj61 l0 t368 y418 (wrap64 (x5_1 + 1)) x6_1)))) else (none)) = some r := by first | (rw [hy415]; with_reducible exact H) | (have H2_ := (Option.bind_some _ _).symm.trans H; rw [hy415]; with_reducible exact H2_) | (have H2_ := (Option.bind_some _ _).symm.trans H; with_reducible exact H2_) | with_reducible exact H | (rw [hy415]; exact H) | exact H
                       have Ny415 := Aside0.mk hy415
                       clear hy415
                       by_cases c151 : y412.length + y415.length < 17592186044416
                       ·rw [if_pos c151] at H
                        have LMc151 := Aside0.mk c151
                        clear c151
                        obtain ⟨y418, hy418⟩ : ∃ y_ : List Int, y_ = (y412 ++ y415) := ⟨_, rfl⟩
                        replace H : ((lecternlaw0_Within.f ((rd_T33 l0 x6_1).f2) 5).bind fun t421 => (if t421 = 0 then ((session_Close.f kj61 t368 (rd x4_1 t365)).bind fun bt422 => ((session_Begin.f kj61 bt422.1 (rd x4_1 t365) (wrap64 ((wrap64 (x5_1 + 1)) + 1))).bind fun bt426 => ((lecternlaw14_num.f bt422.2).bind fun t433 => (if t433 = 0 then ((lecternlaw14_num.f bt426.2.2.2.2).bind fun t434 => (lawOnce.j4 kj61 l0 y418 (wrap64 (x5_1 + 1)) x6_1 bt422.1 (t434 != 9))) else (none))))) else (lawOnce.j5 kj61 l0 t368 y418 (wrap64 (x5_1 + 1)) x6_1))) = some r := by first | (rw [hy418]; with_reducible exact H) | (have H2_ := (Option.bind_some _ _).symm.trans H; rw [hy418]; with_reducible exact H2_) | (have H2_ := (Option.bind_some _ _).symm.trans H; with_reducible exact H2_) | with_reducible exact H | (rw [hy418]; exact H) | exact H
                        have Ny418 := Aside0.mk hy418
                        clear hy418
                        replace H := Option.bind_eq_some_iff.mp H
                        obtain ⟨t421, A1520, H⟩ := H
                        replace H : (if t421 = 0 then ((session_Close.f kj61 t368 (rd x4_1 t365)).bind fun bt422 => ((session_Begin.f kj61 bt422.1 (rd x4_1 t365) (wrap64 ((wrap64 (x5_1 + 1)) + 1))).bind fun bt426 => ((lecternlaw14_num.f bt422.2).bind fun t433 => (if t433 = 0 then ((lecternlaw14_num.f bt426.2.2.2.2).bind fun t434 => (lawOnce.j4 kj61 l0 y418 (wrap64 (x5_1 + 1)) x6_1 bt422.1 (t434 != 9))) else (none))))) else (lawOnce.j5 kj61 l0 t368 y418 (wrap64 (x5_1 + 1)) x6_1)) = some r := H
                        have A152 := Aside0.mk A1520
                        clear A1520
                        have HCQ := Aside0.mk H
                        clear H
                        try go_wp2
                        have n0_ := Aside0.mk (Kd.Q_drew HO_4.out)
                        have n1_ := Aside0.mk (Kd.S_drew HO_16.out)
                        have n2_ := Aside0.mk (Kd.R_drew HO_380002.out)
                        have n3_ := Aside0.mk (Kd.R_drew HO_388002.out)
                        have n4_ := Aside0.mk (Kd.R_drew HO_396002.out)
                        have n5_ := Aside0.mk (blk_drew BK339.out)
                        have n6_ := Aside0.mk (blk_drew BK367.out)
                        have n7_ := Aside0.mk (blk_drew BK379.out)
                        have n8_ := Aside0.mk (blk_drew BK387.out)
                        have n9_ := Aside0.mk (blk_drew BK395.out)
                        have n10_ := Aside0.mk (below_drew1 HB.out)
                        clear HO_4
                        clear HO_16
                        clear HO_380002
                        clear HO_388002
                        clear HO_396002
                        clear BK339
                        clear BK367
                        clear BK379
                        clear BK387
                        clear BK395
                        clear HB
                        have HO_4 := n0_
                        have HO_16 := n1_
                        have HO_380002 := n2_
                        have HO_388002 := n3_
                        have HO_396002 := n4_
                        have BK339 := n5_
                        have BK367 := n6_
                        have BK379 := n7_
                        have BK387 := n8_
                        have BK395 := n9_
                        have HB := n10_
                        clear n0_ n1_ n2_ n3_ n4_ n5_ n6_ n7_ n8_ n9_ n10_
                        have q158 : (t365 : Int) ≤ ((x4_1.length : Int) : Int) := of_decide_eq_true (by assumption)
                        obtain ⟨i0158, hi0158, _, hsz158, _⟩ := info_parts info3
                        have hroom158 : x4_1.length ≤ co64 := (Kd.Q_reads' HO_4.out).2.1
                        have hC158 : Kd.C (Kd.int .i64) _ (some ad366) x4_1.length x4_1 := (Kd.Q_reads' HO_4.out).2.2
                        have hcut158 := cut_to (P := Try.prog) 42 3 .i64 Try.underlying42 hi0158 (some ad366) x4_1.length co64 t365 (of_decide_eq_true (by assumption)) q158 hroom158
                        have hr158 := Kd.C_take (m := (t365 : Int).toNat) hC158 (by omega)
                        have hy158 : y401.length = (t365 : Int).toNat := (by rw [Ny401.out, List.length_take]; omega)
                        rw [← Ny401.out] at hr158
                        rw [← hy158] at hcut158
                        have HR404 := Aside0.mk hr158
                        have HC404 := Aside0.mk (show y401.length ≤ co64 from by omega)
                        clear hr158 hC158 hroom158 hi0158 hsz158
                        have KY158 := Aside0.mk hy158
                        clear hy158
                        have KL158 := Aside0.mk (show (t365 : Int).toNat ≤ x4_1.length from by omega)
                        replace q158 := eq_true q158
                        have q159 : ((ji147) : Int) ≤ ((x4_1.length : Int) : Int) := of_decide_eq_true (by assumption)
                        obtain ⟨i0159, hi0159, _, hsz159, _⟩ := info_parts info3
                        have hroom159 : x4_1.length ≤ co64 := (Kd.Q_reads' HO_4.out).2.1
                        have hC159 : Kd.C (Kd.int .i64) _ (some ad366) x4_1.length x4_1 := (Kd.Q_reads' HO_4.out).2.2
                        have q0159 : (0 : Int) ≤ ((ji147) : Int) := of_decide_eq_true (by assumption)
                        have hcut159 := cut_from (P := Try.prog) 42 3 .i64 Try.underlying42 hi0159 1 hsz159 (some ad366) x4_1.length co64 (ji147) q0159 q159
                        have hr159 := Kd.C_drop (m := ((ji147) : Int).toNat) (c := co64) hC159 (by omega) hroom159
                        obtain ⟨A159, hA159⟩ : ∃ A1, A1 = (if co64 = ((ji147) : Int).toNat then (some ad366) else ((some ad366) : Option Addr).map (·.add (((ji147) : Int).toNat * 1))) := ⟨_, rfl⟩
                        obtain ⟨c159, hc159⟩ : ∃ c1, c1 = co64 - ((ji147) : Int).toNat := ⟨_, rfl⟩
                        have hy159 : y408.length = x4_1.length - ((ji147) : Int).toNat := (by rw [Ny408.out, List.length_drop] <;> omega)
                        rw [show (x4_1).drop ((ji147) : Int).toNat = y408 from Ny408.out.symm] at hr159
                        replace hr159 : Kd.C (Kd.int .i64) _ A159 y408.length y408 := (by rw [hA159]; exact hr159)
                        rw [← hy159, ← hA159, ← hc159] at hcut159
                        have HR411 := Aside0.mk hr159
                        have HC411 := Aside0.mk (show y408.length ≤ c159 from by rw [hy159, hc159]; exact Nat.sub_le_sub_right hroom159 _)
                        clear hr159 hC159 hroom159 hi0159 hsz159 hc159
                        have KY159 := Aside0.mk hy159
                        have KA159 := Aside0.mk hA159
                        clear hy159 hA159
                        have KL159 := Aside0.mk (show ((ji147) : Int).toNat ≤ x4_1.length from by omega)
                        replace q159 := eq_true q159
                        refine start_ (n := 13) (S := fun w' => True) (ds := []) #[false, false, false, false, false, false, false, false, false, false, false, false, false] (by kernel_rfl) rfl rfl trivial (fun hHeld => ?_); refine with_tabW lawOnce.tab29 lawOnce.bits29 (fun HT_ HW_ => ?_)
                        generalize wc.drew = w157 at HO_4 HO_16 HO_380002 HO_388002 HO_396002 BK339 BK367 BK379 BK387 BK395 HB HR404 HR411 hHeld ⊢
                        refine pure_ (i := 0) (N := some 160) (v := ?_) (a' := ?_) #[true, false, false, false, false, false, false, false, false, false, false, false, false] rfl rfl (any_of HT_.out (by kernel_rfl)) (fun _ _ _ h => h) (Or.inl ⟨by rfl, ?_⟩) ?_ ?_
                        rotate_left
                        ·intro w'
                         go_simp
                         with_reducible rfl
                        rotate_left
                        ·simp only [Act.put, sA, sB, sC, i64_w, i32_w]
                         rfl
                        refine pure_ (i := 1) (N := some 161) (v := ?_) (a' := ?_) #[true, true, false, false, false, false, false, false, false, false, false, false, false] rfl rfl (any_of HT_.out (by kernel_rfl)) (fun _ _ _ h => h) (Or.inl ⟨by rfl, ?_⟩) ?_ ?_
                        rotate_left
                        ·intro w'
                         go_simp
                         with_reducible rfl
                        rotate_left
                        ·simp only [Act.put, sA, sB, sC, i64_w, i32_w]
                         rfl
                        refine pure_ (i := 2) (N := some 162) (v := ?_) (a' := ?_) #[true, true, true, false, false, false, false, false, false, false, false, false, false] rfl rfl (any_of HT_.out (by kernel_rfl)) (fun _ _ _ h => h) (Or.inl ⟨by rfl, ?_⟩) ?_ ?_
                        rotate_left
                        ·intro w'
                         go_simp
                         with_reducible rfl
                        rotate_left
                        ·simp only [Act.put, sA, sB, sC, i64_w, i32_w]
                         rfl
                        refine pure_ (i := 4) (N := some 164) (v := ?_) (a' := ?_) #[true, true, true, false, true, false, false, false, false, false, false, false, false] rfl rfl (any_of HT_.out (by kernel_rfl)) (fun _ _ _ h => h) (Or.inl ⟨by rfl, ?_⟩) ?_ ?_
                        rotate_left
                        ·intro w'
                         go_simp
                         with_reducible rfl
                        rotate_left
                        ·simp only [Act.put, sA, sB, sC, i64_w, i32_w]
                         rfl
                        refine pure_ (i := 5) (N := some 165) (v := ?_) (a' := ?_) #[true, true, true, false, true, true, false, false, false, false, false, false, false] rfl rfl (any_of HT_.out (by kernel_rfl)) (fun _ _ _ h => h) (Or.inl ⟨by rfl, ?_⟩) ?_ ?_
                        rotate_left
                        ·intro w'
                         go_simp
                         with_reducible rfl
                        rotate_left
                        ·simp only [Act.put, sA, sB, sC, i64_w, i32_w]
                         rfl
                        refine pure_ (i := 6) (N := some 166) (v := ?_) (a' := ?_) #[true, true, true, false, true, true, true, false, false, false, false, false, false] rfl rfl (any_of HT_.out (by kernel_rfl)) (fun _ _ _ h => h) (Or.inl ⟨by rfl, ?_⟩) ?_ ?_
                        rotate_left
                        ·intro w'
                         go_simp
                         with_reducible rfl
                        rotate_left
                        ·simp only [Act.put, sA, sB, sC, i64_w, i32_w]
                         rfl
                        refine pure_ (i := 7) (N := some 167) (v := ?_) (a' := ?_) #[true, true, true, false, true, true, true, true, false, false, false, false, false] rfl rfl (any_of HT_.out (by kernel_rfl)) (fun _ _ _ h => h) (Or.inl ⟨by rfl, ?_⟩) ?_ ?_
                        rotate_left
                        ·intro w'
                         go_simp
                         with_reducible rfl
                        rotate_left
                        ·simp only [Act.put, sA, sB, sC, i64_w, i32_w]
                         rfl
                        refine pure_ (i := 9) (N := some 169) (v := ?_) (a' := ?_) #[true, true, true, false, true, true, true, true, false, true, false, false, false] rfl rfl (any_of HT_.out (by kernel_rfl)) (fun _ _ _ h => h) (Or.inl ⟨by rfl, ?_⟩) ?_ ?_
                        rotate_left
                        ·intro w'
                         go_simp
                         with_reducible rfl
                        rotate_left
                        ·simp only [Act.put, sA, sB, sC, i64_w, i32_w]
                         rfl
                        refine join_ (σ := Value × Value × Value) 2 fz49_1 (fun s_ => [(163, s_.1), (168, s_.2.1), (170, s_.2.2)]) (fun s_ w' => (Kd.R (Kd.int .i64) 3 w' w.heap.size (fun k_ => some k_ ≠ (s_.2.2 : Value).ownBlock ∧ some k_ ≠ (.slice (some ad366) x4_1.length co64 : Value).ownBlock) s_.2.1 y412) ∧ (Kd.R (Kd.int .i64) 3 w' w.heap.size (fun k_ => some k_ ≠ (s_.2.1 : Value).ownBlock ∧ some k_ ≠ (.slice (some ad366) x4_1.length co64 : Value).ownBlock) s_.2.2 y415) ∧ (Kd.S k88 88 w' w.heap.size (fun k_ => some k_ ≠ (.slice Ao76 t374.length co76 : Value).ownBlock ∧ some k_ ≠ (.slice Ao83 t382.length co83 : Value).ownBlock ∧ some k_ ≠ (.slice Ao91 t390.length co91 : Value).ownBlock) (.slice Ao70 t368.length co70) t368) ∧ (Kd.R k116 116 w' w.heap.size (fun k_ => some k_ ≠ (.slice Ao83 t382.length co83 : Value).ownBlock ∧ some k_ ≠ (.slice Ao91 t390.length co91 : Value).ownBlock) (.slice Ao76 t374.length co76) t374) ∧ (Kd.R k116 116 w' w.heap.size (fun k_ => some k_ ≠ (.slice Ao76 t374.length co76 : Value).ownBlock ∧ some k_ ≠ (.slice Ao91 t390.length co91 : Value).ownBlock) (.slice Ao83 t382.length co83) t382) ∧ (Kd.R k116 116 w' w.heap.size (fun k_ => some k_ ≠ (.slice Ao76 t374.length co76 : Value).ownBlock ∧ some k_ ≠ (.slice Ao83 t382.length co83 : Value).ownBlock) (.slice Ao91 t390.length co91) t390) ∧ (Kd.Q (Kd.int .i64) 3 w' w.heap.size (fun k_ => some k_ ≠ (s_.2.1 : Value).ownBlock ∧ some k_ ≠ (s_.2.2 : Value).ownBlock) (.slice (some ad366) x4_1.length co64) x4_1) ∧ (w'.heap[gb339]? = some ((bx33 l0 x6_1 A338_6 c338_6))) ∧ (w'.heap[gb367]? = some ((bx31 0 (wrap64 (x5_1 + 1)) none 0 0))) ∧ (w'.heap[gb379]? = some ((bx31 t372 t373 Ao76 t374.length co76))) ∧ (w'.heap[gb387]? = some ((bx31 t380 t381 Ao83 t382.length co83))) ∧ (w'.heap[gb395]? = some ((bx31 t388 t389 Ao91 t390.length co91))) ∧ (Below w.heap.size w w')) ?_ ?_
                        rotate_left
                        ·intro hCont
                         refine two_ (i := 3) (j := 10) (Ni := some 163) (Nj := some 170) #[true, true, true, true, true, true, true, true, false, true, false, false, false] #[true, true, true, false, true, true, true, true, false, true, true, false, false] rfl rfl rfl rfl (two_of HT_.out (by kernel_rfl)) (by decide) (by decide) (fun K hK => ?_) (fun K hK => ?_)
                         ·skip
                          refine goes_ Try.func24 (by kernel_rfl) rfl #[.slice (some ad366) y401.length co64] (by rfl) rfl rfl (by (try simp only [List.map_toArray, List.map_cons, List.map_nil]); first | done | rfl | (simp only [List.length_drop, List.length_take]; rfl)) ?_
                          with_reducible refine (lecternref0_CopyNumbers.calls kj61 _ _ y401 t405 _ ?side1 ?side2 A146.out).mono ?_
                          (case side1 => repeat (first | exact (by repeat (first | (with_reducible exact HR404.out) | (with_reducible refine Kd.C_alloc ?_ _) | (with_reducible refine Kd.C_drewN ?_ _) | (with_reducible refine Kd.C_drew ?_) | exact HR404.out)) | (with_reducible refine Kd.C_alloc ?_ _) | (with_reducible refine Kd.C_drewN ?_ _) | (with_reducible refine Kd.C_drew ?_)))
                          (case side2 => exact HC404.out)
                          rintro e w160 ⟨v406, rfl, ho0, hb⟩
                          refine ⟨_, rfl, ?_⟩
                          have n0_ := Aside0.mk (Kd.Q_elder' (by (with_reducible repeat (first | apply Kd.Q_alloc | apply Kd.Q_drewN | apply Kd.Q_drew)); exact HO_4.out) (Kd.R_base ho0) hb)
                          have n1_ := Aside0.mk (Kd.S_below (by (with_reducible repeat (first | apply Kd.S_alloc | apply Kd.S_drewN | apply Kd.S_drew)); exact HO_16.out) hb)
                          have n2_ := Aside0.mk (Kd.R_below (by (with_reducible repeat (first | apply Kd.R_alloc | apply Kd.R_drewN | apply Kd.R_drew)); exact HO_380002.out) hb)
                          have n3_ := Aside0.mk (Kd.R_below (by (with_reducible repeat (first | apply Kd.R_alloc | apply Kd.R_drewN | apply Kd.R_drew)); exact HO_388002.out) hb)
                          have n4_ := Aside0.mk (Kd.R_below (by (with_reducible repeat (first | apply Kd.R_alloc | apply Kd.R_drewN | apply Kd.R_drew)); exact HO_396002.out) hb)
                          have n5_ := Aside0.mk (Kd.R_lower (Kd.R_new' ho0 (Kd.Q_lt (by (with_reducible repeat (first | apply Kd.Q_alloc | apply Kd.Q_drewN | apply Kd.Q_drew)); exact HO_4.out))) (below_size (by repeat (first | (with_reducible first | exact HB.out | apply below_alloc | apply pw_below_drewN | apply below_drew1 | refine below_set ?_ GE339.out | refine below_set ?_ GE367.out | refine below_set ?_ GE379.out | refine below_set ?_ GE387.out | refine below_set ?_ GE395.out) | exact HB.out))))
                          have n6_ := Aside0.mk (blk_below (g := gb339) (o := (bx33 l0 x6_1 A338_6 c338_6)) (by (with_reducible repeat (first | refine blk_drewN ?_ _ | refine blk_drew ?_ | refine blk_alloc ?_ _)); exact BK339.out) hb)
                          have n7_ := Aside0.mk (blk_below (g := gb367) (o := (bx31 0 (wrap64 (x5_1 + 1)) none 0 0)) (by (with_reducible repeat (first | refine blk_drewN ?_ _ | refine blk_drew ?_ | refine blk_alloc ?_ _)); exact BK367.out) hb)
                          have n8_ := Aside0.mk (blk_below (g := gb379) (o := (bx31 t372 t373 Ao76 t374.length co76)) (by (with_reducible repeat (first | refine blk_drewN ?_ _ | refine blk_drew ?_ | refine blk_alloc ?_ _)); exact BK379.out) hb)
                          have n9_ := Aside0.mk (blk_below (g := gb387) (o := (bx31 t380 t381 Ao83 t382.length co83)) (by (with_reducible repeat (first | refine blk_drewN ?_ _ | refine blk_drew ?_ | refine blk_alloc ?_ _)); exact BK387.out) hb)
                          have n10_ := Aside0.mk (blk_below (g := gb395) (o := (bx31 t388 t389 Ao91 t390.length co91)) (by (with_reducible repeat (first | refine blk_drewN ?_ _ | refine blk_drew ?_ | refine blk_alloc ?_ _)); exact BK395.out) hb)
                          have n11_ := Aside0.mk (Kd.C_below (by repeat (first | (with_reducible exact HR404.out) | (with_reducible refine Kd.C_alloc ?_ _) | (with_reducible refine Kd.C_drewN ?_ _) | (with_reducible refine Kd.C_drew ?_) | exact HR404.out)) hb)
                          have n12_ := Aside0.mk (Kd.C_below (by repeat (first | (with_reducible exact HR411.out) | (with_reducible refine Kd.C_alloc ?_ _) | (with_reducible refine Kd.C_drewN ?_ _) | (with_reducible refine Kd.C_drew ?_) | exact HR411.out)) hb)
                          have n13_ := Aside0.mk (below_step (by repeat (first | (with_reducible first | exact HB.out | apply below_alloc | apply pw_below_drewN | apply below_drew1 | refine below_set ?_ GE339.out | refine below_set ?_ GE367.out | refine below_set ?_ GE379.out | refine below_set ?_ GE387.out | refine below_set ?_ GE395.out) | exact HB.out)) hb)
                          clear HO_4
                          clear HO_16
                          clear HO_380002
                          clear HO_388002
                          clear HO_396002
                          clear BK339
                          clear BK367
                          clear BK379
                          clear BK387
                          clear BK395
                          clear HR404
                          clear HR411
                          clear HB
                          have HO_4 := n0_
                          have HO_16 := n1_
                          have HO_380002 := n2_
                          have HO_388002 := n3_
                          have HO_396002 := n4_
                          have HO407 := n5_
                          have BK339 := n6_
                          have BK367 := n7_
                          have BK379 := n8_
                          have BK387 := n9_
                          have BK395 := n10_
                          have HR404 := n11_
                          have HR411 := n12_
                          have HB := n13_
                          clear n0_ n1_ n2_ n3_ n4_ n5_ n6_ n7_ n8_ n9_ n10_ n11_ n12_ n13_
                          (try clear hb)
                          (try clear hb2)
                          (try clear hk)
                          (try clear hi)
                          (try clear ho0)
                          refine hK.out _ _ trivial (fun hHeld => ?_)
                          clear hK K
                          refine norm_ (a' := ?_) ?_ ?_
                          rotate_left
                          ·show Act.put _ (some 163) _ = _
                           simp only [Act.put, sA, sB, sC, i64_w, i32_w]
                           rfl
                          refine two_ (i := 8) (j := 10) (Ni := some 168) (Nj := some 170) #[true, true, true, true, true, true, true, true, true, true, false, false, false] fz49_0 rfl rfl rfl rfl (two_of HT_.out (by kernel_rfl)) (by decide) (by decide) (fun K hK => ?_) (fun K hK => ?_)
                          ·skip
                           refine Kd.R_append_rows_step (Kd.int .i64) (w0 := w) w.heap.size (by rfl) (.tmp 163) (.tmp 167) 42 3 (.int .i64 0) 8 rfl Try.underlying42 info3 rfl (by decide) (by omega) v406 t405 y408 _ _ _ (fun k_ => some k_ ≠ (.slice (some ad366) x4_1.length co64 : Value).ownBlock) (fun _ => False) rfl rfl ?aO ?aR (fun _ _ h => h) (fun _ h => h.elim) ?aF ?aB ?aS ?aL ?_
                           (case aR => repeat (first | exact (by repeat (first | (with_reducible exact HR411.out) | (with_reducible refine Kd.C_alloc ?_ _) | (with_reducible refine Kd.C_drewN ?_ _) | (with_reducible refine Kd.C_drew ?_) | exact HR411.out)) | (with_reducible refine Kd.C_alloc ?_ _) | (with_reducible refine Kd.C_drewN ?_ _) | (with_reducible refine Kd.C_drew ?_)))
                           (case aB => exact (by repeat (first | (with_reducible first | exact HB.out | apply below_alloc | apply pw_below_drewN | apply below_drew1 | refine below_set ?_ GE339.out | refine below_set ?_ GE367.out | refine below_set ?_ GE379.out | refine below_set ?_ GE387.out | refine below_set ?_ GE395.out) | exact HB.out)))
                           (case aF => exact (fun k_ hk => Kd.fresh' (Kd.Q_lt (by (with_reducible repeat (first | apply Kd.Q_alloc | apply Kd.Q_drewN | apply Kd.Q_drew)); exact HO_4.out)) k_ hk))
                           (case aO => exact (by (with_reducible repeat (first | apply Kd.R_alloc | apply Kd.R_drewN | apply Kd.R_drew)); exact Kd.R_mono HO407.out (fun _ hk => hk.2)))
                           (case aS => exact (below_size (by repeat (first | (with_reducible first | exact HB.out | apply below_alloc | apply pw_below_drewN | apply below_drew1 | refine below_set ?_ GE339.out | refine below_set ?_ GE367.out | refine below_set ?_ GE379.out | refine below_set ?_ GE387.out | refine below_set ?_ GE395.out) | exact HB.out))))
                           (case aL => have := LMc150.out; omega)
                           intro v413 w161 ho hb hg hat
                           rw [← Ny412.out] at ho
                           have n0_ := Aside0.mk (Kd.Q_after (ok := (fun _ => True)) (by (with_reducible repeat (first | apply Kd.Q_alloc | apply Kd.Q_drewN | apply Kd.Q_drew)); exact HO_4.out) hg hat)
                           have n1_ := Aside0.mk (Kd.S_over' (by (with_reducible repeat (first | apply Kd.S_alloc | apply Kd.S_drewN | apply Kd.S_drew)); exact HO_16.out) (Kd.R_typed (by (with_reducible repeat (first | apply Kd.R_alloc | apply Kd.R_drewN | apply Kd.R_drew)); exact HO407.out)) (by decide) hg)
                           have n2_ := Aside0.mk (Kd.R_over' (by (with_reducible repeat (first | apply Kd.R_alloc | apply Kd.R_drewN | apply Kd.R_drew)); exact HO_380002.out) (Kd.R_typed (by (with_reducible repeat (first | apply Kd.R_alloc | apply Kd.R_drewN | apply Kd.R_drew)); exact HO407.out)) (by decide) hg)
                           have n3_ := Aside0.mk (Kd.R_over' (by (with_reducible repeat (first | apply Kd.R_alloc | apply Kd.R_drewN | apply Kd.R_drew)); exact HO_388002.out) (Kd.R_typed (by (with_reducible repeat (first | apply Kd.R_alloc | apply Kd.R_drewN | apply Kd.R_drew)); exact HO407.out)) (by decide) hg)
                           have n4_ := Aside0.mk (Kd.R_over' (by (with_reducible repeat (first | apply Kd.R_alloc | apply Kd.R_drewN | apply Kd.R_drew)); exact HO_396002.out) (Kd.R_typed (by (with_reducible repeat (first | apply Kd.R_alloc | apply Kd.R_drewN | apply Kd.R_drew)); exact HO407.out)) (by decide) hg)
                           have n5_ := Aside0.mk (blk_grown (g := gb339) (o := (bx33 l0 x6_1 A338_6 c338_6)) (by (with_reducible repeat (first | refine blk_drewN ?_ _ | refine blk_drew ?_ | refine blk_alloc ?_ _)); exact BK339.out) hg (Kd.R_ne HO407.out BK339.out (by decide)))
                           have n6_ := Aside0.mk (blk_grown (g := gb367) (o := (bx31 0 (wrap64 (x5_1 + 1)) none 0 0)) (by (with_reducible repeat (first | refine blk_drewN ?_ _ | refine blk_drew ?_ | refine blk_alloc ?_ _)); exact BK367.out) hg (Kd.R_ne HO407.out BK367.out (by decide)))
                           have n7_ := Aside0.mk (blk_grown (g := gb379) (o := (bx31 t372 t373 Ao76 t374.length co76)) (by (with_reducible repeat (first | refine blk_drewN ?_ _ | refine blk_drew ?_ | refine blk_alloc ?_ _)); exact BK379.out) hg (Kd.R_ne HO407.out BK379.out (by decide)))
                           have n8_ := Aside0.mk (blk_grown (g := gb387) (o := (bx31 t380 t381 Ao83 t382.length co83)) (by (with_reducible repeat (first | refine blk_drewN ?_ _ | refine blk_drew ?_ | refine blk_alloc ?_ _)); exact BK387.out) hg (Kd.R_ne HO407.out BK387.out (by decide)))
                           have n9_ := Aside0.mk (blk_grown (g := gb395) (o := (bx31 t388 t389 Ao91 t390.length co91)) (by (with_reducible repeat (first | refine blk_drewN ?_ _ | refine blk_drew ?_ | refine blk_alloc ?_ _)); exact BK395.out) hg (Kd.R_ne HO407.out BK395.out (by decide)))
                           have n10_ := Aside0.mk (hb)
                           have n11_ := Aside0.mk ((show Kd.C (Kd.int .i64) w161 (some ad366) y401.length y401 from by rw [Ny401.out]; exact Kd.C_take (m := (t365 : Int).toNat) ((Kd.Q_reads' (Kd.Q_after (ok := (fun _ => True)) (by (with_reducible repeat (first | apply Kd.Q_alloc | apply Kd.Q_drewN | apply Kd.Q_drew)); exact HO_4.out) hg hat)).2.2) KL158.out))
                           have n12_ := Aside0.mk ((show Kd.C (Kd.int .i64) w161 A159 y408.length y408 from by rw [Ny408.out, KA159.out]; exact Kd.C_drop (m := ((ji147) : Int).toNat) (c := co64) ((Kd.Q_reads' (Kd.Q_after (ok := (fun _ => True)) (by (with_reducible repeat (first | apply Kd.Q_alloc | apply Kd.Q_drewN | apply Kd.Q_drew)); exact HO_4.out) hg hat)).2.2) KL159.out ((Kd.Q_reads' (Kd.Q_after (ok := (fun _ => True)) (by (with_reducible repeat (first | apply Kd.Q_alloc | apply Kd.Q_drewN | apply Kd.Q_drew)); exact HO_4.out) hg hat)).2.1)))
                           have n13_ := Aside0.mk (ho)
                           clear HO_4
                           clear HO_16
                           clear HO_380002
                           clear HO_388002
                           clear HO_396002
                           clear BK339
                           clear BK367
                           clear BK379
                           clear BK387
                           clear BK395
                           clear HB
                           clear HR404
                           clear HR411
                           clear HO407
                           have HO_4 := n0_
                           have HO_16 := n1_
                           have HO_380002 := n2_
                           have HO_388002 := n3_
                           have HO_396002 := n4_
                           have BK339 := n5_
                           have BK367 := n6_
                           have BK379 := n7_
                           have BK387 := n8_
                           have BK395 := n9_
                           have HB := n10_
                           have HR404 := n11_
                           have HR411 := n12_
                           have HO414 := n13_
                           clear n0_ n1_ n2_ n3_ n4_ n5_ n6_ n7_ n8_ n9_ n10_ n11_ n12_ n13_
                           clear ho hb hg hat
                           refine hK.out _ _ trivial (fun hHeld => ?_)
                           clear hK K
                           refine norm_ (a' := ?_) ?_ ?_
                           rotate_left
                           ·show Act.put _ (some 168) _ = _
                            simp only [Act.put, sA, sB, sC, i64_w, i32_w]
                            rfl
                           refine one_ (i := 10) (N := some 170) fz49_1 rfl rfl (one_of HT_.out (by kernel_rfl)) (by decide) (fun K hK => ?_)
                           refine Kd.R_lit_step (Kd.int .i64) _ 3 ?hg (N := 170) ?hd (xs := ([(rd x4_1 t365)] : List Int)) (inner := [.int .i64 (rd x4_1 t365)]) (ok := fun _ => True) (okp := fun _ => True) ?hr ?hp (fun _ hk => hk) trivial (Below.refl _ _) (Nat.le_refl _) (by simp) ?_; (case hd => rfl); (case hg => rfl); (case hr => first | (go_simp; done) | (go_simp; rfl)); (case hp => exact (Reps.one (show Kd.M (Kd.int .i64) _ _ _ (rd x4_1 t365) [.int .i64 (rd x4_1 t365)] from rfl) (Reps.none _ _)))
                           intro v416 w162 ho163 hb hg_ hnew_
                           clear hg_ hnew_
                           (first | rw [← Ny415.out] at ho163 | (simp only [Int.reduceToNat] at ho163; rw [← Ny415.out] at ho163))
                           have n0_ := Aside0.mk (Kd.Q_elder' (by (with_reducible repeat (first | apply Kd.Q_alloc | apply Kd.Q_drewN | apply Kd.Q_drew)); exact HO_4.out) (Kd.R_base ho163) hb)
                           have n1_ := Aside0.mk (Kd.S_below (by (with_reducible repeat (first | apply Kd.S_alloc | apply Kd.S_drewN | apply Kd.S_drew)); exact HO_16.out) hb)
                           have n2_ := Aside0.mk (Kd.R_below (by (with_reducible repeat (first | apply Kd.R_alloc | apply Kd.R_drewN | apply Kd.R_drew)); exact HO_380002.out) hb)
                           have n3_ := Aside0.mk (Kd.R_below (by (with_reducible repeat (first | apply Kd.R_alloc | apply Kd.R_drewN | apply Kd.R_drew)); exact HO_388002.out) hb)
                           have n4_ := Aside0.mk (Kd.R_below (by (with_reducible repeat (first | apply Kd.R_alloc | apply Kd.R_drewN | apply Kd.R_drew)); exact HO_396002.out) hb)
                           have n5_ := Aside0.mk (Kd.R_elder' (by (with_reducible repeat (first | apply Kd.R_alloc | apply Kd.R_drewN | apply Kd.R_drew)); exact HO414.out) (Kd.R_base ho163) hb)
                           have n6_ := Aside0.mk (Kd.R_lower (Kd.R_new' (Kd.R_new' ho163 (Kd.Q_lt (by (with_reducible repeat (first | apply Kd.Q_alloc | apply Kd.Q_drewN | apply Kd.Q_drew)); exact HO_4.out))) (Kd.R_lt (by (with_reducible repeat (first | apply Kd.R_alloc | apply Kd.R_drewN | apply Kd.R_drew)); exact HO414.out))) (below_size (by repeat (first | (with_reducible first | exact HB.out | apply below_alloc | apply pw_below_drewN | apply below_drew1 | refine below_set ?_ GE339.out | refine below_set ?_ GE367.out | refine below_set ?_ GE379.out | refine below_set ?_ GE387.out | refine below_set ?_ GE395.out) | exact HB.out))))
                           have n7_ := Aside0.mk (blk_below (g := gb339) (o := (bx33 l0 x6_1 A338_6 c338_6)) (by (with_reducible repeat (first | refine blk_drewN ?_ _ | refine blk_drew ?_ | refine blk_alloc ?_ _)); exact BK339.out) hb)
                           have n8_ := Aside0.mk (blk_below (g := gb367) (o := (bx31 0 (wrap64 (x5_1 + 1)) none 0 0)) (by (with_reducible repeat (first | refine blk_drewN ?_ _ | refine blk_drew ?_ | refine blk_alloc ?_ _)); exact BK367.out) hb)
                           have n9_ := Aside0.mk (blk_below (g := gb379) (o := (bx31 t372 t373 Ao76 t374.length co76)) (by (with_reducible repeat (first | refine blk_drewN ?_ _ | refine blk_drew ?_ | refine blk_alloc ?_ _)); exact BK379.out) hb)
                           have n10_ := Aside0.mk (blk_below (g := gb387) (o := (bx31 t380 t381 Ao83 t382.length co83)) (by (with_reducible repeat (first | refine blk_drewN ?_ _ | refine blk_drew ?_ | refine blk_alloc ?_ _)); exact BK387.out) hb)
                           have n11_ := Aside0.mk (blk_below (g := gb395) (o := (bx31 t388 t389 Ao91 t390.length co91)) (by (with_reducible repeat (first | refine blk_drewN ?_ _ | refine blk_drew ?_ | refine blk_alloc ?_ _)); exact BK395.out) hb)
                           have n12_ := Aside0.mk (Kd.C_below (by repeat (first | (with_reducible exact HR404.out) | (with_reducible refine Kd.C_alloc ?_ _) | (with_reducible refine Kd.C_drewN ?_ _) | (with_reducible refine Kd.C_drew ?_) | exact HR404.out)) hb)
                           have n13_ := Aside0.mk (Kd.C_below (by repeat (first | (with_reducible exact HR411.out) | (with_reducible refine Kd.C_alloc ?_ _) | (with_reducible refine Kd.C_drewN ?_ _) | (with_reducible refine Kd.C_drew ?_) | exact HR411.out)) hb)
                           have n14_ := Aside0.mk (below_step (by repeat (first | (with_reducible first | exact HB.out | apply below_alloc | apply pw_below_drewN | apply below_drew1 | refine below_set ?_ GE339.out | refine below_set ?_ GE367.out | refine below_set ?_ GE379.out | refine below_set ?_ GE387.out | refine below_set ?_ GE395.out) | exact HB.out)) hb)
                           clear HO_4
                           clear HO_16
                           clear HO_380002
                           clear HO_388002
                           clear HO_396002
                           clear HO414
                           clear BK339
                           clear BK367
                           clear BK379
                           clear BK387
                           clear BK395
                           clear HR404
                           clear HR411
                           clear HB
                           have HO_4 := n0_
                           have HO_16 := n1_
                           have HO_380002 := n2_
                           have HO_388002 := n3_
                           have HO_396002 := n4_
                           have HO414 := n5_
                           have HO417 := n6_
                           have BK339 := n7_
                           have BK367 := n8_
                           have BK379 := n9_
                           have BK387 := n10_
                           have BK395 := n11_
                           have HR404 := n12_
                           have HR411 := n13_
                           have HB := n14_
                           clear n0_ n1_ n2_ n3_ n4_ n5_ n6_ n7_ n8_ n9_ n10_ n11_ n12_ n13_ n14_
                           clear hb ho163
                           refine hK.out _ _ trivial (fun hHeld => ?_)
                           clear hK K
                           refine norm_ (a' := ?_) ?_ ?_
                           rotate_left
                           ·show Act.put _ (some 170) _ = _
                            simp only [Act.put, sA, sB, sC, i64_w, i32_w]
                            rfl
                           exact norm_ (by simp only [putAll, Act.put, List.setIfInBounds_toArray, List.set_cons_zero, List.set_cons_succ]) (hCont (v406, v413, v416) _ ⟨(by (with_reducible repeat (first | apply Kd.R_alloc | apply Kd.R_drewN | apply Kd.R_drew)); exact Kd.R_mono HO414.out (fun _ hk => ⟨hk.2, hk.1⟩)), (by (with_reducible repeat (first | apply Kd.R_alloc | apply Kd.R_drewN | apply Kd.R_drew)); exact Kd.R_mono HO417.out (fun _ hk => ⟨hk.2, hk.1.2⟩)), (by (with_reducible repeat (first | apply Kd.S_alloc | apply Kd.S_drewN | apply Kd.S_drew)); exact HO_16.out), (by (with_reducible repeat (first | apply Kd.R_alloc | apply Kd.R_drewN | apply Kd.R_drew)); exact HO_380002.out), (by (with_reducible repeat (first | apply Kd.R_alloc | apply Kd.R_drewN | apply Kd.R_drew)); exact HO_388002.out), (by (with_reducible repeat (first | apply Kd.R_alloc | apply Kd.R_drewN | apply Kd.R_drew)); exact HO_396002.out), (by (with_reducible repeat (first | apply Kd.Q_alloc | apply Kd.Q_drewN | apply Kd.Q_drew)); exact Kd.Q_mono HO_4.out (fun _ hk => ⟨hk.1.2, hk.2⟩)), (by (with_reducible repeat (first | refine blk_drewN ?_ _ | refine blk_drew ?_ | refine blk_alloc ?_ _)); exact BK339.out), (by (with_reducible repeat (first | refine blk_drewN ?_ _ | refine blk_drew ?_ | refine blk_alloc ?_ _)); exact BK367.out), (by (with_reducible repeat (first | refine blk_drewN ?_ _ | refine blk_drew ?_ | refine blk_alloc ?_ _)); exact BK379.out), (by (with_reducible repeat (first | refine blk_drewN ?_ _ | refine blk_drew ?_ | refine blk_alloc ?_ _)); exact BK387.out), (by (with_reducible repeat (first | refine blk_drewN ?_ _ | refine blk_drew ?_ | refine blk_alloc ?_ _)); exact BK395.out), (by repeat (first | (with_reducible first | exact HB.out | apply below_alloc | apply pw_below_drewN | apply below_drew1 | refine below_set ?_ GE339.out | refine below_set ?_ GE367.out | refine below_set ?_ GE379.out | refine below_set ?_ GE387.out | refine below_set ?_ GE395.out) | exact HB.out))⟩)
                          ·skip
                           refine Kd.R_lit_step (Kd.int .i64) _ 3 ?hg (N := 170) ?hd (xs := ([(rd x4_1 t365)] : List Int)) (inner := [.int .i64 (rd x4_1 t365)]) (ok := fun _ => True) (okp := fun _ => True) ?hr ?hp (fun _ hk => hk) trivial (Below.refl _ _) (Nat.le_refl _) (by simp) ?_; (case hd => rfl); (case hg => rfl); (case hr => first | (go_simp; done) | (go_simp; rfl)); (case hp => exact (Reps.one (show Kd.M (Kd.int .i64) _ _ _ (rd x4_1 t365) [.int .i64 (rd x4_1 t365)] from rfl) (Reps.none _ _)))
                           intro v416 w161 ho162 hb hg_ hnew_
                           clear hg_ hnew_
                           (first | rw [← Ny415.out] at ho162 | (simp only [Int.reduceToNat] at ho162; rw [← Ny415.out] at ho162))
                           have n0_ := Aside0.mk (Kd.Q_elder' (by (with_reducible repeat (first | apply Kd.Q_alloc | apply Kd.Q_drewN | apply Kd.Q_drew)); exact HO_4.out) (Kd.R_base ho162) hb)
                           have n1_ := Aside0.mk (Kd.S_below (by (with_reducible repeat (first | apply Kd.S_alloc | apply Kd.S_drewN | apply Kd.S_drew)); exact HO_16.out) hb)
                           have n2_ := Aside0.mk (Kd.R_below (by (with_reducible repeat (first | apply Kd.R_alloc | apply Kd.R_drewN | apply Kd.R_drew)); exact HO_380002.out) hb)
                           have n3_ := Aside0.mk (Kd.R_below (by (with_reducible repeat (first | apply Kd.R_alloc | apply Kd.R_drewN | apply Kd.R_drew)); exact HO_388002.out) hb)
                           have n4_ := Aside0.mk (Kd.R_below (by (with_reducible repeat (first | apply Kd.R_alloc | apply Kd.R_drewN | apply Kd.R_drew)); exact HO_396002.out) hb)
                           have n5_ := Aside0.mk (Kd.R_elder' (by (with_reducible repeat (first | apply Kd.R_alloc | apply Kd.R_drewN | apply Kd.R_drew)); exact HO407.out) (Kd.R_base ho162) hb)
                           have n6_ := Aside0.mk (Kd.R_lower (Kd.R_new' (Kd.R_new' ho162 (Kd.Q_lt (by (with_reducible repeat (first | apply Kd.Q_alloc | apply Kd.Q_drewN | apply Kd.Q_drew)); exact HO_4.out))) (Kd.R_lt (by (with_reducible repeat (first | apply Kd.R_alloc | apply Kd.R_drewN | apply Kd.R_drew)); exact HO407.out))) (below_size (by repeat (first | (with_reducible first | exact HB.out | apply below_alloc | apply pw_below_drewN | apply below_drew1 | refine below_set ?_ GE339.out | refine below_set ?_ GE367.out | refine below_set ?_ GE379.out | refine below_set ?_ GE387.out | refine below_set ?_ GE395.out) | exact HB.out))))
                           have n7_ := Aside0.mk (blk_below (g := gb339) (o := (bx33 l0 x6_1 A338_6 c338_6)) (by (with_reducible repeat (first | refine blk_drewN ?_ _ | refine blk_drew ?_ | refine blk_alloc ?_ _)); exact BK339.out) hb)
                           have n8_ := Aside0.mk (blk_below (g := gb367) (o := (bx31 0 (wrap64 (x5_1 + 1)) none 0 0)) (by (with_reducible repeat (first | refine blk_drewN ?_ _ | refine blk_drew ?_ | refine blk_alloc ?_ _)); exact BK367.out) hb)
                           have n9_ := Aside0.mk (blk_below (g := gb379) (o := (bx31 t372 t373 Ao76 t374.length co76)) (by (with_reducible repeat (first | refine blk_drewN ?_ _ | refine blk_drew ?_ | refine blk_alloc ?_ _)); exact BK379.out) hb)
                           have n10_ := Aside0.mk (blk_below (g := gb387) (o := (bx31 t380 t381 Ao83 t382.length co83)) (by (with_reducible repeat (first | refine blk_drewN ?_ _ | refine blk_drew ?_ | refine blk_alloc ?_ _)); exact BK387.out) hb)
                           have n11_ := Aside0.mk (blk_below (g := gb395) (o := (bx31 t388 t389 Ao91 t390.length co91)) (by (with_reducible repeat (first | refine blk_drewN ?_ _ | refine blk_drew ?_ | refine blk_alloc ?_ _)); exact BK395.out) hb)
                           have n12_ := Aside0.mk (Kd.C_below (by repeat (first | (with_reducible exact HR404.out) | (with_reducible refine Kd.C_alloc ?_ _) | (with_reducible refine Kd.C_drewN ?_ _) | (with_reducible refine Kd.C_drew ?_) | exact HR404.out)) hb)
                           have n13_ := Aside0.mk (Kd.C_below (by repeat (first | (with_reducible exact HR411.out) | (with_reducible refine Kd.C_alloc ?_ _) | (with_reducible refine Kd.C_drewN ?_ _) | (with_reducible refine Kd.C_drew ?_) | exact HR411.out)) hb)
                           have n14_ := Aside0.mk (below_step (by repeat (first | (with_reducible first | exact HB.out | apply below_alloc | apply pw_below_drewN | apply below_drew1 | refine below_set ?_ GE339.out | refine below_set ?_ GE367.out | refine below_set ?_ GE379.out | refine below_set ?_ GE387.out | refine below_set ?_ GE395.out) | exact HB.out)) hb)
                           clear HO_4
                           clear HO_16
                           clear HO_380002
                           clear HO_388002
                           clear HO_396002
                           clear HO407
                           clear BK339
                           clear BK367
                           clear BK379
                           clear BK387
                           clear BK395
                           clear HR404
                           clear HR411
                           clear HB
                           have HO_4 := n0_
                           have HO_16 := n1_
                           have HO_380002 := n2_
                           have HO_388002 := n3_
                           have HO_396002 := n4_
                           have HO407 := n5_
                           have HO417 := n6_
                           have BK339 := n7_
                           have BK367 := n8_
                           have BK379 := n9_
                           have BK387 := n10_
                           have BK395 := n11_
                           have HR404 := n12_
                           have HR411 := n13_
                           have HB := n14_
                           clear n0_ n1_ n2_ n3_ n4_ n5_ n6_ n7_ n8_ n9_ n10_ n11_ n12_ n13_ n14_
                           clear hb ho162
                           refine hK.out _ _ trivial (fun hHeld => ?_)
                           clear hK K
                           refine norm_ (a' := ?_) ?_ ?_
                           rotate_left
                           ·show Act.put _ (some 170) _ = _
                            simp only [Act.put, sA, sB, sC, i64_w, i32_w]
                            rfl
                           refine one_ (i := 8) (N := some 168) fz49_1 rfl rfl (one_of HT_.out (by kernel_rfl)) (by decide) (fun K hK => ?_)
                           refine Kd.R_append_rows_step (Kd.int .i64) (w0 := w) w.heap.size (by rfl) (.tmp 163) (.tmp 167) 42 3 (.int .i64 0) 8 rfl Try.underlying42 info3 rfl (by decide) (by omega) v406 t405 y408 _ _ _ (fun k_ => some k_ ≠ (.slice (some ad366) x4_1.length co64 : Value).ownBlock ∧ some k_ ≠ (v416 : Value).ownBlock) (fun _ => False) rfl rfl ?aO ?aR (fun _ _ h => h) (fun _ h => h.elim) ?aF ?aB ?aS ?aL ?_
                           (case aR => repeat (first | exact (by repeat (first | (with_reducible exact HR411.out) | (with_reducible refine Kd.C_alloc ?_ _) | (with_reducible refine Kd.C_drewN ?_ _) | (with_reducible refine Kd.C_drew ?_) | exact HR411.out)) | (with_reducible refine Kd.C_alloc ?_ _) | (with_reducible refine Kd.C_drewN ?_ _) | (with_reducible refine Kd.C_drew ?_)))
                           (case aB => exact (by repeat (first | (with_reducible first | exact HB.out | apply below_alloc | apply pw_below_drewN | apply below_drew1 | refine below_set ?_ GE339.out | refine below_set ?_ GE367.out | refine below_set ?_ GE379.out | refine below_set ?_ GE387.out | refine below_set ?_ GE395.out) | exact HB.out)))
                           (case aF => exact (fun k_ hk => ⟨Kd.fresh' (Kd.Q_lt (by (with_reducible repeat (first | apply Kd.Q_alloc | apply Kd.Q_drewN | apply Kd.Q_drew)); exact HO_4.out)) k_ hk, Kd.fresh' (Kd.R_lt (by (with_reducible repeat (first | apply Kd.R_alloc | apply Kd.R_drewN | apply Kd.R_drew)); exact HO417.out)) k_ hk⟩))
                           (case aO => exact (by (with_reducible repeat (first | apply Kd.R_alloc | apply Kd.R_drewN | apply Kd.R_drew)); exact Kd.R_mono HO407.out (fun _ hk => ⟨hk.1.2, hk.2⟩)))
                           (case aS => exact (below_size (by repeat (first | (with_reducible first | exact HB.out | apply below_alloc | apply pw_below_drewN | apply below_drew1 | refine below_set ?_ GE339.out | refine below_set ?_ GE367.out | refine below_set ?_ GE379.out | refine below_set ?_ GE387.out | refine below_set ?_ GE395.out) | exact HB.out))))
                           (case aL => have := LMc150.out; omega)
                           intro v413 w163 ho hb hg hat
                           rw [← Ny412.out] at ho
                           have n0_ := Aside0.mk (Kd.Q_after (ok := (fun k_ => some k_ ≠ (v416 : Value).ownBlock)) (by (with_reducible repeat (first | apply Kd.Q_alloc | apply Kd.Q_drewN | apply Kd.Q_drew)); exact Kd.Q_mono HO_4.out (fun _ hk => ⟨hk.2, hk.1.2⟩)) hg hat)
                           have n1_ := Aside0.mk (Kd.S_over' (by (with_reducible repeat (first | apply Kd.S_alloc | apply Kd.S_drewN | apply Kd.S_drew)); exact HO_16.out) (Kd.R_typed (by (with_reducible repeat (first | apply Kd.R_alloc | apply Kd.R_drewN | apply Kd.R_drew)); exact HO407.out)) (by decide) hg)
                           have n2_ := Aside0.mk (Kd.R_over' (by (with_reducible repeat (first | apply Kd.R_alloc | apply Kd.R_drewN | apply Kd.R_drew)); exact HO_380002.out) (Kd.R_typed (by (with_reducible repeat (first | apply Kd.R_alloc | apply Kd.R_drewN | apply Kd.R_drew)); exact HO407.out)) (by decide) hg)
                           have n3_ := Aside0.mk (Kd.R_over' (by (with_reducible repeat (first | apply Kd.R_alloc | apply Kd.R_drewN | apply Kd.R_drew)); exact HO_388002.out) (Kd.R_typed (by (with_reducible repeat (first | apply Kd.R_alloc | apply Kd.R_drewN | apply Kd.R_drew)); exact HO407.out)) (by decide) hg)
                           have n4_ := Aside0.mk (Kd.R_over' (by (with_reducible repeat (first | apply Kd.R_alloc | apply Kd.R_drewN | apply Kd.R_drew)); exact HO_396002.out) (Kd.R_typed (by (with_reducible repeat (first | apply Kd.R_alloc | apply Kd.R_drewN | apply Kd.R_drew)); exact HO407.out)) (by decide) hg)
                           have n5_ := Aside0.mk (blk_grown (g := gb339) (o := (bx33 l0 x6_1 A338_6 c338_6)) (by (with_reducible repeat (first | refine blk_drewN ?_ _ | refine blk_drew ?_ | refine blk_alloc ?_ _)); exact BK339.out) hg (Kd.R_ne HO407.out BK339.out (by decide)))
                           have n6_ := Aside0.mk (blk_grown (g := gb367) (o := (bx31 0 (wrap64 (x5_1 + 1)) none 0 0)) (by (with_reducible repeat (first | refine blk_drewN ?_ _ | refine blk_drew ?_ | refine blk_alloc ?_ _)); exact BK367.out) hg (Kd.R_ne HO407.out BK367.out (by decide)))
                           have n7_ := Aside0.mk (blk_grown (g := gb379) (o := (bx31 t372 t373 Ao76 t374.length co76)) (by (with_reducible repeat (first | refine blk_drewN ?_ _ | refine blk_drew ?_ | refine blk_alloc ?_ _)); exact BK379.out) hg (Kd.R_ne HO407.out BK379.out (by decide)))
                           have n8_ := Aside0.mk (blk_grown (g := gb387) (o := (bx31 t380 t381 Ao83 t382.length co83)) (by (with_reducible repeat (first | refine blk_drewN ?_ _ | refine blk_drew ?_ | refine blk_alloc ?_ _)); exact BK387.out) hg (Kd.R_ne HO407.out BK387.out (by decide)))
                           have n9_ := Aside0.mk (blk_grown (g := gb395) (o := (bx31 t388 t389 Ao91 t390.length co91)) (by (with_reducible repeat (first | refine blk_drewN ?_ _ | refine blk_drew ?_ | refine blk_alloc ?_ _)); exact BK395.out) hg (Kd.R_ne HO407.out BK395.out (by decide)))
                           have n10_ := Aside0.mk (Kd.R_after (ok := (fun k_ => some k_ ≠ (.slice (some ad366) x4_1.length co64 : Value).ownBlock)) (by (with_reducible repeat (first | apply Kd.R_alloc | apply Kd.R_drewN | apply Kd.R_drew)); exact Kd.R_mono HO417.out (fun _ hk => ⟨hk.1.2, hk.2⟩)) hg hat)
                           have n11_ := Aside0.mk (hb)
                           have n12_ := Aside0.mk ((show Kd.C (Kd.int .i64) w163 (some ad366) y401.length y401 from by rw [Ny401.out]; exact Kd.C_take (m := (t365 : Int).toNat) ((Kd.Q_reads' (Kd.Q_after (ok := (fun k_ => some k_ ≠ (v416 : Value).ownBlock)) (by (with_reducible repeat (first | apply Kd.Q_alloc | apply Kd.Q_drewN | apply Kd.Q_drew)); exact Kd.Q_mono HO_4.out (fun _ hk => ⟨hk.2, hk.1.2⟩)) hg hat)).2.2) KL158.out))
                           have n13_ := Aside0.mk ((show Kd.C (Kd.int .i64) w163 A159 y408.length y408 from by rw [Ny408.out, KA159.out]; exact Kd.C_drop (m := ((ji147) : Int).toNat) (c := co64) ((Kd.Q_reads' (Kd.Q_after (ok := (fun k_ => some k_ ≠ (v416 : Value).ownBlock)) (by (with_reducible repeat (first | apply Kd.Q_alloc | apply Kd.Q_drewN | apply Kd.Q_drew)); exact Kd.Q_mono HO_4.out (fun _ hk => ⟨hk.2, hk.1.2⟩)) hg hat)).2.2) KL159.out ((Kd.Q_reads' (Kd.Q_after (ok := (fun k_ => some k_ ≠ (v416 : Value).ownBlock)) (by (with_reducible repeat (first | apply Kd.Q_alloc | apply Kd.Q_drewN | apply Kd.Q_drew)); exact Kd.Q_mono HO_4.out (fun _ hk => ⟨hk.2, hk.1.2⟩)) hg hat)).2.1)))
                           have n14_ := Aside0.mk (ho)
                           clear HO_4
                           clear HO_16
                           clear HO_380002
                           clear HO_388002
                           clear HO_396002
                           clear BK339
                           clear BK367
                           clear BK379
                           clear BK387
                           clear BK395
                           clear HO417
                           clear HB
                           clear HR404
                           clear HR411
                           clear HO407
                           have HO_4 := n0_
                           have HO_16 := n1_
                           have HO_380002 := n2_
                           have HO_388002 := n3_
                           have HO_396002 := n4_
                           have BK339 := n5_
                           have BK367 := n6_
                           have BK379 := n7_
                           have BK387 := n8_
                           have BK395 := n9_
                           have HO417 := n10_
                           have HB := n11_
                           have HR404 := n12_
                           have HR411 := n13_
                           have HO414 := n14_
                           clear n0_ n1_ n2_ n3_ n4_ n5_ n6_ n7_ n8_ n9_ n10_ n11_ n12_ n13_ n14_
                           clear ho hb hg hat
                           refine hK.out _ _ trivial (fun hHeld => ?_)
                           clear hK K
                           refine norm_ (a' := ?_) ?_ ?_
                           rotate_left
                           ·show Act.put _ (some 168) _ = _
                            simp only [Act.put, sA, sB, sC, i64_w, i32_w]
                            rfl
                           exact norm_ (by simp only [putAll, Act.put, List.setIfInBounds_toArray, List.set_cons_zero, List.set_cons_succ]) (hCont (v406, v413, v416) _ ⟨(by (with_reducible repeat (first | apply Kd.R_alloc | apply Kd.R_drewN | apply Kd.R_drew)); exact Kd.R_mono HO414.out (fun _ hk => ⟨hk.2, hk.1⟩)), (by (with_reducible repeat (first | apply Kd.R_alloc | apply Kd.R_drewN | apply Kd.R_drew)); exact Kd.R_mono HO417.out (fun _ hk => ⟨hk.2, hk.1⟩)), (by (with_reducible repeat (first | apply Kd.S_alloc | apply Kd.S_drewN | apply Kd.S_drew)); exact HO_16.out), (by (with_reducible repeat (first | apply Kd.R_alloc | apply Kd.R_drewN | apply Kd.R_drew)); exact HO_380002.out), (by (with_reducible repeat (first | apply Kd.R_alloc | apply Kd.R_drewN | apply Kd.R_drew)); exact HO_388002.out), (by (with_reducible repeat (first | apply Kd.R_alloc | apply Kd.R_drewN | apply Kd.R_drew)); exact HO_396002.out), (by (with_reducible repeat (first | apply Kd.Q_alloc | apply Kd.Q_drewN | apply Kd.Q_drew)); exact Kd.Q_mono HO_4.out (fun _ hk => ⟨hk.2, hk.1⟩)), (by (with_reducible repeat (first | refine blk_drewN ?_ _ | refine blk_drew ?_ | refine blk_alloc ?_ _)); exact BK339.out), (by (with_reducible repeat (first | refine blk_drewN ?_ _ | refine blk_drew ?_ | refine blk_alloc ?_ _)); exact BK367.out), (by (with_reducible repeat (first | refine blk_drewN ?_ _ | refine blk_drew ?_ | refine blk_alloc ?_ _)); exact BK379.out), (by (with_reducible repeat (first | refine blk_drewN ?_ _ | refine blk_drew ?_ | refine blk_alloc ?_ _)); exact BK387.out), (by (with_reducible repeat (first | refine blk_drewN ?_ _ | refine blk_drew ?_ | refine blk_alloc ?_ _)); exact BK395.out), (by repeat (first | (with_reducible first | exact HB.out | apply below_alloc | apply pw_below_drewN | apply below_drew1 | refine below_set ?_ GE339.out | refine below_set ?_ GE367.out | refine below_set ?_ GE379.out | refine below_set ?_ GE387.out | refine below_set ?_ GE395.out) | exact HB.out))⟩)
                         ·skip
                          refine Kd.R_lit_step (Kd.int .i64) _ 3 ?hg (N := 170) ?hd (xs := ([(rd x4_1 t365)] : List Int)) (inner := [.int .i64 (rd x4_1 t365)]) (ok := fun _ => True) (okp := fun _ => True) ?hr ?hp (fun _ hk => hk) trivial (Below.refl _ _) (Nat.le_refl _) (by simp) ?_; (case hd => rfl); (case hg => rfl); (case hr => first | (go_simp; done) | (go_simp; rfl)); (case hp => exact (Reps.one (show Kd.M (Kd.int .i64) _ _ _ (rd x4_1 t365) [.int .i64 (rd x4_1 t365)] from rfl) (Reps.none _ _)))
                          intro v416 w160 ho161 hb hg_ hnew_
                          clear hg_ hnew_
                          (first | rw [← Ny415.out] at ho161 | (simp only [Int.reduceToNat] at ho161; rw [← Ny415.out] at ho161))
                          have n0_ := Aside0.mk (Kd.Q_elder' (by (with_reducible repeat (first | apply Kd.Q_alloc | apply Kd.Q_drewN | apply Kd.Q_drew)); exact HO_4.out) (Kd.R_base ho161) hb)
                          have n1_ := Aside0.mk (Kd.S_below (by (with_reducible repeat (first | apply Kd.S_alloc | apply Kd.S_drewN | apply Kd.S_drew)); exact HO_16.out) hb)
                          have n2_ := Aside0.mk (Kd.R_below (by (with_reducible repeat (first | apply Kd.R_alloc | apply Kd.R_drewN | apply Kd.R_drew)); exact HO_380002.out) hb)
                          have n3_ := Aside0.mk (Kd.R_below (by (with_reducible repeat (first | apply Kd.R_alloc | apply Kd.R_drewN | apply Kd.R_drew)); exact HO_388002.out) hb)
                          have n4_ := Aside0.mk (Kd.R_below (by (with_reducible repeat (first | apply Kd.R_alloc | apply Kd.R_drewN | apply Kd.R_drew)); exact HO_396002.out) hb)
                          have n5_ := Aside0.mk (Kd.R_lower (Kd.R_new' ho161 (Kd.Q_lt (by (with_reducible repeat (first | apply Kd.Q_alloc | apply Kd.Q_drewN | apply Kd.Q_drew)); exact HO_4.out))) (below_size (by repeat (first | (with_reducible first | exact HB.out | apply below_alloc | apply pw_below_drewN | apply below_drew1 | refine below_set ?_ GE339.out | refine below_set ?_ GE367.out | refine below_set ?_ GE379.out | refine below_set ?_ GE387.out | refine below_set ?_ GE395.out) | exact HB.out))))
                          have n6_ := Aside0.mk (blk_below (g := gb339) (o := (bx33 l0 x6_1 A338_6 c338_6)) (by (with_reducible repeat (first | refine blk_drewN ?_ _ | refine blk_drew ?_ | refine blk_alloc ?_ _)); exact BK339.out) hb)
                          have n7_ := Aside0.mk (blk_below (g := gb367) (o := (bx31 0 (wrap64 (x5_1 + 1)) none 0 0)) (by (with_reducible repeat (first | refine blk_drewN ?_ _ | refine blk_drew ?_ | refine blk_alloc ?_ _)); exact BK367.out) hb)
                          have n8_ := Aside0.mk (blk_below (g := gb379) (o := (bx31 t372 t373 Ao76 t374.length co76)) (by (with_reducible repeat (first | refine blk_drewN ?_ _ | refine blk_drew ?_ | refine blk_alloc ?_ _)); exact BK379.out) hb)
                          have n9_ := Aside0.mk (blk_below (g := gb387) (o := (bx31 t380 t381 Ao83 t382.length co83)) (by (with_reducible repeat (first | refine blk_drewN ?_ _ | refine blk_drew ?_ | refine blk_alloc ?_ _)); exact BK387.out) hb)
                          have n10_ := Aside0.mk (blk_below (g := gb395) (o := (bx31 t388 t389 Ao91 t390.length co91)) (by (with_reducible repeat (first | refine blk_drewN ?_ _ | refine blk_drew ?_ | refine blk_alloc ?_ _)); exact BK395.out) hb)
                          have n11_ := Aside0.mk (Kd.C_below (by repeat (first | (with_reducible exact HR404.out) | (with_reducible refine Kd.C_alloc ?_ _) | (with_reducible refine Kd.C_drewN ?_ _) | (with_reducible refine Kd.C_drew ?_) | exact HR404.out)) hb)
                          have n12_ := Aside0.mk (Kd.C_below (by repeat (first | (with_reducible exact HR411.out) | (with_reducible refine Kd.C_alloc ?_ _) | (with_reducible refine Kd.C_drewN ?_ _) | (with_reducible refine Kd.C_drew ?_) | exact HR411.out)) hb)
                          have n13_ := Aside0.mk (below_step (by repeat (first | (with_reducible first | exact HB.out | apply below_alloc | apply pw_below_drewN | apply below_drew1 | refine below_set ?_ GE339.out | refine below_set ?_ GE367.out | refine below_set ?_ GE379.out | refine below_set ?_ GE387.out | refine below_set ?_ GE395.out) | exact HB.out)) hb)
                          clear HO_4
                          clear HO_16
                          clear HO_380002
                          clear HO_388002
                          clear HO_396002
                          clear BK339
                          clear BK367
                          clear BK379
                          clear BK387
                          clear BK395
                          clear HR404
                          clear HR411
                          clear HB
                          have HO_4 := n0_
                          have HO_16 := n1_
                          have HO_380002 := n2_
                          have HO_388002 := n3_
                          have HO_396002 := n4_
                          have HO417 := n5_
                          have BK339 := n6_
                          have BK367 := n7_
                          have BK379 := n8_
                          have BK387 := n9_
                          have BK395 := n10_
                          have HR404 := n11_
                          have HR411 := n12_
                          have HB := n13_
                          clear n0_ n1_ n2_ n3_ n4_ n5_ n6_ n7_ n8_ n9_ n10_ n11_ n12_ n13_
                          clear hb ho161
                          refine hK.out _ _ trivial (fun hHeld => ?_)
                          clear hK K
                          refine norm_ (a' := ?_) ?_ ?_
                          rotate_left
                          ·show Act.put _ (some 170) _ = _
                           simp only [Act.put, sA, sB, sC, i64_w, i32_w]
                           rfl
                          refine one_ (i := 3) (N := some 163) fz49_0 rfl rfl (one_of HT_.out (by kernel_rfl)) (by decide) (fun K hK => ?_)
                          refine goes_ Try.func24 (by kernel_rfl) rfl #[.slice (some ad366) y401.length co64] (by rfl) rfl rfl (by (try simp only [List.map_toArray, List.map_cons, List.map_nil]); first | done | rfl | (simp only [List.length_drop, List.length_take]; rfl)) ?_
                          with_reducible refine (lecternref0_CopyNumbers.calls kj61 _ _ y401 t405 _ ?side1 ?side2 A146.out).mono ?_
                          (case side1 => repeat (first | exact (by repeat (first | (with_reducible exact HR404.out) | (with_reducible refine Kd.C_alloc ?_ _) | (with_reducible refine Kd.C_drewN ?_ _) | (with_reducible refine Kd.C_drew ?_) | exact HR404.out)) | (with_reducible refine Kd.C_alloc ?_ _) | (with_reducible refine Kd.C_drewN ?_ _) | (with_reducible refine Kd.C_drew ?_)))
                          (case side2 => exact HC404.out)
                          rintro e w162 ⟨v406, rfl, ho0, hb⟩
                          refine ⟨_, rfl, ?_⟩
                          have n0_ := Aside0.mk (Kd.Q_elder' (by (with_reducible repeat (first | apply Kd.Q_alloc | apply Kd.Q_drewN | apply Kd.Q_drew)); exact HO_4.out) (Kd.R_base ho0) hb)
                          have n1_ := Aside0.mk (Kd.S_below (by (with_reducible repeat (first | apply Kd.S_alloc | apply Kd.S_drewN | apply Kd.S_drew)); exact HO_16.out) hb)
                          have n2_ := Aside0.mk (Kd.R_below (by (with_reducible repeat (first | apply Kd.R_alloc | apply Kd.R_drewN | apply Kd.R_drew)); exact HO_380002.out) hb)
                          have n3_ := Aside0.mk (Kd.R_below (by (with_reducible repeat (first | apply Kd.R_alloc | apply Kd.R_drewN | apply Kd.R_drew)); exact HO_388002.out) hb)
                          have n4_ := Aside0.mk (Kd.R_below (by (with_reducible repeat (first | apply Kd.R_alloc | apply Kd.R_drewN | apply Kd.R_drew)); exact HO_396002.out) hb)
                          have n5_ := Aside0.mk (Kd.R_elder' (by (with_reducible repeat (first | apply Kd.R_alloc | apply Kd.R_drewN | apply Kd.R_drew)); exact HO417.out) (Kd.R_base ho0) hb)
                          have n6_ := Aside0.mk (Kd.R_lower (Kd.R_new' (Kd.R_new' ho0 (Kd.Q_lt (by (with_reducible repeat (first | apply Kd.Q_alloc | apply Kd.Q_drewN | apply Kd.Q_drew)); exact HO_4.out))) (Kd.R_lt (by (with_reducible repeat (first | apply Kd.R_alloc | apply Kd.R_drewN | apply Kd.R_drew)); exact HO417.out))) (below_size (by repeat (first | (with_reducible first | exact HB.out | apply below_alloc | apply pw_below_drewN | apply below_drew1 | refine below_set ?_ GE339.out | refine below_set ?_ GE367.out | refine below_set ?_ GE379.out | refine below_set ?_ GE387.out | refine below_set ?_ GE395.out) | exact HB.out))))
                          have n7_ := Aside0.mk (blk_below (g := gb339) (o := (bx33 l0 x6_1 A338_6 c338_6)) (by (with_reducible repeat (first | refine blk_drewN ?_ _ | refine blk_drew ?_ | refine blk_alloc ?_ _)); exact BK339.out) hb)
                          have n8_ := Aside0.mk (blk_below (g := gb367) (o := (bx31 0 (wrap64 (x5_1 + 1)) none 0 0)) (by (with_reducible repeat (first | refine blk_drewN ?_ _ | refine blk_drew ?_ | refine blk_alloc ?_ _)); exact BK367.out) hb)
                          have n9_ := Aside0.mk (blk_below (g := gb379) (o := (bx31 t372 t373 Ao76 t374.length co76)) (by (with_reducible repeat (first | refine blk_drewN ?_ _ | refine blk_drew ?_ | refine blk_alloc ?_ _)); exact BK379.out) hb)
                          have n10_ := Aside0.mk (blk_below (g := gb387) (o := (bx31 t380 t381 Ao83 t382.length co83)) (by (with_reducible repeat (first | refine blk_drewN ?_ _ | refine blk_drew ?_ | refine blk_alloc ?_ _)); exact BK387.out) hb)
                          have n11_ := Aside0.mk (blk_below (g := gb395) (o := (bx31 t388 t389 Ao91 t390.length co91)) (by (with_reducible repeat (first | refine blk_drewN ?_ _ | refine blk_drew ?_ | refine blk_alloc ?_ _)); exact BK395.out) hb)
                          have n12_ := Aside0.mk (Kd.C_below (by repeat (first | (with_reducible exact HR404.out) | (with_reducible refine Kd.C_alloc ?_ _) | (with_reducible refine Kd.C_drewN ?_ _) | (with_reducible refine Kd.C_drew ?_) | exact HR404.out)) hb)
                          have n13_ := Aside0.mk (Kd.C_below (by repeat (first | (with_reducible exact HR411.out) | (with_reducible refine Kd.C_alloc ?_ _) | (with_reducible refine Kd.C_drewN ?_ _) | (with_reducible refine Kd.C_drew ?_) | exact HR411.out)) hb)
                          have n14_ := Aside0.mk (below_step (by repeat (first | (with_reducible first | exact HB.out | apply below_alloc | apply pw_below_drewN | apply below_drew1 | refine below_set ?_ GE339.out | refine below_set ?_ GE367.out | refine below_set ?_ GE379.out | refine below_set ?_ GE387.out | refine below_set ?_ GE395.out) | exact HB.out)) hb)
                          clear HO_4
                          clear HO_16
                          clear HO_380002
                          clear HO_388002
                          clear HO_396002
                          clear HO417
                          clear BK339
                          clear BK367
                          clear BK379
                          clear BK387
                          clear BK395
                          clear HR404
                          clear HR411
                          clear HB
                          have HO_4 := n0_
                          have HO_16 := n1_
                          have HO_380002 := n2_
                          have HO_388002 := n3_
                          have HO_396002 := n4_
                          have HO417 := n5_
                          have HO407 := n6_
                          have BK339 := n7_
                          have BK367 := n8_
                          have BK379 := n9_
                          have BK387 := n10_
                          have BK395 := n11_
                          have HR404 := n12_
                          have HR411 := n13_
                          have HB := n14_
                          clear n0_ n1_ n2_ n3_ n4_ n5_ n6_ n7_ n8_ n9_ n10_ n11_ n12_ n13_ n14_
                          (try clear hb)
                          (try clear hb2)
                          (try clear hk)
                          (try clear hi)
                          (try clear ho0)
                          refine hK.out _ _ trivial (fun hHeld => ?_)
                          clear hK K
                          refine norm_ (a' := ?_) ?_ ?_
                          rotate_left
                          ·show Act.put _ (some 163) _ = _
                           simp only [Act.put, sA, sB, sC, i64_w, i32_w]
                           rfl
                          refine one_ (i := 8) (N := some 168) fz49_1 rfl rfl (one_of HT_.out (by kernel_rfl)) (by decide) (fun K hK => ?_)
                          refine Kd.R_append_rows_step (Kd.int .i64) (w0 := w) w.heap.size (by rfl) (.tmp 163) (.tmp 167) 42 3 (.int .i64 0) 8 rfl Try.underlying42 info3 rfl (by decide) (by omega) v406 t405 y408 _ _ _ (fun k_ => some k_ ≠ (.slice (some ad366) x4_1.length co64 : Value).ownBlock ∧ some k_ ≠ (v416 : Value).ownBlock) (fun _ => False) rfl rfl ?aO ?aR (fun _ _ h => h) (fun _ h => h.elim) ?aF ?aB ?aS ?aL ?_
                          (case aR => repeat (first | exact (by repeat (first | (with_reducible exact HR411.out) | (with_reducible refine Kd.C_alloc ?_ _) | (with_reducible refine Kd.C_drewN ?_ _) | (with_reducible refine Kd.C_drew ?_) | exact HR411.out)) | (with_reducible refine Kd.C_alloc ?_ _) | (with_reducible refine Kd.C_drewN ?_ _) | (with_reducible refine Kd.C_drew ?_)))
                          (case aB => exact (by repeat (first | (with_reducible first | exact HB.out | apply below_alloc | apply pw_below_drewN | apply below_drew1 | refine below_set ?_ GE339.out | refine below_set ?_ GE367.out | refine below_set ?_ GE379.out | refine below_set ?_ GE387.out | refine below_set ?_ GE395.out) | exact HB.out)))
                          (case aF => exact (fun k_ hk => ⟨Kd.fresh' (Kd.Q_lt (by (with_reducible repeat (first | apply Kd.Q_alloc | apply Kd.Q_drewN | apply Kd.Q_drew)); exact HO_4.out)) k_ hk, Kd.fresh' (Kd.R_lt (by (with_reducible repeat (first | apply Kd.R_alloc | apply Kd.R_drewN | apply Kd.R_drew)); exact HO417.out)) k_ hk⟩))
                          (case aO => exact (by (with_reducible repeat (first | apply Kd.R_alloc | apply Kd.R_drewN | apply Kd.R_drew)); exact Kd.R_mono HO407.out (fun _ hk => ⟨hk.1.2, hk.2⟩)))
                          (case aS => exact (below_size (by repeat (first | (with_reducible first | exact HB.out | apply below_alloc | apply pw_below_drewN | apply below_drew1 | refine below_set ?_ GE339.out | refine below_set ?_ GE367.out | refine below_set ?_ GE379.out | refine below_set ?_ GE387.out | refine below_set ?_ GE395.out) | exact HB.out))))
                          (case aL => have := LMc150.out; omega)
                          intro v413 w163 ho hb hg hat
                          rw [← Ny412.out] at ho
                          have n0_ := Aside0.mk (Kd.Q_after (ok := (fun k_ => some k_ ≠ (v416 : Value).ownBlock)) (by (with_reducible repeat (first | apply Kd.Q_alloc | apply Kd.Q_drewN | apply Kd.Q_drew)); exact Kd.Q_mono HO_4.out (fun _ hk => ⟨hk.1.2, hk.2⟩)) hg hat)
                          have n1_ := Aside0.mk (Kd.S_over' (by (with_reducible repeat (first | apply Kd.S_alloc | apply Kd.S_drewN | apply Kd.S_drew)); exact HO_16.out) (Kd.R_typed (by (with_reducible repeat (first | apply Kd.R_alloc | apply Kd.R_drewN | apply Kd.R_drew)); exact HO407.out)) (by decide) hg)
                          have n2_ := Aside0.mk (Kd.R_over' (by (with_reducible repeat (first | apply Kd.R_alloc | apply Kd.R_drewN | apply Kd.R_drew)); exact HO_380002.out) (Kd.R_typed (by (with_reducible repeat (first | apply Kd.R_alloc | apply Kd.R_drewN | apply Kd.R_drew)); exact HO407.out)) (by decide) hg)
                          have n3_ := Aside0.mk (Kd.R_over' (by (with_reducible repeat (first | apply Kd.R_alloc | apply Kd.R_drewN | apply Kd.R_drew)); exact HO_388002.out) (Kd.R_typed (by (with_reducible repeat (first | apply Kd.R_alloc | apply Kd.R_drewN | apply Kd.R_drew)); exact HO407.out)) (by decide) hg)
                          have n4_ := Aside0.mk (Kd.R_over' (by (with_reducible repeat (first | apply Kd.R_alloc | apply Kd.R_drewN | apply Kd.R_drew)); exact HO_396002.out) (Kd.R_typed (by (with_reducible repeat (first | apply Kd.R_alloc | apply Kd.R_drewN | apply Kd.R_drew)); exact HO407.out)) (by decide) hg)
                          have n5_ := Aside0.mk (blk_grown (g := gb339) (o := (bx33 l0 x6_1 A338_6 c338_6)) (by (with_reducible repeat (first | refine blk_drewN ?_ _ | refine blk_drew ?_ | refine blk_alloc ?_ _)); exact BK339.out) hg (Kd.R_ne HO407.out BK339.out (by decide)))
                          have n6_ := Aside0.mk (blk_grown (g := gb367) (o := (bx31 0 (wrap64 (x5_1 + 1)) none 0 0)) (by (with_reducible repeat (first | refine blk_drewN ?_ _ | refine blk_drew ?_ | refine blk_alloc ?_ _)); exact BK367.out) hg (Kd.R_ne HO407.out BK367.out (by decide)))
                          have n7_ := Aside0.mk (blk_grown (g := gb379) (o := (bx31 t372 t373 Ao76 t374.length co76)) (by (with_reducible repeat (first | refine blk_drewN ?_ _ | refine blk_drew ?_ | refine blk_alloc ?_ _)); exact BK379.out) hg (Kd.R_ne HO407.out BK379.out (by decide)))
                          have n8_ := Aside0.mk (blk_grown (g := gb387) (o := (bx31 t380 t381 Ao83 t382.length co83)) (by (with_reducible repeat (first | refine blk_drewN ?_ _ | refine blk_drew ?_ | refine blk_alloc ?_ _)); exact BK387.out) hg (Kd.R_ne HO407.out BK387.out (by decide)))
                          have n9_ := Aside0.mk (blk_grown (g := gb395) (o := (bx31 t388 t389 Ao91 t390.length co91)) (by (with_reducible repeat (first | refine blk_drewN ?_ _ | refine blk_drew ?_ | refine blk_alloc ?_ _)); exact BK395.out) hg (Kd.R_ne HO407.out BK395.out (by decide)))
                          have n10_ := Aside0.mk (Kd.R_after (ok := (fun k_ => some k_ ≠ (.slice (some ad366) x4_1.length co64 : Value).ownBlock)) (by (with_reducible repeat (first | apply Kd.R_alloc | apply Kd.R_drewN | apply Kd.R_drew)); exact Kd.R_mono HO417.out (fun _ hk => ⟨hk.1.2, hk.2⟩)) hg hat)
                          have n11_ := Aside0.mk (hb)
                          have n12_ := Aside0.mk ((show Kd.C (Kd.int .i64) w163 (some ad366) y401.length y401 from by rw [Ny401.out]; exact Kd.C_take (m := (t365 : Int).toNat) ((Kd.Q_reads' (Kd.Q_after (ok := (fun k_ => some k_ ≠ (v416 : Value).ownBlock)) (by (with_reducible repeat (first | apply Kd.Q_alloc | apply Kd.Q_drewN | apply Kd.Q_drew)); exact Kd.Q_mono HO_4.out (fun _ hk => ⟨hk.1.2, hk.2⟩)) hg hat)).2.2) KL158.out))
                          have n13_ := Aside0.mk ((show Kd.C (Kd.int .i64) w163 A159 y408.length y408 from by rw [Ny408.out, KA159.out]; exact Kd.C_drop (m := ((ji147) : Int).toNat) (c := co64) ((Kd.Q_reads' (Kd.Q_after (ok := (fun k_ => some k_ ≠ (v416 : Value).ownBlock)) (by (with_reducible repeat (first | apply Kd.Q_alloc | apply Kd.Q_drewN | apply Kd.Q_drew)); exact Kd.Q_mono HO_4.out (fun _ hk => ⟨hk.1.2, hk.2⟩)) hg hat)).2.2) KL159.out ((Kd.Q_reads' (Kd.Q_after (ok := (fun k_ => some k_ ≠ (v416 : Value).ownBlock)) (by (with_reducible repeat (first | apply Kd.Q_alloc | apply Kd.Q_drewN | apply Kd.Q_drew)); exact Kd.Q_mono HO_4.out (fun _ hk => ⟨hk.1.2, hk.2⟩)) hg hat)).2.1)))
                          have n14_ := Aside0.mk (ho)
                          clear HO_4
                          clear HO_16
                          clear HO_380002
                          clear HO_388002
                          clear HO_396002
                          clear BK339
                          clear BK367
                          clear BK379
                          clear BK387
                          clear BK395
                          clear HO417
                          clear HB
                          clear HR404
                          clear HR411
                          clear HO407
                          have HO_4 := n0_
                          have HO_16 := n1_
                          have HO_380002 := n2_
                          have HO_388002 := n3_
                          have HO_396002 := n4_
                          have BK339 := n5_
                          have BK367 := n6_
                          have BK379 := n7_
                          have BK387 := n8_
                          have BK395 := n9_
                          have HO417 := n10_
                          have HB := n11_
                          have HR404 := n12_
                          have HR411 := n13_
                          have HO414 := n14_
                          clear n0_ n1_ n2_ n3_ n4_ n5_ n6_ n7_ n8_ n9_ n10_ n11_ n12_ n13_ n14_
                          clear ho hb hg hat
                          refine hK.out _ _ trivial (fun hHeld => ?_)
                          clear hK K
                          refine norm_ (a' := ?_) ?_ ?_
                          rotate_left
                          ·show Act.put _ (some 168) _ = _
                           simp only [Act.put, sA, sB, sC, i64_w, i32_w]
                           rfl
                          exact norm_ (by simp only [putAll, Act.put, List.setIfInBounds_toArray, List.set_cons_zero, List.set_cons_succ]) (hCont (v406, v413, v416) _ ⟨(by (with_reducible repeat (first | apply Kd.R_alloc | apply Kd.R_drewN | apply Kd.R_drew)); exact Kd.R_mono HO414.out (fun _ hk => ⟨hk.2, hk.1⟩)), (by (with_reducible repeat (first | apply Kd.R_alloc | apply Kd.R_drewN | apply Kd.R_drew)); exact Kd.R_mono HO417.out (fun _ hk => ⟨hk.2, hk.1⟩)), (by (with_reducible repeat (first | apply Kd.S_alloc | apply Kd.S_drewN | apply Kd.S_drew)); exact HO_16.out), (by (with_reducible repeat (first | apply Kd.R_alloc | apply Kd.R_drewN | apply Kd.R_drew)); exact HO_380002.out), (by (with_reducible repeat (first | apply Kd.R_alloc | apply Kd.R_drewN | apply Kd.R_drew)); exact HO_388002.out), (by (with_reducible repeat (first | apply Kd.R_alloc | apply Kd.R_drewN | apply Kd.R_drew)); exact HO_396002.out), (by (with_reducible repeat (first | apply Kd.Q_alloc | apply Kd.Q_drewN | apply Kd.Q_drew)); exact Kd.Q_mono HO_4.out (fun _ hk => ⟨hk.2, hk.1⟩)), (by (with_reducible repeat (first | refine blk_drewN ?_ _ | refine blk_drew ?_ | refine blk_alloc ?_ _)); exact BK339.out), (by (with_reducible repeat (first | refine blk_drewN ?_ _ | refine blk_drew ?_ | refine blk_alloc ?_ _)); exact BK367.out), (by (with_reducible repeat (first | refine blk_drewN ?_ _ | refine blk_drew ?_ | refine blk_alloc ?_ _)); exact BK379.out), (by (with_reducible repeat (first | refine blk_drewN ?_ _ | refine blk_drew ?_ | refine blk_alloc ?_ _)); exact BK387.out), (by (with_reducible repeat (first | refine blk_drewN ?_ _ | refine blk_drew ?_ | refine blk_alloc ?_ _)); exact BK395.out), (by repeat (first | (with_reducible first | exact HB.out | apply below_alloc | apply pw_below_drewN | apply below_drew1 | refine below_set ?_ GE339.out | refine below_set ?_ GE367.out | refine below_set ?_ GE379.out | refine below_set ?_ GE387.out | refine below_set ?_ GE395.out) | exact HB.out))⟩)
                        rintro ⟨v406, v413, v416⟩ w164 ⟨h0_, h1_, h2_, h3_, h4_, h5_, h6_, h7_, h8_, h9_, h10_, h11_, h12_⟩
                        have n0_ : Aside0 (Kd.R (Kd.int .i64) 3 w164 w.heap.size (fun k_ => some k_ ≠ (v416 : Value).ownBlock ∧ some k_ ≠ (.slice (some ad366) x4_1.length co64 : Value).ownBlock) v413 y412) := ⟨h0_⟩
                        have n1_ : Aside0 (Kd.R (Kd.int .i64) 3 w164 w.heap.size (fun k_ => some k_ ≠ (v413 : Value).ownBlock ∧ some k_ ≠ (.slice (some ad366) x4_1.length co64 : Value).ownBlock) v416 y415) := ⟨h1_⟩
                        have n2_ : Aside0 (Kd.S k88 88 w164 w.heap.size (fun k_ => some k_ ≠ (.slice Ao76 t374.length co76 : Value).ownBlock ∧ some k_ ≠ (.slice Ao83 t382.length co83 : Value).ownBlock ∧ some k_ ≠ (.slice Ao91 t390.length co91 : Value).ownBlock) (.slice Ao70 t368.length co70) t368) := ⟨h2_⟩
                        have n3_ : Aside0 (Kd.R k116 116 w164 w.heap.size (fun k_ => some k_ ≠ (.slice Ao83 t382.length co83 : Value).ownBlock ∧ some k_ ≠ (.slice Ao91 t390.length co91 : Value).ownBlock) (.slice Ao76 t374.length co76) t374) := ⟨h3_⟩
                        have n4_ : Aside0 (Kd.R k116 116 w164 w.heap.size (fun k_ => some k_ ≠ (.slice Ao76 t374.length co76 : Value).ownBlock ∧ some k_ ≠ (.slice Ao91 t390.length co91 : Value).ownBlock) (.slice Ao83 t382.length co83) t382) := ⟨h4_⟩
                        have n5_ : Aside0 (Kd.R k116 116 w164 w.heap.size (fun k_ => some k_ ≠ (.slice Ao76 t374.length co76 : Value).ownBlock ∧ some k_ ≠ (.slice Ao83 t382.length co83 : Value).ownBlock) (.slice Ao91 t390.length co91) t390) := ⟨h5_⟩
                        have n6_ : Aside0 (Kd.Q (Kd.int .i64) 3 w164 w.heap.size (fun k_ => some k_ ≠ (v413 : Value).ownBlock ∧ some k_ ≠ (v416 : Value).ownBlock) (.slice (some ad366) x4_1.length co64) x4_1) := ⟨h6_⟩
                        have n7_ : Aside0 (w164.heap[gb339]? = some ((bx33 l0 x6_1 A338_6 c338_6))) := ⟨h7_⟩
                        have n8_ : Aside0 (w164.heap[gb367]? = some ((bx31 0 (wrap64 (x5_1 + 1)) none 0 0))) := ⟨h8_⟩
                        have n9_ : Aside0 (w164.heap[gb379]? = some ((bx31 t372 t373 Ao76 t374.length co76))) := ⟨h9_⟩
                        have n10_ : Aside0 (w164.heap[gb387]? = some ((bx31 t380 t381 Ao83 t382.length co83))) := ⟨h10_⟩
                        have n11_ : Aside0 (w164.heap[gb395]? = some ((bx31 t388 t389 Ao91 t390.length co91))) := ⟨h11_⟩
                        have n12_ : Aside0 (Below w.heap.size w w164) := ⟨h12_⟩
                        clear HO_4
                        clear HO_16
                        clear HO_380002
                        clear HO_388002
                        clear HO_396002
                        clear BK339
                        clear BK367
                        clear BK379
                        clear BK387
                        clear BK395
                        clear HB
                        clear h0_ h1_ h2_ h3_ h4_ h5_ h6_ h7_ h8_ h9_ h10_ h11_ h12_
                        have HO414 := n0_
                        have HO417 := n1_
                        have HO_16 := n2_
                        have HO_380002 := n3_
                        have HO_388002 := n4_
                        have HO_396002 := n5_
                        have HO_4 := n6_
                        have BK339 := n7_
                        have BK367 := n8_
                        have BK379 := n9_
                        have BK387 := n10_
                        have BK395 := n11_
                        have HB := n12_
                        clear n0_ n1_ n2_ n3_ n4_ n5_ n6_ n7_ n8_ n9_ n10_ n11_ n12_
                        have hHeld := trivial
                        obtain ⟨Ao166, co166, eo166⟩ := Kd.R_slice HO417.out
                        (first | subst eo166 | (injection eo166 with f1_ f2_ f3_; have f4_ := f1_.symm; have f5_ := f3_.symm; clear f1_ f2_ f3_; subst f4_; subst f5_))
                        refine norm_ (a' := ?_) ?_ ?_
                        rotate_left
                        ·simp only [putAll, Act.put, List.setIfInBounds_toArray, List.set_cons_zero, List.set_cons_succ]
                         rfl
                        refine one_ (i := 11) (N := some 171) #[true, true, true, true, true, true, true, true, true, true, true, true, false] rfl rfl (one_of HT_.out (by kernel_rfl)) (by decide) (fun K hK => ?_)
                        refine Kd.R_append_rows_step (Kd.int .i64) (w0 := w) w.heap.size (by rfl) (.tmp 168) (.tmp 170) 42 3 (.int .i64 0) 8 rfl Try.underlying42 info3 rfl (by decide) (by omega) v413 y412 y415 _ _ _ (fun k_ => some k_ ≠ (.slice (some ad366) x4_1.length co64 : Value).ownBlock ∧ some k_ ≠ (.slice Ao166 y415.length co166 : Value).ownBlock) (fun _ => False) rfl rfl ?aO ?aR (fun _ _ h => h) (fun _ h => h.elim) ?aF ?aB ?aS ?aL ?_
                        (case aR => repeat (first | exact (Kd.R_reads' HO417.out).2.2 | (with_reducible refine Kd.C_alloc ?_ _) | (with_reducible refine Kd.C_drewN ?_ _) | (with_reducible refine Kd.C_drew ?_)))
                        (case aB => exact (by repeat (first | (with_reducible first | exact HB.out | apply below_alloc | apply pw_below_drewN | apply below_drew1 | refine below_set ?_ GE339.out | refine below_set ?_ GE367.out | refine below_set ?_ GE379.out | refine below_set ?_ GE387.out | refine below_set ?_ GE395.out) | exact HB.out)))
                        (case aF => exact (fun k_ hk => ⟨Kd.fresh' (Kd.Q_lt (by (with_reducible repeat (first | apply Kd.Q_alloc | apply Kd.Q_drewN | apply Kd.Q_drew)); exact HO_4.out)) k_ hk, Kd.fresh' (Kd.R_lt (by (with_reducible repeat (first | apply Kd.R_alloc | apply Kd.R_drewN | apply Kd.R_drew)); exact HO417.out)) k_ hk⟩))
                        (case aO => exact (by (with_reducible repeat (first | apply Kd.R_alloc | apply Kd.R_drewN | apply Kd.R_drew)); exact Kd.R_mono HO414.out (fun _ hk => ⟨hk.2, hk.1⟩)))
                        (case aS => exact (below_size (by repeat (first | (with_reducible first | exact HB.out | apply below_alloc | apply pw_below_drewN | apply below_drew1 | refine below_set ?_ GE339.out | refine below_set ?_ GE367.out | refine below_set ?_ GE379.out | refine below_set ?_ GE387.out | refine below_set ?_ GE395.out) | exact HB.out))))
                        (case aL => have := LMc151.out; omega)
                        intro v419 w165 ho hb hg hat
                        rw [← Ny418.out] at ho
                        have n0_ := Aside0.mk (Kd.Q_after (ok := (fun k_ => some k_ ≠ (.slice Ao166 y415.length co166 : Value).ownBlock)) (by (with_reducible repeat (first | apply Kd.Q_alloc | apply Kd.Q_drewN | apply Kd.Q_drew)); exact Kd.Q_mono HO_4.out (fun _ hk => ⟨hk.2, hk.1⟩)) hg hat)
                        have n1_ := Aside0.mk (Kd.S_over' (by (with_reducible repeat (first | apply Kd.S_alloc | apply Kd.S_drewN | apply Kd.S_drew)); exact HO_16.out) (Kd.R_typed (by (with_reducible repeat (first | apply Kd.R_alloc | apply Kd.R_drewN | apply Kd.R_drew)); exact HO414.out)) (by decide) hg)
                        have n2_ := Aside0.mk (Kd.R_over' (by (with_reducible repeat (first | apply Kd.R_alloc | apply Kd.R_drewN | apply Kd.R_drew)); exact HO_380002.out) (Kd.R_typed (by (with_reducible repeat (first | apply Kd.R_alloc | apply Kd.R_drewN | apply Kd.R_drew)); exact HO414.out)) (by decide) hg)
                        have n3_ := Aside0.mk (Kd.R_over' (by (with_reducible repeat (first | apply Kd.R_alloc | apply Kd.R_drewN | apply Kd.R_drew)); exact HO_388002.out) (Kd.R_typed (by (with_reducible repeat (first | apply Kd.R_alloc | apply Kd.R_drewN | apply Kd.R_drew)); exact HO414.out)) (by decide) hg)
                        have n4_ := Aside0.mk (Kd.R_over' (by (with_reducible repeat (first | apply Kd.R_alloc | apply Kd.R_drewN | apply Kd.R_drew)); exact HO_396002.out) (Kd.R_typed (by (with_reducible repeat (first | apply Kd.R_alloc | apply Kd.R_drewN | apply Kd.R_drew)); exact HO414.out)) (by decide) hg)
                        have n5_ := Aside0.mk (blk_grown (g := gb339) (o := (bx33 l0 x6_1 A338_6 c338_6)) (by (with_reducible repeat (first | refine blk_drewN ?_ _ | refine blk_drew ?_ | refine blk_alloc ?_ _)); exact BK339.out) hg (Kd.R_ne HO414.out BK339.out (by decide)))
                        have n6_ := Aside0.mk (blk_grown (g := gb367) (o := (bx31 0 (wrap64 (x5_1 + 1)) none 0 0)) (by (with_reducible repeat (first | refine blk_drewN ?_ _ | refine blk_drew ?_ | refine blk_alloc ?_ _)); exact BK367.out) hg (Kd.R_ne HO414.out BK367.out (by decide)))
                        have n7_ := Aside0.mk (blk_grown (g := gb379) (o := (bx31 t372 t373 Ao76 t374.length co76)) (by (with_reducible repeat (first | refine blk_drewN ?_ _ | refine blk_drew ?_ | refine blk_alloc ?_ _)); exact BK379.out) hg (Kd.R_ne HO414.out BK379.out (by decide)))
                        have n8_ := Aside0.mk (blk_grown (g := gb387) (o := (bx31 t380 t381 Ao83 t382.length co83)) (by (with_reducible repeat (first | refine blk_drewN ?_ _ | refine blk_drew ?_ | refine blk_alloc ?_ _)); exact BK387.out) hg (Kd.R_ne HO414.out BK387.out (by decide)))
                        have n9_ := Aside0.mk (blk_grown (g := gb395) (o := (bx31 t388 t389 Ao91 t390.length co91)) (by (with_reducible repeat (first | refine blk_drewN ?_ _ | refine blk_drew ?_ | refine blk_alloc ?_ _)); exact BK395.out) hg (Kd.R_ne HO414.out BK395.out (by decide)))
                        have n10_ := Aside0.mk (Kd.R_after (ok := (fun k_ => some k_ ≠ (.slice (some ad366) x4_1.length co64 : Value).ownBlock)) (by (with_reducible repeat (first | apply Kd.R_alloc | apply Kd.R_drewN | apply Kd.R_drew)); exact Kd.R_mono HO417.out (fun _ hk => ⟨hk.2, hk.1⟩)) hg hat)
                        have n11_ := Aside0.mk (hb)
                        have n12_ := Aside0.mk (ho)
                        clear HO_4
                        clear HO_16
                        clear HO_380002
                        clear HO_388002
                        clear HO_396002
                        clear BK339
                        clear BK367
                        clear BK379
                        clear BK387
                        clear BK395
                        clear HO417
                        clear HB
                        clear HO414
                        have HO_4 := n0_
                        have HO_16 := n1_
                        have HO_380002 := n2_
                        have HO_388002 := n3_
                        have HO_396002 := n4_
                        have BK339 := n5_
                        have BK367 := n6_
                        have BK379 := n7_
                        have BK387 := n8_
                        have BK395 := n9_
                        have HO417 := n10_
                        have HB := n11_
                        have HO420 := n12_
                        clear n0_ n1_ n2_ n3_ n4_ n5_ n6_ n7_ n8_ n9_ n10_ n11_ n12_
                        clear ho hb hg hat
                        refine hK.out _ _ trivial (fun hHeld => ?_)
                        clear hK K
                        refine norm_ (a' := ?_) ?_ ?_
                        rotate_left
                        ·show Act.put _ (some 171) _ = _
                         simp only [Act.put, sA, sB, sC, i64_w, i32_w]
                         rfl
                        refine pure_ (i := 12) (N := some 4) (v := ?_) (a' := ?_) #[true, true, true, true, true, true, true, true, true, true, true, true, true] rfl rfl (any_of HT_.out (by kernel_rfl)) (fun _ _ _ h => h) (Or.inl ⟨by rfl, ?_⟩) ?_ ?_
                        rotate_left
                        ·intro w'
                         go_simp
                         with_reducible rfl
                        rotate_left
                        ·simp only [Act.put, sA, sB, sC, i64_w, i32_w]
                         rfl
                        refine done_ (done_of HT_.out (by kernel_rfl)) ?_
                        have hnb167 := NB339_367.out
                        have hnc167 := NB367_339.out
                        have hnb168 := NB339_379.out
                        have hnc168 := NB379_339.out
                        have hnb169 := NB339_387.out
                        have hnc169 := NB387_339.out
                        have hnb170 := NB339_395.out
                        have hnc170 := NB395_339.out
                        have hcz171_0 : w165.cell? ⟨gb339, 0, none⟩ = some (.int .i64 ((rd_T33 l0 x6_1).f0)) := (blk_cell BK339.out 0).trans rfl
                        have hcz171_1 : w165.cell? ⟨gb339, 1, none⟩ = some (.int .i64 ((rd_T33 l0 x6_1).f1)) := (blk_cell BK339.out 1).trans rfl
                        have hcz171_2 : w165.cell? ⟨gb339, 2, none⟩ = some (.int .i64 ((rd_T33 l0 x6_1).f2)) := (blk_cell BK339.out 2).trans rfl
                        have hcz171_3 : w165.cell? ⟨gb339, 3, none⟩ = some (.int .i64 ((rd_T33 l0 x6_1).f3)) := (blk_cell BK339.out 3).trans rfl
                        have hcz171_4 : w165.cell? ⟨gb339, 4, none⟩ = some (.int .i64 ((rd_T33 l0 x6_1).f4.f0)) := (blk_cell BK339.out 4).trans rfl
                        have hcz171_5 : w165.cell? ⟨gb339, 5, none⟩ = some (.int .i64 ((rd_T33 l0 x6_1).f4.f1)) := (blk_cell BK339.out 5).trans rfl
                        have hcz171_6 : w165.cell? ⟨gb339, 6, none⟩ = some (.slice A338_6 ((rd_T33 l0 x6_1).f4.f2).length c338_6) := (blk_cell BK339.out 6).trans rfl
                        have hfz171_0 := blk_frozen BK339.out 0
                        have hfz171_1 := blk_frozen BK339.out 1
                        have hfz171_2 := blk_frozen BK339.out 2
                        have hfz171_3 := blk_frozen BK339.out 3
                        have hfz171_4 := blk_frozen BK339.out 4
                        have hfz171_5 := blk_frozen BK339.out 5
                        have hfz171_6 := blk_frozen BK339.out 6
                        have H := HCQ.out
                        clear HCQ
                        by_cases c153 : t421 = 0
                        ·as_aux_lemma =>
                          rw [if_pos c153] at H
                          have c153b0 : (t421 == 0) = true := beq_iff_eq.mpr c153
                          have c153b1 : (t421 != 0) = false := bne_eq_false_iff_eq.mpr c153
                          clear c153
                          replace H := Option.bind_eq_some_iff.mp H
                          obtain ⟨⟨t422, t423⟩, A1540, H⟩ := H
                          replace H : ((session_Begin.f kj61 t422 (rd x4_1 t365) (wrap64 ((wrap64 (x5_1 + 1)) + 1))).bind fun bt426 => ((lecternlaw14_num.f t423).bind fun t433 => (if t433 = 0 then ((lecternlaw14_num.f bt426.2.2.2.2).bind fun t434 => (lawOnce.j4 kj61 l0 y418 (wrap64 (x5_1 + 1)) x6_1 t422 (t434 != 9))) else (none)))) = some r := H
                          have A154 := Aside0.mk A1540
                          clear A1540
                          replace H := Option.bind_eq_some_iff.mp H
                          obtain ⟨⟨t426, t427, t428, t431, t432⟩, A1550, H⟩ := H
                          replace H : ((lecternlaw14_num.f t423).bind fun t433 => (if t433 = 0 then ((lecternlaw14_num.f t432).bind fun t434 => (lawOnce.j4 kj61 l0 y418 (wrap64 (x5_1 + 1)) x6_1 t422 (t434 != 9))) else (none))) = some r := H
                          have A155 := Aside0.mk A1550
                          clear A1550
                          have HC156 := Aside0.mk H
                          clear H
                          go_upto_region 34 with (first | ((with_reducible refine gate_callee (f := 21) rfl ?_); refine goesL_ (some 175) rfl rfl Try.func21 (by kernel_rfl) rfl #[.int .i64 ((rd_T33 l0 x6_1).f2), .int .i64 5] rfl (by (try simp only [List.map_toArray, List.map_cons, List.map_nil]); first | done | rfl | (simp only [List.length_drop, List.length_take]; rfl)) ?_; (with_reducible refine (lecternlaw0_Within.calls ((rd_T33 l0 x6_1).f2) 5 t421 _ A152.out).mono ?_); rintro e w' ⟨rfl, ⟨nd, rfl⟩⟩; refine ⟨_, rfl, ?_⟩) | ((with_reducible refine gate_callee (f := 25) rfl ?_); refine goesL_ (some 180) rfl rfl Try.func25 (by kernel_rfl) rfl #[.slice Ao70 t368.length co70, .int .i64 (rd x4_1 t365)] rfl (by (try simp only [List.map_toArray, List.map_cons, List.map_nil]); first | done | rfl | (simp only [List.length_drop, List.length_take]; rfl)) ?_; (with_reducible refine (session_Close.calls kj61 _ _ t368 (rd x4_1 t365) t422 t423 _ ?side1 ?side2 A154.out).mono ?_); (case side1 => repeat (first | exact (Kd.S_reads' HO_16.out).2.2 | (with_reducible refine Kd.C_alloc ?_ _) | (with_reducible refine Kd.C_drewN ?_ _) | (with_reducible refine Kd.C_drew ?_))); (case side2 => exact (Kd.S_reads' HO_16.out).2.1); rintro e w172 ⟨v424, rfl, ho0, hb⟩; refine ⟨_, rfl, ?_⟩; have n0_ := Aside0.mk (Kd.Q_below (by (with_reducible repeat (first | apply Kd.Q_alloc | apply Kd.Q_drewN | apply Kd.Q_drew)); exact HO_4.out) hb); have n1_ := Aside0.mk (Kd.S_elder' (by (with_reducible repeat (first | apply Kd.S_alloc | apply Kd.S_drewN | apply Kd.S_drew)); exact HO_16.out) (Kd.S_base ho0) hb); have n2_ := Aside0.mk (Kd.R_below (by (with_reducible repeat (first | apply Kd.R_alloc | apply Kd.R_drewN | apply Kd.R_drew)); exact HO_380002.out) hb); have n3_ := Aside0.mk (Kd.R_below (by (with_reducible repeat (first | apply Kd.R_alloc | apply Kd.R_drewN | apply Kd.R_drew)); exact HO_388002.out) hb); have n4_ := Aside0.mk (Kd.R_below (by (with_reducible repeat (first | apply Kd.R_alloc | apply Kd.R_drewN | apply Kd.R_drew)); exact HO_396002.out) hb); have n5_ := Aside0.mk (Kd.R_below (by (with_reducible repeat (first | apply Kd.R_alloc | apply Kd.R_drewN | apply Kd.R_drew)); exact HO417.out) hb); have n6_ := Aside0.mk (Kd.R_below (by (with_reducible repeat (first | apply Kd.R_alloc | apply Kd.R_drewN | apply Kd.R_drew)); exact HO420.out) hb); have n7_ := Aside0.mk (Kd.S_lower (Kd.S_new' (Kd.S_new' (Kd.S_new' (Kd.S_new' ho0 (Kd.S_lt (by (with_reducible repeat (first | apply Kd.S_alloc | apply Kd.S_drewN | apply Kd.S_drew)); exact HO_16.out))) (Kd.R_lt (by (with_reducible repeat (first | apply Kd.R_alloc | apply Kd.R_drewN | apply Kd.R_drew)); exact HO_380002.out))) (Kd.R_lt (by (with_reducible repeat (first | apply Kd.R_alloc | apply Kd.R_drewN | apply Kd.R_drew)); exact HO_388002.out))) (Kd.R_lt (by (with_reducible repeat (first | apply Kd.R_alloc | apply Kd.R_drewN | apply Kd.R_drew)); exact HO_396002.out))) (below_size (by repeat (first | (with_reducible first | exact HB.out | apply below_alloc | apply pw_below_drewN | apply below_drew1 | refine below_set ?_ GE339.out | refine below_set ?_ GE367.out | refine below_set ?_ GE379.out | refine below_set ?_ GE387.out | refine below_set ?_ GE395.out) | exact HB.out)))); have n8_ := Aside0.mk (blk_below (g := gb339) (o := (bx33 l0 x6_1 A338_6 c338_6)) (by (with_reducible repeat (first | refine blk_drewN ?_ _ | refine blk_drew ?_ | refine blk_alloc ?_ _)); exact BK339.out) hb); have n9_ := Aside0.mk (blk_below (g := gb367) (o := (bx31 0 (wrap64 (x5_1 + 1)) none 0 0)) (by (with_reducible repeat (first | refine blk_drewN ?_ _ | refine blk_drew ?_ | refine blk_alloc ?_ _)); exact BK367.out) hb); have n10_ := Aside0.mk (blk_below (g := gb379) (o := (bx31 t372 t373 Ao76 t374.length co76)) (by (with_reducible repeat (first | refine blk_drewN ?_ _ | refine blk_drew ?_ | refine blk_alloc ?_ _)); exact BK379.out) hb); have n11_ := Aside0.mk (blk_below (g := gb387) (o := (bx31 t380 t381 Ao83 t382.length co83)) (by (with_reducible repeat (first | refine blk_drewN ?_ _ | refine blk_drew ?_ | refine blk_alloc ?_ _)); exact BK387.out) hb); have n12_ := Aside0.mk (blk_below (g := gb395) (o := (bx31 t388 t389 Ao91 t390.length co91)) (by (with_reducible repeat (first | refine blk_drewN ?_ _ | refine blk_drew ?_ | refine blk_alloc ?_ _)); exact BK395.out) hb); have n13_ := Aside0.mk (below_step (by repeat (first | (with_reducible first | exact HB.out | apply below_alloc | apply pw_below_drewN | apply below_drew1 | refine below_set ?_ GE339.out | refine below_set ?_ GE367.out | refine below_set ?_ GE379.out | refine below_set ?_ GE387.out | refine below_set ?_ GE395.out) | exact HB.out)) hb); clear HO_4; clear HO_16; clear HO_380002; clear HO_388002; clear HO_396002; clear HO417; clear HO420; clear BK339; clear BK367; clear BK379; clear BK387; clear BK395; clear HB; have HO_4 := n0_; have HO_16 := n1_; have HO_380002 := n2_; have HO_388002 := n3_; have HO_396002 := n4_; have HO417 := n5_; have HO420 := n6_; have HO425 := n7_; have BK339 := n8_; have BK367 := n9_; have BK379 := n10_; have BK387 := n11_; have BK395 := n12_; have HB := n13_; clear n0_ n1_ n2_ n3_ n4_ n5_ n6_ n7_ n8_ n9_ n10_ n11_ n12_ n13_; (try clear hb); (try clear hb2); (try clear hk); (try clear hi); (try clear ho0); obtain ⟨Ao173, co173, eo173⟩ := Kd.S_slice HO425.out; subst eo173) | ((with_reducible refine gate_callee (f := 15) rfl ?_); refine goesL_ (some 188) rfl rfl Try.func15 (by kernel_rfl) rfl #[.slice Ao173 t422.length co173, .int .i64 (rd x4_1 t365), .int .i64 (wrap64 ((wrap64 (x5_1 + 1)) + 1))] rfl (by (try simp only [List.map_toArray, List.map_cons, List.map_nil]); first | done | rfl | (simp only [List.length_drop, List.length_take]; rfl)) ?_; (with_reducible refine (session_Begin.calls kj61 _ _ t422 (rd x4_1 t365) (wrap64 ((wrap64 (x5_1 + 1)) + 1)) t426 t427 t428 t431 t432 _ ?side1 ?side2 A155.out).mono ?_); (case side1 => repeat (first | exact (Kd.S_reads' HO425.out).2.2 | (with_reducible refine Kd.C_alloc ?_ _) | (with_reducible refine Kd.C_drewN ?_ _) | (with_reducible refine Kd.C_drew ?_))); (case side2 => exact (Kd.S_reads' HO425.out).2.1); rintro e w174 ⟨v429, rfl, ho0, hb⟩; refine ⟨_, rfl, ?_⟩; have n0_ := Aside0.mk (Kd.Q_below (by (with_reducible repeat (first | apply Kd.Q_alloc | apply Kd.Q_drewN | apply Kd.Q_drew)); exact HO_4.out) hb); have n1_ := Aside0.mk (Kd.S_elder' (by (with_reducible repeat (first | apply Kd.S_alloc | apply Kd.S_drewN | apply Kd.S_drew)); exact HO_16.out) (Kd.R_base ho0) hb); have n2_ := Aside0.mk (Kd.R_elder' (by (with_reducible repeat (first | apply Kd.R_alloc | apply Kd.R_drewN | apply Kd.R_drew)); exact HO_380002.out) (Kd.R_base ho0) hb); have n3_ := Aside0.mk (Kd.R_elder' (by (with_reducible repeat (first | apply Kd.R_alloc | apply Kd.R_drewN | apply Kd.R_drew)); exact HO_388002.out) (Kd.R_base ho0) hb); have n4_ := Aside0.mk (Kd.R_elder' (by (with_reducible repeat (first | apply Kd.R_alloc | apply Kd.R_drewN | apply Kd.R_drew)); exact HO_396002.out) (Kd.R_base ho0) hb); have n5_ := Aside0.mk (Kd.R_below (by (with_reducible repeat (first | apply Kd.R_alloc | apply Kd.R_drewN | apply Kd.R_drew)); exact HO417.out) hb); have n6_ := Aside0.mk (Kd.R_below (by (with_reducible repeat (first | apply Kd.R_alloc | apply Kd.R_drewN | apply Kd.R_drew)); exact HO420.out) hb); have n7_ := Aside0.mk (Kd.S_elder' (by (with_reducible repeat (first | apply Kd.S_alloc | apply Kd.S_drewN | apply Kd.S_drew)); exact HO425.out) (Kd.R_base ho0) hb); have n8_ := Aside0.mk (Kd.R_lower (Kd.R_new' (Kd.R_new' (Kd.R_new' ho0 (Kd.R_lt (by (with_reducible repeat (first | apply Kd.R_alloc | apply Kd.R_drewN | apply Kd.R_drew)); exact HO_380002.out))) (Kd.R_lt (by (with_reducible repeat (first | apply Kd.R_alloc | apply Kd.R_drewN | apply Kd.R_drew)); exact HO_388002.out))) (Kd.R_lt (by (with_reducible repeat (first | apply Kd.R_alloc | apply Kd.R_drewN | apply Kd.R_drew)); exact HO_396002.out))) (below_size (by repeat (first | (with_reducible first | exact HB.out | apply below_alloc | apply pw_below_drewN | apply below_drew1 | refine below_set ?_ GE339.out | refine below_set ?_ GE367.out | refine below_set ?_ GE379.out | refine below_set ?_ GE387.out | refine below_set ?_ GE395.out) | exact HB.out)))); have n9_ := Aside0.mk (blk_below (g := gb339) (o := (bx33 l0 x6_1 A338_6 c338_6)) (by (with_reducible repeat (first | refine blk_drewN ?_ _ | refine blk_drew ?_ | refine blk_alloc ?_ _)); exact BK339.out) hb); have n10_ := Aside0.mk (blk_below (g := gb367) (o := (bx31 0 (wrap64 (x5_1 + 1)) none 0 0)) (by (with_reducible repeat (first | refine blk_drewN ?_ _ | refine blk_drew ?_ | refine blk_alloc ?_ _)); exact BK367.out) hb); have n11_ := Aside0.mk (blk_below (g := gb379) (o := (bx31 t372 t373 Ao76 t374.length co76)) (by (with_reducible repeat (first | refine blk_drewN ?_ _ | refine blk_drew ?_ | refine blk_alloc ?_ _)); exact BK379.out) hb); have n12_ := Aside0.mk (blk_below (g := gb387) (o := (bx31 t380 t381 Ao83 t382.length co83)) (by (with_reducible repeat (first | refine blk_drewN ?_ _ | refine blk_drew ?_ | refine blk_alloc ?_ _)); exact BK387.out) hb); have n13_ := Aside0.mk (blk_below (g := gb395) (o := (bx31 t388 t389 Ao91 t390.length co91)) (by (with_reducible repeat (first | refine blk_drewN ?_ _ | refine blk_drew ?_ | refine blk_alloc ?_ _)); exact BK395.out) hb); have n14_ := Aside0.mk (below_step (by repeat (first | (with_reducible first | exact HB.out | apply below_alloc | apply pw_below_drewN | apply below_drew1 | refine below_set ?_ GE339.out | refine below_set ?_ GE367.out | refine below_set ?_ GE379.out | refine below_set ?_ GE387.out | refine below_set ?_ GE395.out) | exact HB.out)) hb); clear HO_4; clear HO_16; clear HO_380002; clear HO_388002; clear HO_396002; clear HO417; clear HO420; clear HO425; clear BK339; clear BK367; clear BK379; clear BK387; clear BK395; clear HB; have HO_4 := n0_; have HO_16 := n1_; have HO_380002 := n2_; have HO_388002 := n3_; have HO_396002 := n4_; have HO417 := n5_; have HO420 := n6_; have HO425 := n7_; have HO430 := n8_; have BK339 := n9_; have BK367 := n10_; have BK379 := n11_; have BK387 := n12_; have BK395 := n13_; have HB := n14_; clear n0_ n1_ n2_ n3_ n4_ n5_ n6_ n7_ n8_ n9_ n10_ n11_ n12_ n13_ n14_; (try clear hb); (try clear hb2); (try clear hk); (try clear hi); (try clear ho0)))
                          (try simp only [Act.put, List.setIfInBounds_toArray, List.set_cons_zero, List.set_cons_succ])
                          go_cut [199] (fun v199 wc => ∃ (kq : Nat) (x199_155 : Bool), v199 = .bool x199_155 ∧ Aside0 (lawOnce.j4 kq l0 y418 (wrap64 (x5_1 + 1)) x6_1 t422 x199_155 = some r) ∧ Aside0 (kq ≤ kj61) ∧ Aside0 (Kd.Q (Kd.int .i64) 3 wc w.heap.size (fun _ => True) v419 y418) ∧ Aside0 (Kd.S k88 88 wc w.heap.size (fun k_ => some k_ ≠ ((.slice Ao76 t374.length co76) : Value).ownBlock ∧ some k_ ≠ ((.slice Ao83 t382.length co83) : Value).ownBlock ∧ some k_ ≠ ((.slice Ao91 t390.length co91) : Value).ownBlock) (.slice Ao173 t422.length co173) t422) ∧ Aside0 (Kd.R k116 116 wc w.heap.size (fun k_ => some k_ ≠ ((.slice Ao83 t382.length co83) : Value).ownBlock ∧ some k_ ≠ ((.slice Ao91 t390.length co91) : Value).ownBlock) (.slice Ao76 t374.length co76) t374) ∧ Aside0 (Kd.R k116 116 wc w.heap.size (fun k_ => some k_ ≠ ((.slice Ao76 t374.length co76) : Value).ownBlock ∧ some k_ ≠ ((.slice Ao91 t390.length co91) : Value).ownBlock) (.slice Ao83 t382.length co83) t382) ∧ Aside0 (Kd.R k116 116 wc w.heap.size (fun k_ => some k_ ≠ ((.slice Ao76 t374.length co76) : Value).ownBlock ∧ some k_ ≠ ((.slice Ao83 t382.length co83) : Value).ownBlock) (.slice Ao91 t390.length co91) t390) ∧ Aside0 (wc.heap[gb339]? = some ((bx33 l0 x6_1 A338_6 c338_6))) ∧ Aside0 (wc.heap[gb367]? = some ((bx31 0 (wrap64 (x5_1 + 1)) none 0 0))) ∧ Aside0 (wc.heap[gb379]? = some ((bx31 t372 t373 Ao76 t374.length co76))) ∧ Aside0 (wc.heap[gb387]? = some ((bx31 t380 t381 Ao83 t382.length co83))) ∧ Aside0 (wc.heap[gb395]? = some ((bx31 t388 t389 Ao91 t390.length co91))) ∧ Aside0 (Below w.heap.size w wc))
                          case first =>
                           have H := HC156.out
                           clear HC156
                           replace H := Option.bind_eq_some_iff.mp H
                           obtain ⟨t433, A1750, H⟩ := H
                           replace H : (if t433 = 0 then ((lecternlaw14_num.f t432).bind fun t434 => (lawOnce.j4 kj61 l0 y418 (wrap64 (x5_1 + 1)) x6_1 t422 (t434 != 9))) else (none)) = some r := H
                           have A175 := Aside0.mk A1750
                           clear A1750
                           by_cases c176 : t433 = 0
                           ·rw [if_pos c176] at H
                            have c176b0 : (t433 == 0) = true := beq_iff_eq.mpr c176
                            have c176b1 : (t433 != 0) = false := bne_eq_false_iff_eq.mpr c176
                            clear c176
                            (first | rw [c176b0] | (simp only [i64_w, i32_w]; rw [c176b0]) | skip)
                            replace H := Option.bind_eq_some_iff.mp H
                            obtain ⟨t434, A1770, H⟩ := H
                            replace H : (lawOnce.j4 kj61 l0 y418 (wrap64 (x5_1 + 1)) x6_1 t422 (t434 != 9)) = some r := H
                            have A177 := Aside0.mk A1770
                            clear A1770
                            have H' := Aside0.mk H
                            clear H
                            go_wp2_with (first | ((with_reducible refine gate_callee (f := 17) rfl ?_); refine goesL_ (some 193) rfl rfl Try.func17 (by kernel_rfl) rfl #[.int .i64 t423] rfl (by (try simp only [List.map_toArray, List.map_cons, List.map_nil]); first | done | rfl | (simp only [List.length_drop, List.length_take]; rfl)) ?_; (with_reducible refine (lecternlaw14_num.calls t423 t433 _ A175.out).mono ?_); rintro e w' ⟨rfl, ⟨nd, rfl⟩⟩; refine ⟨_, rfl, ?_⟩) | (go_at_call 17; (with_reducible refine (lecternlaw14_num.calls t432 t434 _ A177.out).mono ?_); rintro e w' ⟨rfl, ⟨nd, rfl⟩⟩))
                            go_meet
                            case rel => exact ⟨_, ((t434 != 9)), (by first | rfl | (simp; done) | (simp [*]; done)), H', ⟨by have := HK1.out; have := HJ1.out; have := HJ6.out; have := HJ61.out; first | omega | exact Nat.le_refl _⟩, ⟨Kd.Q_of_R (by (with_reducible repeat (first | apply Kd.R_alloc | apply Kd.R_drewN | apply Kd.R_drew)); exact Kd.R_mono HO420.out (fun _ hk => trivial))⟩, ⟨by (with_reducible repeat (first | apply Kd.S_alloc | apply Kd.S_drewN | apply Kd.S_drew)); exact Kd.S_mono HO425.out (fun _ hk => ⟨hk.1.1.1.2, ⟨hk.1.1.2, hk.1.2⟩⟩)⟩, ⟨by (with_reducible repeat (first | apply Kd.R_alloc | apply Kd.R_drewN | apply Kd.R_drew)); exact Kd.R_mono HO_380002.out (fun _ hk => ⟨hk.1.1, hk.1.2⟩)⟩, ⟨by (with_reducible repeat (first | apply Kd.R_alloc | apply Kd.R_drewN | apply Kd.R_drew)); exact Kd.R_mono HO_388002.out (fun _ hk => ⟨hk.1.1, hk.1.2⟩)⟩, ⟨by (with_reducible repeat (first | apply Kd.R_alloc | apply Kd.R_drewN | apply Kd.R_drew)); exact Kd.R_mono HO_396002.out (fun _ hk => ⟨hk.1.1, hk.1.2⟩)⟩, ⟨by (with_reducible repeat (first | refine blk_drewN ?_ _ | refine blk_drew ?_ | refine blk_alloc ?_ _)); exact BK339.out⟩, ⟨by (with_reducible repeat (first | refine blk_drewN ?_ _ | refine blk_drew ?_ | refine blk_alloc ?_ _)); exact BK367.out⟩, ⟨by (with_reducible repeat (first | refine blk_drewN ?_ _ | refine blk_drew ?_ | refine blk_alloc ?_ _)); exact BK379.out⟩, ⟨by (with_reducible repeat (first | refine blk_drewN ?_ _ | refine blk_drew ?_ | refine blk_alloc ?_ _)); exact BK387.out⟩, ⟨by (with_reducible repeat (first | refine blk_drewN ?_ _ | refine blk_drew ?_ | refine blk_alloc ?_ _)); exact BK395.out⟩, ⟨by repeat (first | (with_reducible first | exact HB.out | apply below_alloc | apply pw_below_drewN | apply below_drew1 | refine below_set ?_ GE339.out | refine below_set ?_ GE367.out | refine below_set ?_ GE379.out | refine below_set ?_ GE387.out | refine below_set ?_ GE395.out) | exact HB.out)⟩⟩
                           ·rw [if_neg c176] at H
                            exact absurd H (by simp)
                          case rest =>
                           clear HC156
                           try clear c1
                           try clear c2
                           try clear p2
                           try clear c3
                           try clear p6
                           try clear c15
                           try clear c16
                           try clear c17
                           try clear c21
                           try clear c24
                           try clear c25
                           try clear c33
                           try clear p64
                           try clear c150
                           try clear c151
                           try clear c167
                           try clear c168
                           try clear c169
                           try clear c170
                           try clear c176
                           try clear c176b0
                           try clear c176b1
                           try clear hcz171_0
                           try clear hcz171_1
                           try clear hcz171_2
                           try clear hcz171_3
                           try clear hcz171_4
                           try clear hcz171_5
                           try clear hcz171_6
                           try clear hfz171_0
                           try clear hfz171_1
                           try clear hfz171_2
                           try clear hfz171_3
                           try clear hfz171_4
                           try clear hfz171_5
                           try clear hfz171_6
                           obtain ⟨kq, x199_155, rfl, HA, HJ155, HO_4, HO_16, HO_380002, HO_388002, HO_396002, BK339, BK367, BK379, BK387, BK395, HB⟩ := hcut
                           cases kq with
                           | zero => exact absurd HA.out (by simp [lawOnce.j4])
                           | succ kj155 =>
                            have H := HA.out
                            clear HA
                            simp only [lawOnce.j4] at H
                            by_cases c178 : x199_155 = true
                            ·rw [if_pos c178] at H
                             exact absurd H (by simp)
                            ·replace c178 := Bool.eq_false_iff.mpr c178
                             subst c178
                             have H1 : (if 0 ≤ (wrap64 ((y418.length : Int) - 1)) then (if (wrap64 ((y418.length : Int) - 1)) ≤ (y418.length : Int) then (lawOnce.j5 kj155 l0 t422 (y418.take ((wrap64 ((y418.length : Int) - 1)) : Int).toNat) (wrap64 (x5_1 + 1)) x6_1) else (none)) else (none)) = some r := by rw [if_neg (show ¬ (false = true) by decide)] at H; exact H
                             clear H
                             have H := H1
                             clear H1
                             obtain ⟨ji179, hji179⟩ : ∃ j_ : Int, (wrap64 ((y418.length : Int) - 1)) = j_ := ⟨_, rfl⟩
                             replace H : (if 0 ≤ (ji179) then (if (ji179) ≤ (y418.length : Int) then (lawOnce.j5 kj155 l0 t422 (y418.take ((ji179) : Int).toNat) (wrap64 (x5_1 + 1)) x6_1) else (none)) else (none)) = some r := by first | (rw [hji179] at H; exact H) | (simp only [hji179] at H ⊢; exact H)
                             have hji179w : (IntKind.i64.wrap ((y418.length : Int) - 1)) = ji179 := (i64_w _).trans hji179
                             by_cases c180 : 0 ≤ (ji179)
                             ·rw [if_pos c180] at H
                              have c180b0 := eq_true c180
                              have c180b1 : decide (0 ≤ (ji179)) = true := decide_eq_true c180
                              clear c180
                              by_cases c181 : (ji179) ≤ (y418.length : Int)
                              ·rw [if_pos c181] at H
                               have c181b0 := eq_true c181
                               have c181b1 : decide ((ji179) ≤ (y418.length : Int)) = true := decide_eq_true c181
                               clear c181
                               obtain ⟨y435, hy435⟩ : ∃ y_ : List Int, y_ = (y418.take ((ji179) : Int).toNat) := ⟨_, rfl⟩
                               replace H : (lawOnce.j5 kj155 l0 t422 y435 (wrap64 (x5_1 + 1)) x6_1) = some r := by first | (rw [hy435]; with_reducible exact H) | (have H2_ := (Option.bind_some _ _).symm.trans H; rw [hy435]; with_reducible exact H2_) | (have H2_ := (Option.bind_some _ _).symm.trans H; with_reducible exact H2_) | with_reducible exact H | (rw [hy435]; exact H) | exact H
                               have Ny435 := Aside0.mk hy435
                               clear hy435
                               have H' := Aside0.mk H
                               clear H
                               obtain ⟨Ao182, co182, eo182, _⟩ := Kd.Q_slice HO_4.out
                               subst eo182
                               have q183 : ((ji179) : Int) ≤ ((y418.length : Int) : Int) := of_decide_eq_true (by assumption)
                               obtain ⟨i0183, hi0183, _, hsz183, _⟩ := info_parts info3
                               have hcut183 := cut_to (P := Try.prog) 42 3 .i64 Try.underlying42 hi0183 Ao182 y418.length co182 (ji179) (of_decide_eq_true (by assumption)) q183 (Kd.Q_reads' HO_4.out).2.1
                               have hr183 := Kd.Q_take (m := ((ji179) : Int).toNat) HO_4.out (by omega)
                               have hy183 : y435.length = ((ji179) : Int).toNat := (by rw [Ny435.out, List.length_take]; omega)
                               rw [← Ny435.out] at hr183
                               rw [← hy183] at hr183 hcut183
                               clear hy183 hi0183 hsz183 HO_4
                               have HO437 := Aside0.mk hr183
                               clear hr183
                               replace q183 := eq_true q183
                               go_wp2
                               go_meet
                               case rel => exact ⟨_, (t422), (y435), H', ⟨by have := HK1.out; have := HJ1.out; have := HJ6.out; have := HJ61.out; have := HJ155.out; first | omega | exact Nat.le_refl _⟩, ⟨by (with_reducible repeat (first | apply Kd.S_alloc | apply Kd.S_drewN | apply Kd.S_drew)); exact Kd.S_mono HO_16.out (fun _ hk => trivial)⟩, ⟨by (with_reducible repeat (first | apply Kd.Q_alloc | apply Kd.Q_drewN | apply Kd.Q_drew)); exact HO437.out⟩, ⟨by (with_reducible repeat (first | refine blk_drewN ?_ _ | refine blk_drew ?_ | refine blk_alloc ?_ _)); exact BK339.out⟩, ⟨by repeat (first | (with_reducible first | exact HB.out | apply below_alloc | apply pw_below_drewN | apply below_drew1 | refine below_set ?_ GE339.out | refine below_set ?_ GE367.out | refine below_set ?_ GE379.out | refine below_set ?_ GE387.out | refine below_set ?_ GE395.out) | exact HB.out)⟩⟩
                              ·rw [if_neg c181] at H
                               exact absurd H (by simp)
                             ·rw [if_neg c180] at H
                              exact absurd H (by simp)
                        ·as_aux_lemma =>
                          rw [if_neg c153] at H
                          have c153b0 : (t421 == 0) = false := beq_eq_false_iff_ne.mpr c153
                          have c153b1 : (t421 != 0) = true := bne_iff_ne.mpr c153
                          have H' := Aside0.mk H
                          clear H
                          try go_wp2_with (first | ((with_reducible refine gate_callee (f := 21) rfl ?_); refine goesL_ (some 175) rfl rfl Try.func21 (by kernel_rfl) rfl #[.int .i64 ((rd_T33 l0 x6_1).f2), .int .i64 5] rfl (by (try simp only [List.map_toArray, List.map_cons, List.map_nil]); first | done | rfl | (simp only [List.length_drop, List.length_take]; rfl)) ?_; (with_reducible refine (lecternlaw0_Within.calls ((rd_T33 l0 x6_1).f2) 5 t421 _ A152.out).mono ?_); rintro e w' ⟨rfl, ⟨nd, rfl⟩⟩; refine ⟨_, rfl, ?_⟩))
                          go_meet
                          case rel => exact ⟨_, (t368), (y418), H', ⟨by have := HK1.out; have := HJ1.out; have := HJ6.out; have := HJ61.out; first | omega | exact Nat.le_refl _⟩, ⟨by (with_reducible repeat (first | apply Kd.S_alloc | apply Kd.S_drewN | apply Kd.S_drew)); exact Kd.S_mono HO_16.out (fun _ hk => trivial)⟩, ⟨Kd.Q_of_R (by (with_reducible repeat (first | apply Kd.R_alloc | apply Kd.R_drewN | apply Kd.R_drew)); exact Kd.R_mono HO420.out (fun _ hk => trivial))⟩, ⟨by (with_reducible repeat (first | refine blk_drewN ?_ _ | refine blk_drew ?_ | refine blk_alloc ?_ _)); exact BK339.out⟩, ⟨by repeat (first | (with_reducible first | exact HB.out | apply below_alloc | apply pw_below_drewN | apply below_drew1 | refine below_set ?_ GE339.out | refine below_set ?_ GE367.out | refine below_set ?_ GE379.out | refine below_set ?_ GE387.out | refine below_set ?_ GE395.out) | exact HB.out)⟩⟩
                       ·rw [if_neg c151] at H
                        exact absurd H (by simp)
                      ·rw [if_neg c150] at H
                       exact absurd H (by simp)
                     ·rw [if_neg c149] at H
                      exact absurd H (by simp)
                    ·rw [if_neg c148] at H
                     exact absurd H (by simp)
                   ·rw [if_neg c145] at H
                    exact absurd H (by simp)
                  ·rw [if_neg c144] at H
                   exact absurd H (by simp)
             ·rw [if_neg c57] at H
              exact absurd H (by simp)
            ·rw [if_neg c56] at H
             exact absurd H (by simp)
          case rest =>
           clear HC15
           try clear c1
           try clear c2
           try clear p2
           try clear c3
           try clear c5
           try clear p6
           try clear c14
           try clear c15
           try clear c19
           try clear c21
           try clear c24
           try clear c33
           try clear c56
           try clear c57
           try clear p64
           try clear c144
           try clear c145
           try clear c148
           try clear c149
           try clear c150
           try clear c151
           try clear c194
           try clear c195
           try clear c196
           try clear c197
           try clear hcz198_0
           try clear hcz198_1
           try clear hcz198_2
           try clear hcz198_3
           try clear hcz198_4
           try clear hcz198_5
           try clear hcz198_6
           try clear hfz198_0
           try clear hfz198_1
           try clear hfz198_2
           try clear hfz198_3
           try clear hfz198_4
           try clear hfz198_5
           try clear hfz198_6
           obtain ⟨kq, x3_14, x4_14, HA, HJ14, HO_3, HO_4, BK339, HB⟩ := hcut
           cases kq with
           | zero => exact absurd HA.out (by simp [lawOnce.j5])
           | succ kj14 =>
            have H := HA.out
            clear HA
            simp only [lawOnce.j5] at H
            by_cases c199 : (x3_14.length : Int) = (x4_14.length : Int)
            ·rw [if_pos c199] at H
             have c199b0 : ((x3_14.length : Int) == (x4_14.length : Int)) = true := beq_iff_eq.mpr c199
             have c199b1 : ((x3_14.length : Int) != (x4_14.length : Int)) = false := bne_eq_false_iff_eq.mpr c199
             have c199b2 : (x3_14.length == x4_14.length) = true := by first | simpa using c199 | (simp at c199 ⊢; omega)
             clear c199
             have H' := Aside0.mk H
             clear H
             obtain ⟨Ao200, co200, eo200⟩ := Kd.S_slice HO_3.out
             subst eo200
             obtain ⟨Ao201, co201, eo201, _⟩ := Kd.Q_slice HO_4.out
             subst eo201
             go_wp2
             go_roundg kj14
             case measure => have := HK1.out; have := HJ1.out; have := HJ6.out; have := HJ14.out; omega
             case rel => exact ⟨(x3_14), (x4_14), ((wrap64 (x5_1 + 1))), (wrap64 (x6_1 + 1)), (by first | rfl | (simp; done) | (simp [*]; done)), (by first | rfl | (simp; done) | (simp [*]; done)), H', ⟨by have := HK1.out; have := HJ1.out; have := HJ6.out; have := HJ14.out; omega⟩, ⟨by (with_reducible repeat (first | apply Kd.S_alloc | apply Kd.S_drewN | apply Kd.S_drew)); exact HO_3.out⟩, ⟨by (with_reducible repeat (first | apply Kd.Q_alloc | apply Kd.Q_drewN | apply Kd.Q_drew)); exact HO_4.out⟩, ⟨by repeat (first | (with_reducible first | exact HB.out | apply below_alloc | apply pw_below_drewN | apply below_drew1 | refine below_set ?_ GE339.out) | exact HB.out)⟩⟩
            ·rw [if_neg c199] at H
             exact absurd H (by simp)
       ·rw [if_neg c6] at H
        exact absurd H (by simp)
      ·rw [if_neg c5] at H
       exact absurd H (by simp)
     ·replace c4 := Bool.eq_false_iff.mpr c4
      subst c4
      have H1 : ((lecternlaw14_wakes.f kj1).bind fun t438 => (some t438)) = some r := by rw [if_neg (show ¬ (false = true) by decide)] at H; exact H
      clear H
      have H := H1
      clear H1
      replace H := Option.bind_eq_some_iff.mp H
      obtain ⟨t438, A2040, H⟩ := H
      replace H : (some t438) = some r := H
      have A204 := Aside0.mk A2040
      clear A2040
      obtain rfl := Option.some.inj H
      go_wp2_with (first | ((with_reducible refine gate_callee (f := 19) rfl ?_); refine goesL_ (some 211) rfl rfl Try.func19 (by kernel_rfl) rfl #[] rfl (by (try simp only [List.map_toArray, List.map_cons, List.map_nil]); first | done | rfl | (simp only [List.length_drop, List.length_take]; rfl)) ?_; (with_reducible refine (lecternlaw14_wakes.calls kj1  t438 _ A204.out).mono ?_); rintro e w205 ⟨rfl, hb⟩; refine ⟨_, rfl, ?_⟩; have n0_ := Aside0.mk (Kd.S_below (by (with_reducible repeat (first | apply Kd.S_alloc | apply Kd.S_drewN | apply Kd.S_drew)); exact HO_3.out) hb); have n1_ := Aside0.mk (Kd.Q_below (by (with_reducible repeat (first | apply Kd.Q_alloc | apply Kd.Q_drewN | apply Kd.Q_drew)); exact HO_4.out) hb); have n2_ := Aside0.mk (below_step (by repeat (first | (with_reducible first | exact HB.out | apply below_alloc | apply pw_below_drewN | apply below_drew1) | exact HB.out)) hb); clear HO_3; clear HO_4; clear HB; have HO_3 := n0_; have HO_4 := n1_; have HB := n2_; clear n0_ n1_ n2_; (try clear hb); (try clear hb2); (try clear hk); (try clear hi)))
      go_ret
      exact ⟨by first | rfl | (simp [errW_none, errW_some] <;> rfl) | (simp [*, errW_none, errW_some] <;> rfl), by repeat (first | (with_reducible first | exact HB.out | apply below_alloc | apply pw_below_drewN | apply below_drew1) | exact HB.out)⟩

end Go.Proofs.Ytcacckaonjnmjaa.S
