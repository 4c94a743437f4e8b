-- Written by a program: the kit's printer with changes of this session (NOTES.md).
import Derived.Test.YtcacckaonjnmjaaQx0
import Derived.Test.YtcacckaonjnmjaaQx1
import Derived.Test.YtcacckaonjnmjaaQx2
import Derived.Test.YtcacckaonjnmjaaQx6
import Derived.Test.YtcacckaonjnmjaaQx7
import Derived.Test.YtcacckaonjnmjaaQx9
import Derived.Test.YtcacckaonjnmjaaQx10
import Derived.Test.YtcacckaonjnmjaaQx11
import Derived.Test.YtcacckaonjnmjaaQx39
import Derived.Test.YtcacckaonjnmjaaQx40
namespace Go.Proofs.Ytcacckaonjnmjaa.Q
open Go.RowKit Go.Proofs.YtcacckaonjnmjaaW.PrintWords Go.Proofs.YtcacckaonjnmjaaW.PrintLast Go.Proofs.YtcacckaonjnmjaaW.PrintMore
attribute [local go_sem] max2_int min2_int max_two min_two max_three min_three max_four min_four   -- for this text's walks alone
set_option linter.unusedVariables false
set_option linter.unusedSimpArgs false

/-! ### lecternlaw24_QuorumExact: function 11 -/
mutual
def lecternlaw24_QuorumExact.l0 : Nat → List (S76) → Int → Option (Bool)
  | 0, _, _ => none
  | k + 1, x0, x3 => if x3 < (x0.length : Int) then (lecternlaw24_QuorumExact.j1 k x0 x3 (decide (x3 < 30))) else (lecternlaw24_QuorumExact.j1 k x0 x3 false)
def lecternlaw24_QuorumExact.j1 : Nat → List (S76) → Int → Bool → Option (Bool)
  | 0, _, _, _ => none
  | k + 1, x0, x3, x22 => if x22 = true then (if 0 ≤ x3 then (if x3 < (x0.length : Int) then ((lecternlaw24_heavy.f ((rd_T76 x0 x3).f0) ((rd_T76 x0 x3).f1) ((rd_T76 x0 x3).f2)).bind fun t246 => (if t246 = true then (some true) else ((lecternref0_CopyNumbers.f k ((rd_T76 x0 x3).f1)).bind fun t247 => ((quorum_Enough.f k ((rd_T76 x0 x3).f0) t247).bind fun bt250 => (if ((rd_T76 x0 x3).f0) ≥ 1 then (lecternlaw24_QuorumExact.j2 k x0 x3 t247 bt250.1 bt250.2 (decide (((rd_T76 x0 x3).f0) ≤ 7)) ((rd_T76 x0 x3).f0) ((rd_T76 x0 x3).f1) ((rd_T76 x0 x3).f2)) else (lecternlaw24_QuorumExact.j2 k x0 x3 t247 bt250.1 bt250.2 false ((rd_T76 x0 x3).f0) ((rd_T76 x0 x3).f1) ((rd_T76 x0 x3).f2))))))) else (none)) else (none)) else ((lecternlaw24_wakes.f k).bind fun t243 => (some t243))
def lecternlaw24_QuorumExact.j2 : Nat → List (S76) → Int → List Int → Bool → Int → Bool → Int → List Int → List Int → Option (Bool)
  | 0, _, _, _, _, _, _, _, _, _ => none
  | k + 1, x0, x3, x5, x6, x7, x8, x246000, x246001, x246002 => (lecternlaw24_num.f x7).bind fun t252 => (if (x8 != (t252 == 0)) = true then (lecternlaw24_QuorumExact.j3 k x0 x3 true x246000 x246001 x246002) else (if x8 = true then ((lecternref23_Enough.f k x246000 x246001).bind fun t253 => (if (x6 != t253) = true then (lecternlaw24_QuorumExact.j3 k x0 x3 true x246000 x246001 x246002) else ((lecternref0_EqNumbers.f k x5 x246001).bind fun t254 => (lecternlaw24_QuorumExact.j3 k x0 x3 (!t254) x246000 x246001 x246002)))) else ((lecternlaw24_num.f x7).bind fun t255 => (if t255 = 1 then (if (x6 != false) = true then (lecternlaw24_QuorumExact.j3 k x0 x3 true x246000 x246001 x246002) else ((lecternref0_EqNumbers.f k x5 x246001).bind fun t256 => (lecternlaw24_QuorumExact.j3 k x0 x3 (!t256) x246000 x246001 x246002))) else (lecternlaw24_QuorumExact.j3 k x0 x3 true x246000 x246001 x246002)))))
def lecternlaw24_QuorumExact.j3 : Nat → List (S76) → Int → Bool → Int → List Int → List Int → Option (Bool)
  | 0, _, _, _, _, _, _ => none
  | k + 1, x0, x3, x81, x246000, x246001, x246002 => if x81 = true then (some false) else (if (x246002.length : Int) ≥ 1 then (lecternlaw24_QuorumExact.j4 k x0 x3 (decide ((x246002.length : Int) ≤ 7)) x246000 x246001 x246002) else (lecternlaw24_QuorumExact.j4 k x0 x3 false x246000 x246001 x246002))
def lecternlaw24_QuorumExact.j4 : Nat → List (S76) → Int → Bool → Int → List Int → List Int → Option (Bool)
  | 0, _, _, _, _, _, _ => none
  | k + 1, x0, x3, x9, x246000, x246001, x246002 => lecternlaw24_QuorumExact.l1 k x0 x3 x9 0 x246000 x246001 x246002
def lecternlaw24_QuorumExact.j6 : Nat → List (S76) → Int → Bool → Int → List Int → List Int → Option (Bool)
  | 0, _, _, _, _, _, _ => none
  | k + 1, x0, x3, x9, x246000, x246001, x246002 => if x9 = true then ((lecternref23_Index.f k x246002).bind fun t258 => (lecternlaw24_QuorumExact.j7 k x0 x3 x9 t258 x246000 x246001 x246002)) else (lecternlaw24_QuorumExact.j7 k x0 x3 x9 0 x246000 x246001 x246002)
def lecternlaw24_QuorumExact.j7 : Nat → List (S76) → Int → Bool → Int → Int → List Int → List Int → Option (Bool)
  | 0, _, _, _, _, _, _, _ => none
  | k + 1, x0, x3, x9, x11, x246000, x246001, x246002 => (lecternref0_CopyNumbers.f k x246002).bind fun t259 => ((quorum_Index.f t259).bind fun bt262 => ((lecternlaw24_num.f bt262.2).bind fun t264 => (if (x9 != (t264 == 0)) = true then (some false) else (if x9 = true then (if bt262.1 = x11 then ((lecternref0_EqNumbers.f k t259 x246002).bind fun t265 => (if t265 = true then (lecternlaw24_QuorumExact.l0 k x0 (wrap64 (x3 + 1))) else (some false))) else (some false)) else ((lecternlaw24_num.f bt262.2).bind fun t266 => (if t266 = 1 then (if bt262.1 = x11 then ((lecternref0_EqNumbers.f k t259 x246002).bind fun t267 => (if t267 = true then (lecternlaw24_QuorumExact.l0 k x0 (wrap64 (x3 + 1))) else (some false))) else (some false)) else (some false)))))))
def lecternlaw24_QuorumExact.l1 : Nat → List (S76) → Int → Bool → Int → Int → List Int → List Int → Option (Bool)
  | 0, _, _, _, _, _, _, _ => none
  | k + 1, x0, x3, x9, x10, x246000, x246001, x246002 => if x10 < (x246002.length : Int) then (if x9 = true then (if 0 ≤ x10 then (lecternlaw24_QuorumExact.l1 k x0 x3 (decide ((rd x246002 x10) ≥ 0)) (wrap64 (x10 + 1)) x246000 x246001 x246002) else (none)) else (lecternlaw24_QuorumExact.j6 k x0 x3 x9 x246000 x246001 x246002)) else (lecternlaw24_QuorumExact.j6 k x0 x3 x9 x246000 x246001 x246002)
end
def lecternlaw24_QuorumExact.f (k : Nat) (l0 : List (S76)) : Option (Bool) := lecternlaw24_QuorumExact.l0 k l0 0
theorem lecternlaw24_QuorumExact.mono_l : ∀ k, (∀ y0 y1, LeO (lecternlaw24_QuorumExact.l0 k y0 y1) (lecternlaw24_QuorumExact.l0 (k + 1) y0 y1)) ∧ (∀ y0 y1 y2, LeO (lecternlaw24_QuorumExact.j1 k y0 y1 y2) (lecternlaw24_QuorumExact.j1 (k + 1) y0 y1 y2)) ∧ (∀ y0 y1 y2 y3 y4 y5 y6 y7 y8, LeO (lecternlaw24_QuorumExact.j2 k y0 y1 y2 y3 y4 y5 y6 y7 y8) (lecternlaw24_QuorumExact.j2 (k + 1) y0 y1 y2 y3 y4 y5 y6 y7 y8)) ∧ (∀ y0 y1 y2 y3 y4 y5, LeO (lecternlaw24_QuorumExact.j3 k y0 y1 y2 y3 y4 y5) (lecternlaw24_QuorumExact.j3 (k + 1) y0 y1 y2 y3 y4 y5)) ∧ (∀ y0 y1 y2 y3 y4 y5, LeO (lecternlaw24_QuorumExact.j4 k y0 y1 y2 y3 y4 y5) (lecternlaw24_QuorumExact.j4 (k + 1) y0 y1 y2 y3 y4 y5)) ∧ (∀ y0 y1 y2 y3 y4 y5, LeO (lecternlaw24_QuorumExact.j6 k y0 y1 y2 y3 y4 y5) (lecternlaw24_QuorumExact.j6 (k + 1) y0 y1 y2 y3 y4 y5)) ∧ (∀ y0 y1 y2 y3 y4 y5 y6, LeO (lecternlaw24_QuorumExact.j7 k y0 y1 y2 y3 y4 y5 y6) (lecternlaw24_QuorumExact.j7 (k + 1) y0 y1 y2 y3 y4 y5 y6)) ∧ (∀ y0 y1 y2 y3 y4 y5 y6, LeO (lecternlaw24_QuorumExact.l1 k y0 y1 y2 y3 y4 y5 y6) (lecternlaw24_QuorumExact.l1 (k + 1) y0 y1 y2 y3 y4 y5 y6))
  | 0 => ⟨fun _ _ r h => by simp [lecternlaw24_QuorumExact.l0] at h, fun _ _ _ r h => by simp [lecternlaw24_QuorumExact.j1] at h, fun _ _ _ _ _ _ _ _ _ r h => by simp [lecternlaw24_QuorumExact.j2] at h, fun _ _ _ _ _ _ r h => by simp [lecternlaw24_QuorumExact.j3] at h, fun _ _ _ _ _ _ r h => by simp [lecternlaw24_QuorumExact.j4] at h, fun _ _ _ _ _ _ r h => by simp [lecternlaw24_QuorumExact.j6] at h, fun _ _ _ _ _ _ _ r h => by simp [lecternlaw24_QuorumExact.j7] at h, fun _ _ _ _ _ _ _ r h => by simp [lecternlaw24_QuorumExact.l1] at h⟩
  | k + 1 => by
    obtain ⟨ih0, ih1, ih2, ih3, ih4, ih5, ih6, ih7⟩ := lecternlaw24_QuorumExact.mono_l k
    refine ⟨?_, ?_, ?_, ?_, ?_, ?_, ?_, ?_⟩
    · intro y0 y1
      unfold lecternlaw24_QuorumExact.l0
      repeat' first
      | (with_reducible exact ih0 _ _)
      | (with_reducible exact ih1 _ _ _)
      | (with_reducible exact ih2 _ _ _ _ _ _ _ _ _)
      | (with_reducible exact ih3 _ _ _ _ _ _)
      | (with_reducible exact ih4 _ _ _ _ _ _)
      | (with_reducible exact ih5 _ _ _ _ _ _)
      | (with_reducible exact ih6 _ _ _ _ _ _ _)
      | (with_reducible exact ih7 _ _ _ _ _ _ _)
      | (with_reducible exact lecternlaw24_wakes.mono _)
      | (with_reducible exact lecternref0_CopyNumbers.mono _ _)
      | (with_reducible exact lecternref0_EqNumbers.mono _ _ _)
      | (with_reducible exact lecternref23_Enough.mono _ _ _)
      | (with_reducible exact lecternref23_Index.mono _ _)
      | (with_reducible exact quorum_Enough.mono _ _ _)
      | (with_reducible exact LeO.refl _)
      | (with_reducible exact LeO.none _)
      | (with_reducible refine LeO.ite ?_ ?_)
      | (with_reducible refine LeO.bind ?_ (fun _ => ?_))
      | exact ih0 _ _
      | exact ih1 _ _ _
      | exact ih2 _ _ _ _ _ _ _ _ _
      | exact ih3 _ _ _ _ _ _
      | exact ih4 _ _ _ _ _ _
      | exact ih5 _ _ _ _ _ _
      | exact ih6 _ _ _ _ _ _ _
      | exact ih7 _ _ _ _ _ _ _
      | exact lecternlaw24_wakes.mono _
      | exact lecternref0_CopyNumbers.mono _ _
      | exact lecternref0_EqNumbers.mono _ _ _
      | exact lecternref23_Enough.mono _ _ _
      | exact lecternref23_Index.mono _ _
      | exact quorum_Enough.mono _ _ _
      | exact LeO.none _
      | refine LeO.ite ?_ ?_
      | refine LeO.bind ?_ (fun _ => ?_)
    · intro y0 y1 y2
      unfold lecternlaw24_QuorumExact.j1
      repeat' first
      | (with_reducible exact ih0 _ _)
      | (with_reducible exact ih1 _ _ _)
      | (with_reducible exact ih2 _ _ _ _ _ _ _ _ _)
      | (with_reducible exact ih3 _ _ _ _ _ _)
      | (with_reducible exact ih4 _ _ _ _ _ _)
      | (with_reducible exact ih5 _ _ _ _ _ _)
      | (with_reducible exact ih6 _ _ _ _ _ _ _)
      | (with_reducible exact ih7 _ _ _ _ _ _ _)
      | (with_reducible exact lecternlaw24_wakes.mono _)
      | (with_reducible exact lecternref0_CopyNumbers.mono _ _)
      | (with_reducible exact lecternref0_EqNumbers.mono _ _ _)
      | (with_reducible exact lecternref23_Enough.mono _ _ _)
      | (with_reducible exact lecternref23_Index.mono _ _)
      | (with_reducible exact quorum_Enough.mono _ _ _)
      | (with_reducible exact LeO.refl _)
      | (with_reducible exact LeO.none _)
      | (with_reducible refine LeO.ite ?_ ?_)
      | (with_reducible refine LeO.bind ?_ (fun _ => ?_))
      | exact ih0 _ _
      | exact ih1 _ _ _
      | exact ih2 _ _ _ _ _ _ _ _ _
      | exact ih3 _ _ _ _ _ _
      | exact ih4 _ _ _ _ _ _
      | exact ih5 _ _ _ _ _ _
      | exact ih6 _ _ _ _ _ _ _
      | exact ih7 _ _ _ _ _ _ _
      | exact lecternlaw24_wakes.mono _
      | exact lecternref0_CopyNumbers.mono _ _
      | exact lecternref0_EqNumbers.mono _ _ _
      | exact lecternref23_Enough.mono _ _ _
      | exact lecternref23_Index.mono _ _
      | exact quorum_Enough.mono _ _ _
      | exact LeO.none _
      | refine LeO.ite ?_ ?_
      | refine LeO.bind ?_ (fun _ => ?_)
    · intro y0 y1 y2 y3 y4 y5 y6 y7 y8
      unfold lecternlaw24_QuorumExact.j2
      repeat' first
      | (with_reducible exact ih0 _ _)
      | (with_reducible exact ih1 _ _ _)
      | (with_reducible exact ih2 _ _ _ _ _ _ _ _ _)
      | (with_reducible exact ih3 _ _ _ _ _ _)
      | (with_reducible exact ih4 _ _ _ _ _ _)
      | (with_reducible exact ih5 _ _ _ _ _ _)
      | (with_reducible exact ih6 _ _ _ _ _ _ _)
      | (with_reducible exact ih7 _ _ _ _ _ _ _)
      | (with_reducible exact lecternlaw24_wakes.mono _)
      | (with_reducible exact lecternref0_CopyNumbers.mono _ _)
      | (with_reducible exact lecternref0_EqNumbers.mono _ _ _)
      | (with_reducible exact lecternref23_Enough.mono _ _ _)
      | (with_reducible exact lecternref23_Index.mono _ _)
      | (with_reducible exact quorum_Enough.mono _ _ _)
      | (with_reducible exact LeO.refl _)
      | (with_reducible exact LeO.none _)
      | (with_reducible refine LeO.ite ?_ ?_)
      | (with_reducible refine LeO.bind ?_ (fun _ => ?_))
      | exact ih0 _ _
      | exact ih1 _ _ _
      | exact ih2 _ _ _ _ _ _ _ _ _
      | exact ih3 _ _ _ _ _ _
      | exact ih4 _ _ _ _ _ _
      | exact ih5 _ _ _ _ _ _
      | exact ih6 _ _ _ _ _ _ _
      | exact ih7 _ _ _ _ _ _ _
      | exact lecternlaw24_wakes.mono _
      | exact lecternref0_CopyNumbers.mono _ _
      | exact lecternref0_EqNumbers.mono _ _ _
      | exact lecternref23_Enough.mono _ _ _
      | exact lecternref23_Index.mono _ _
      | exact quorum_Enough.mono _ _ _
      | exact LeO.none _
      | refine LeO.ite ?_ ?_
      | refine LeO.bind ?_ (fun _ => ?_)
    · intro y0 y1 y2 y3 y4 y5
      unfold lecternlaw24_QuorumExact.j3
      repeat' first
      | (with_reducible exact ih0 _ _)
      | (with_reducible exact ih1 _ _ _)
      | (with_reducible exact ih2 _ _ _ _ _ _ _ _ _)
      | (with_reducible exact ih3 _ _ _ _ _ _)
      | (with_reducible exact ih4 _ _ _ _ _ _)
      | (with_reducible exact ih5 _ _ _ _ _ _)
      | (with_reducible exact ih6 _ _ _ _ _ _ _)
      | (with_reducible exact ih7 _ _ _ _ _ _ _)
      | (with_reducible exact lecternlaw24_wakes.mono _)
      | (with_reducible exact lecternref0_CopyNumbers.mono _ _)
      | (with_reducible exact lecternref0_EqNumbers.mono _ _ _)
      | (with_reducible exact lecternref23_Enough.mono _ _ _)
      | (with_reducible exact lecternref23_Index.mono _ _)
      | (with_reducible exact quorum_Enough.mono _ _ _)
      | (with_reducible exact LeO.refl _)
      | (with_reducible exact LeO.none _)
      | (with_reducible refine LeO.ite ?_ ?_)
      | (with_reducible refine LeO.bind ?_ (fun _ => ?_))
      | exact ih0 _ _
      | exact ih1 _ _ _
      | exact ih2 _ _ _ _ _ _ _ _ _
      | exact ih3 _ _ _ _ _ _
      | exact ih4 _ _ _ _ _ _
      | exact ih5 _ _ _ _ _ _
      | exact ih6 _ _ _ _ _ _ _
      | exact ih7 _ _ _ _ _ _ _
      | exact lecternlaw24_wakes.mono _
      | exact lecternref0_CopyNumbers.mono _ _
      | exact lecternref0_EqNumbers.mono _ _ _
      | exact lecternref23_Enough.mono _ _ _
      | exact lecternref23_Index.mono _ _
      | exact quorum_Enough.mono _ _ _
      | exact LeO.none _
      | refine LeO.ite ?_ ?_
      | refine LeO.bind ?_ (fun _ => ?_)
    · intro y0 y1 y2 y3 y4 y5
      unfold lecternlaw24_QuorumExact.j4
      repeat' first
      | (with_reducible exact ih0 _ _)
      | (with_reducible exact ih1 _ _ _)
      | (with_reducible exact ih2 _ _ _ _ _ _ _ _ _)
      | (with_reducible exact ih3 _ _ _ _ _ _)
      | (with_reducible exact ih4 _ _ _ _ _ _)
      | (with_reducible exact ih5 _ _ _ _ _ _)
      | (with_reducible exact ih6 _ _ _ _ _ _ _)
      | (with_reducible exact ih7 _ _ _ _ _ _ _)
      | (with_reducible exact lecternlaw24_wakes.mono _)
      | (with_reducible exact lecternref0_CopyNumbers.mono _ _)
      | (with_reducible exact lecternref0_EqNumbers.mono _ _ _)
      | (with_reducible exact lecternref23_Enough.mono _ _ _)
      | (with_reducible exact lecternref23_Index.mono _ _)
      | (with_reducible exact quorum_Enough.mono _ _ _)
      | (with_reducible exact LeO.refl _)
      | (with_reducible exact LeO.none _)
      | (with_reducible refine LeO.ite ?_ ?_)
      | (with_reducible refine LeO.bind ?_ (fun _ => ?_))
      | exact ih0 _ _
      | exact ih1 _ _ _
      | exact ih2 _ _ _ _ _ _ _ _ _
      | exact ih3 _ _ _ _ _ _
      | exact ih4 _ _ _ _ _ _
      | exact ih5 _ _ _ _ _ _
      | exact ih6 _ _ _ _ _ _ _
      | exact ih7 _ _ _ _ _ _ _
      | exact lecternlaw24_wakes.mono _
      | exact lecternref0_CopyNumbers.mono _ _
      | exact lecternref0_EqNumbers.mono _ _ _
      | exact lecternref23_Enough.mono _ _ _
      | exact lecternref23_Index.mono _ _
      | exact quorum_Enough.mono _ _ _
      | exact LeO.none _
      | refine LeO.ite ?_ ?_
      | refine LeO.bind ?_ (fun _ => ?_)
    · intro y0 y1 y2 y3 y4 y5
      unfold lecternlaw24_QuorumExact.j6
      repeat' first
      | (with_reducible exact ih0 _ _)
      | (with_reducible exact ih1 _ _ _)
      | (with_reducible exact ih2 _ _ _ _ _ _ _ _ _)
      | (with_reducible exact ih3 _ _ _ _ _ _)
      | (with_reducible exact ih4 _ _ _ _ _ _)
      | (with_reducible exact ih5 _ _ _ _ _ _)
      | (with_reducible exact ih6 _ _ _ _ _ _ _)
      | (with_reducible exact ih7 _ _ _ _ _ _ _)
      | (with_reducible exact lecternlaw24_wakes.mono _)
      | (with_reducible exact lecternref0_CopyNumbers.mono _ _)
      | (with_reducible exact lecternref0_EqNumbers.mono _ _ _)
      | (with_reducible exact lecternref23_Enough.mono _ _ _)
      | (with_reducible exact lecternref23_Index.mono _ _)
      | (with_reducible exact quorum_Enough.mono _ _ _)
      | (with_reducible exact LeO.refl _)
      | (with_reducible exact LeO.none _)
      | (with_reducible refine LeO.ite ?_ ?_)
      | (with_reducible refine LeO.bind ?_ (fun _ => ?_))
      | exact ih0 _ _
      | exact ih1 _ _ _
      | exact ih2 _ _ _ _ _ _ _ _ _
      | exact ih3 _ _ _ _ _ _
      | exact ih4 _ _ _ _ _ _
      | exact ih5 _ _ _ _ _ _
      | exact ih6 _ _ _ _ _ _ _
      | exact ih7 _ _ _ _ _ _ _
      | exact lecternlaw24_wakes.mono _
      | exact lecternref0_CopyNumbers.mono _ _
      | exact lecternref0_EqNumbers.mono _ _ _
      | exact lecternref23_Enough.mono _ _ _
      | exact lecternref23_Index.mono _ _
      | exact quorum_Enough.mono _ _ _
      | exact LeO.none _
      | refine LeO.ite ?_ ?_
      | refine LeO.bind ?_ (fun _ => ?_)
    · intro y0 y1 y2 y3 y4 y5 y6
      unfold lecternlaw24_QuorumExact.j7
      repeat' first
      | (with_reducible exact ih0 _ _)
      | (with_reducible exact ih1 _ _ _)
      | (with_reducible exact ih2 _ _ _ _ _ _ _ _ _)
      | (with_reducible exact ih3 _ _ _ _ _ _)
      | (with_reducible exact ih4 _ _ _ _ _ _)
      | (with_reducible exact ih5 _ _ _ _ _ _)
      | (with_reducible exact ih6 _ _ _ _ _ _ _)
      | (with_reducible exact ih7 _ _ _ _ _ _ _)
      | (with_reducible exact lecternlaw24_wakes.mono _)
      | (with_reducible exact lecternref0_CopyNumbers.mono _ _)
      | (with_reducible exact lecternref0_EqNumbers.mono _ _ _)
      | (with_reducible exact lecternref23_Enough.mono _ _ _)
      | (with_reducible exact lecternref23_Index.mono _ _)
      | (with_reducible exact quorum_Enough.mono _ _ _)
      | (with_reducible exact LeO.refl _)
      | (with_reducible exact LeO.none _)
      | (with_reducible refine LeO.ite ?_ ?_)
      | (with_reducible refine LeO.bind ?_ (fun _ => ?_))
      | exact ih0 _ _
      | exact ih1 _ _ _
      | exact ih2 _ _ _ _ _ _ _ _ _
      | exact ih3 _ _ _ _ _ _
      | exact ih4 _ _ _ _ _ _
      | exact ih5 _ _ _ _ _ _
      | exact ih6 _ _ _ _ _ _ _
      | exact ih7 _ _ _ _ _ _ _
      | exact lecternlaw24_wakes.mono _
      | exact lecternref0_CopyNumbers.mono _ _
      | exact lecternref0_EqNumbers.mono _ _ _
      | exact lecternref23_Enough.mono _ _ _
      | exact lecternref23_Index.mono _ _
      | exact quorum_Enough.mono _ _ _
      | exact LeO.none _
      | refine LeO.ite ?_ ?_
      | refine LeO.bind ?_ (fun _ => ?_)
    · intro y0 y1 y2 y3 y4 y5 y6
      unfold lecternlaw24_QuorumExact.l1
      repeat' first
      | (with_reducible exact ih0 _ _)
      | (with_reducible exact ih1 _ _ _)
      | (with_reducible exact ih2 _ _ _ _ _ _ _ _ _)
      | (with_reducible exact ih3 _ _ _ _ _ _)
      | (with_reducible exact ih4 _ _ _ _ _ _)
      | (with_reducible exact ih5 _ _ _ _ _ _)
      | (with_reducible exact ih6 _ _ _ _ _ _ _)
      | (with_reducible exact ih7 _ _ _ _ _ _ _)
      | (with_reducible exact lecternlaw24_wakes.mono _)
      | (with_reducible exact lecternref0_CopyNumbers.mono _ _)
      | (with_reducible exact lecternref0_EqNumbers.mono _ _ _)
      | (with_reducible exact lecternref23_Enough.mono _ _ _)
      | (with_reducible exact lecternref23_Index.mono _ _)
      | (with_reducible exact quorum_Enough.mono _ _ _)
      | (with_reducible exact LeO.refl _)
      | (with_reducible exact LeO.none _)
      | (with_reducible refine LeO.ite ?_ ?_)
      | (with_reducible refine LeO.bind ?_ (fun _ => ?_))
      | exact ih0 _ _
      | exact ih1 _ _ _
      | exact ih2 _ _ _ _ _ _ _ _ _
      | exact ih3 _ _ _ _ _ _
      | exact ih4 _ _ _ _ _ _
      | exact ih5 _ _ _ _ _ _
      | exact ih6 _ _ _ _ _ _ _
      | exact ih7 _ _ _ _ _ _ _
      | exact lecternlaw24_wakes.mono _
      | exact lecternref0_CopyNumbers.mono _ _
      | exact lecternref0_EqNumbers.mono _ _ _
      | exact lecternref23_Enough.mono _ _ _
      | exact lecternref23_Index.mono _ _
      | exact quorum_Enough.mono _ _ _
      | exact LeO.none _
      | refine LeO.ite ?_ ?_
      | refine LeO.bind ?_ (fun _ => ?_)
theorem lecternlaw24_QuorumExact.mono : ∀ a0 k, LeO (lecternlaw24_QuorumExact.f k a0) (lecternlaw24_QuorumExact.f (k + 1) a0) := by
  intro a0 k
  obtain ⟨ih0, ih1, ih2, ih3, ih4, ih5, ih6, ih7⟩ := lecternlaw24_QuorumExact.mono_l k
  unfold lecternlaw24_QuorumExact.f
  repeat' first
      | (with_reducible exact ih0 _ _)
      | (with_reducible exact ih1 _ _ _)
      | (with_reducible exact ih2 _ _ _ _ _ _ _ _ _)
      | (with_reducible exact ih3 _ _ _ _ _ _)
      | (with_reducible exact ih4 _ _ _ _ _ _)
      | (with_reducible exact ih5 _ _ _ _ _ _)
      | (with_reducible exact ih6 _ _ _ _ _ _ _)
      | (with_reducible exact ih7 _ _ _ _ _ _ _)
      | (with_reducible exact lecternlaw24_wakes.mono _)
      | (with_reducible exact lecternref0_CopyNumbers.mono _ _)
      | (with_reducible exact lecternref0_EqNumbers.mono _ _ _)
      | (with_reducible exact lecternref23_Enough.mono _ _ _)
      | (with_reducible exact lecternref23_Index.mono _ _)
      | (with_reducible exact quorum_Enough.mono _ _ _)
      | (with_reducible exact LeO.refl _)
      | (with_reducible exact LeO.none _)
      | (with_reducible refine LeO.ite ?_ ?_)
      | (with_reducible refine LeO.bind ?_ (fun _ => ?_))
      | exact ih0 _ _
      | exact ih1 _ _ _
      | exact ih2 _ _ _ _ _ _ _ _ _
      | exact ih3 _ _ _ _ _ _
      | exact ih4 _ _ _ _ _ _
      | exact ih5 _ _ _ _ _ _
      | exact ih6 _ _ _ _ _ _ _
      | exact ih7 _ _ _ _ _ _ _
      | exact lecternlaw24_wakes.mono _
      | exact lecternref0_CopyNumbers.mono _ _
      | exact lecternref0_EqNumbers.mono _ _ _
      | exact lecternref23_Enough.mono _ _ _
      | exact lecternref23_Index.mono _ _
      | exact quorum_Enough.mono _ _ _
      | exact LeO.none _
      | refine LeO.ite ?_ ?_
      | refine LeO.bind ?_ (fun _ => ?_)
set_option maxHeartbeats 8000000 in
set_option maxRecDepth 100000 in
theorem lecternlaw24_QuorumExact.calls (k : Nat) (A0 : Option Addr) (c0 : Nat) (l0 : List (S76)) (r : Bool) (w : World) (hr0 : Kd.C k76 w A0 l0.length l0) (hc0 : l0.length ≤ c0) (h : lecternlaw24_QuorumExact.f k l0 = some r) :
    Calls Try.prog 11 #[.slice A0 l0.length c0] w fun e w' => e = .returned (.bool r) ∧ Below w.heap.size w w' := by
  have hu76 := Try.underlying76
  have HR0 := Aside0.mk hr0
  have HC0 := Aside0.mk hc0
  clear hr0 hc0
  have HB := Aside0.mk (Below.refl w.heap.size w)
  have H : (lecternlaw24_QuorumExact.l0 k l0 0) = some r := h
  clear h
  have H' := Aside0.mk H
  clear H
  go_enter Try.func11, Try.ntmps11
  go_wp2
  go_loopg [3] k (fun kq v3 w' => ∃ (x3_1 : Int), v3 = .int .i64 x3_1 ∧ Aside0 (lecternlaw24_QuorumExact.l0 kq l0 x3_1 = some r) ∧ Aside0 (kq ≤ k) ∧ Aside0 (Below w.heap.size w w'))
  case atStart => exact ⟨(0), (by first | rfl | (simp; done) | (simp [*]; done)), H', ⟨Nat.le_refl _⟩, ⟨by repeat (first | (with_reducible first | exact HB.out | apply below_alloc | apply pw_below_drewN | apply below_drew1) | exact HB.out)⟩⟩
  case round =>
    clear H'
    try clear c1
    obtain ⟨x3_1, rfl, HA, HK1, HB⟩ := hrel
    cases gk with
    | zero => exact absurd HA.out (by simp [lecternlaw24_QuorumExact.l0])
    | succ k1 =>
      have H := HA.out
      clear HA
      simp only [lecternlaw24_QuorumExact.l0] at H
      have HC2 := Aside0.mk H
      clear H
      go_upto_region 2 with (fail)
      go_cut [22] (fun v22 wc => ∃ (kq : Nat) (x22_1 : Bool), v22 = .bool x22_1 ∧ Aside0 (lecternlaw24_QuorumExact.j1 kq l0 x3_1 x22_1 = some r) ∧ Aside0 (kq ≤ k1) ∧ Aside0 (Below w.heap.size w wc))
      case first =>
        have H := HC2.out
        clear HC2
        by_cases c3 : x3_1 < (l0.length : Int)
        · rw [if_pos c3] at H
          have c3b0 : decide (x3_1 < (l0.length : Int)) = true := decide_eq_true c3
          clear c3
          (first | rw [c3b0] | (simp only [i64_w, i32_w]; rw [c3b0]) | skip)
          have H' := Aside0.mk H
          clear H
          go_wp2
          go_meet
          case rel => exact ⟨_, (decide (x3_1 < 30)), (by first | rfl | (simp; done) | (simp [*]; done)), H', ⟨by have := HK1.out; first | omega | exact Nat.le_refl _⟩, ⟨by repeat (first | (with_reducible first | exact HB.out | apply below_alloc | apply pw_below_drewN | apply below_drew1) | exact HB.out)⟩⟩
        · rw [if_neg c3] at H
          have c3b0 : decide (x3_1 < (l0.length : Int)) = false := decide_eq_false c3
          clear c3
          (first | rw [c3b0] | (simp only [i64_w, i32_w]; rw [c3b0]) | skip)
          have H' := Aside0.mk H
          clear H
          go_wp2
          go_meet
          case rel => exact ⟨_, (false), (by first | rfl | (simp; done) | (simp [*]; done)), H', ⟨by have := HK1.out; first | omega | exact Nat.le_refl _⟩, ⟨by repeat (first | (with_reducible first | exact HB.out | apply below_alloc | apply pw_below_drewN | apply below_drew1) | exact HB.out)⟩⟩
      case rest =>
        clear HC2
        try clear c1
        try clear p2
        try clear c3
        try clear c3b0
        obtain ⟨kq, x22_1, rfl, HA, HJ1, HB⟩ := hcut
        cases kq with
        | zero => exact absurd HA.out (by simp [lecternlaw24_QuorumExact.j1])
        | succ kj1 =>
          have H := HA.out
          clear HA
          simp only [lecternlaw24_QuorumExact.j1] at H
          by_cases c4 : x22_1 = true
          · subst c4
            have H1 : (if 0 ≤ x3_1 then (if x3_1 < (l0.length : Int) then ((lecternlaw24_heavy.f ((rd_T76 l0 x3_1).f0) ((rd_T76 l0 x3_1).f1) ((rd_T76 l0 x3_1).f2)).bind fun t246 => (if t246 = true then (some true) else ((lecternref0_CopyNumbers.f kj1 ((rd_T76 l0 x3_1).f1)).bind fun t247 => ((quorum_Enough.f kj1 ((rd_T76 l0 x3_1).f0) t247).bind fun bt250 => (if ((rd_T76 l0 x3_1).f0) ≥ 1 then (lecternlaw24_QuorumExact.j2 kj1 l0 x3_1 t247 bt250.1 bt250.2 (decide (((rd_T76 l0 x3_1).f0) ≤ 7)) ((rd_T76 l0 x3_1).f0) ((rd_T76 l0 x3_1).f1) ((rd_T76 l0 x3_1).f2)) else (lecternlaw24_QuorumExact.j2 kj1 l0 x3_1 t247 bt250.1 bt250.2 false ((rd_T76 l0 x3_1).f0) ((rd_T76 l0 x3_1).f1) ((rd_T76 l0 x3_1).f2))))))) else (none)) else (none)) = some r := by rw [if_pos rfl] at H; exact H
            clear H
            have H := H1
            clear H1
            by_cases c5 : 0 ≤ x3_1
            · rw [if_pos c5] at H
              have c5b0 : decide (0 ≤ x3_1) = true := decide_eq_true c5
              clear c5
              by_cases c6 : x3_1 < (l0.length : Int)
              · rw [if_pos c6] at H
                have c6b0 : decide (x3_1 < (l0.length : Int)) = true := decide_eq_true c6
                clear c6
                replace H := Option.bind_eq_some_iff.mp H
                obtain ⟨t246, A70, H⟩ := H
                replace H : (if t246 = true then (some true) else ((lecternref0_CopyNumbers.f kj1 ((rd_T76 l0 x3_1).f1)).bind fun t247 => ((quorum_Enough.f kj1 ((rd_T76 l0 x3_1).f0) t247).bind fun bt250 => (if ((rd_T76 l0 x3_1).f0) ≥ 1 then (lecternlaw24_QuorumExact.j2 kj1 l0 x3_1 t247 bt250.1 bt250.2 (decide (((rd_T76 l0 x3_1).f0) ≤ 7)) ((rd_T76 l0 x3_1).f0) ((rd_T76 l0 x3_1).f1) ((rd_T76 l0 x3_1).f2)) else (lecternlaw24_QuorumExact.j2 kj1 l0 x3_1 t247 bt250.1 bt250.2 false ((rd_T76 l0 x3_1).f0) ((rd_T76 l0 x3_1).f1) ((rd_T76 l0 x3_1).f2)))))) = some r := H
                have A7 := Aside0.mk A70
                clear A70
                by_cases c8 : t246 = true
                · subst c8
                  have H1 : (some true) = some r := by rw [if_pos rfl] at H; exact H
                  clear H
                  have H := H1
                  clear H1
                  obtain rfl := Option.some.inj H
                  have p244 : 0 ≤ (x3_1 : Int) := of_decide_eq_true (by first | (with_reducible assumption) | assumption)
                  have q244 : x3_1 < (l0.length : Int) := of_decide_eq_true (by first | (with_reducible assumption) | assumption)
                  obtain ⟨ad244, A244_1, c244_1, A244_2, c244_2, e244, hx244_0, hx244_1, hx244_2, hl244_1, hi244_1, hl244_2, hi244_2⟩ := at_T76 HR0.out x3_1 p244 q244
                  cases e244
                  replace hx244_0 := (HB.out.cell (World.block_lt_of_cell? w _ hx244_0)).trans hx244_0
                  replace hx244_1 := (HB.out.cell (World.block_lt_of_cell? w _ hx244_1)).trans hx244_1
                  replace hx244_2 := (HB.out.cell (World.block_lt_of_cell? w _ hx244_2)).trans hx244_2
                  have HR244_1 := Aside0.mk hi244_1
                  have HC244_1 := Aside0.mk hl244_1
                  clear hi244_1 hl244_1
                  have HR244_2 := Aside0.mk hi244_2
                  have HC244_2 := Aside0.mk hl244_2
                  clear hi244_2 hl244_2
                  replace p244 := eq_true p244
                  replace q244 := eq_true q244
                  go_wp2_with (first | ((with_reducible refine gate_dst (N := 4) rfl ?_); (try (refine gate_guard (by rfl) ?_; dsimp only)); refine box_event ?hg (N := 4) ?hd (cs := #[.int .i64 0, .slice none 0 0, .slice none 0 0]) (t := 76) ?hr ?_; (case hd => rfl); (case hg => rfl); (case hr => first | (go_simp; done) | (go_simp; rfl)); intro gb245 hg w9 hbox hb; have n0_ := Aside0.mk (below_step (by repeat (first | (with_reducible first | exact HB.out | apply below_alloc | apply pw_below_drewN | apply below_drew1) | exact HB.out)) hb); have n1_ := Aside0.mk (hbox); have n2_ := Aside0.mk ((by rw [hg]; exact (below_size (by repeat (first | (with_reducible first | exact HB.out | apply below_alloc | apply pw_below_drewN | apply below_drew1) | exact HB.out))) : w.heap.size ≤ gb245)); have n3_ := Aside0.mk ((by rw [hg]; exact (below_size (by repeat (first | (with_reducible first | exact HB.out | apply below_alloc | apply pw_below_drewN | apply below_drew1) | exact HB.out))) : w.heap.size ≤ gb245)); clear HB; have HB := n0_; have BK245 := n1_; have GW245 := n2_; have GE245 := n3_; clear n0_ n1_ n2_ n3_; clear hb hbox hg; have hcz10_0 : w9.cell? ⟨gb245, 0, none⟩ = some (.int .i64 0) := (blk_cell BK245.out 0).trans rfl; have hcz10_1 : w9.cell? ⟨gb245, 1, none⟩ = some (.slice none 0 0) := (blk_cell BK245.out 1).trans rfl; have hcz10_2 : w9.cell? ⟨gb245, 2, none⟩ = some (.slice none 0 0) := (blk_cell BK245.out 2).trans rfl; have hfz10_0 := blk_frozen BK245.out 0; have hfz10_1 := blk_frozen BK245.out 1; have hfz10_2 := blk_frozen BK245.out 2) | ((with_reducible refine gate_callee (f := 45) rfl ?_); refine goesL_ (some 30) rfl rfl Try.func45 (by kernel_rfl) rfl #[.agg #[.int .i64 ((rd_T76 l0 x3_1).f0), .slice A244_1 ((rd_T76 l0 x3_1).f1).length c244_1, .slice A244_2 ((rd_T76 l0 x3_1).f2).length c244_2]] rfl (by (try simp only [List.map_toArray, List.map_cons, List.map_nil]); first | done | rfl | (simp only [List.length_drop, List.length_take]; rfl)) ?_; (with_reducible refine (lecternlaw24_heavy.calls ((rd_T76 l0 x3_1).f0) _ _ ((rd_T76 l0 x3_1).f1) _ _ ((rd_T76 l0 x3_1).f2) true _ ?side1 ?side2 ?side3 ?side4 A7.out).mono ?_); (case side1 => exact Kd.C_below HR244_1.out (by repeat (first | (with_reducible first | exact HB.out | apply below_alloc | apply pw_below_drewN | apply below_drew1 | refine below_set ?_ GE245.out) | exact HB.out))); (case side2 => exact HC244_1.out); (case side3 => exact Kd.C_below HR244_2.out (by repeat (first | (with_reducible first | exact HB.out | apply below_alloc | apply pw_below_drewN | apply below_drew1 | refine below_set ?_ GE245.out) | exact HB.out))); (case side4 => exact HC244_2.out); rintro e w11 ⟨rfl, hb⟩; refine ⟨_, rfl, ?_⟩; have n0_ := Aside0.mk (blk_below (g := gb245) (o := .cells #[.int .i64 ((rd_T76 l0 x3_1).f0), .slice A244_1 ((rd_T76 l0 x3_1).f1).length c244_1, .slice A244_2 ((rd_T76 l0 x3_1).f2).length c244_2] 76 (0, 0)) (by (with_reducible repeat (first | refine blk_drewN ?_ _ | refine blk_drew ?_ | refine blk_alloc ?_ _)); refine blk_put (cs := #[.int .i64 ((rd_T76 l0 x3_1).f0), .slice A244_1 ((rd_T76 l0 x3_1).f1).length c244_1, .slice none 0 0]) ?_ 2 _ rfl; (with_reducible repeat (first | refine blk_drewN ?_ _ | refine blk_drew ?_ | refine blk_alloc ?_ _)); refine blk_put (cs := #[.int .i64 ((rd_T76 l0 x3_1).f0), .slice none 0 0, .slice none 0 0]) ?_ 1 _ rfl; (with_reducible repeat (first | refine blk_drewN ?_ _ | refine blk_drew ?_ | refine blk_alloc ?_ _)); refine blk_put (cs := #[.int .i64 0, .slice none 0 0, .slice none 0 0]) ?_ 0 _ rfl; (with_reducible repeat (first | refine blk_drewN ?_ _ | refine blk_drew ?_ | refine blk_alloc ?_ _)); exact BK245.out) hb); have n1_ := Aside0.mk (below_step (by repeat (first | (with_reducible first | exact HB.out | apply below_alloc | apply pw_below_drewN | apply below_drew1 | refine below_set ?_ GE245.out) | exact HB.out)) hb); clear BK245; clear HB; have BK245 := n0_; have HB := n1_; clear n0_ n1_; (try clear hb); (try clear hb2); (try clear hk); (try clear hi)))
                  go_ret
                  exact ⟨by first | rfl | (simp [errW_none, errW_some] <;> rfl) | (simp [*, errW_none, errW_some] <;> rfl), by repeat (first | (with_reducible first | exact HB.out | apply below_alloc | apply pw_below_drewN | apply below_drew1 | refine below_set ?_ GE245.out) | exact HB.out)⟩
                · replace c8 := Bool.eq_false_iff.mpr c8
                  subst c8
                  have H1 : ((lecternref0_CopyNumbers.f kj1 ((rd_T76 l0 x3_1).f1)).bind fun t247 => ((quorum_Enough.f kj1 ((rd_T76 l0 x3_1).f0) t247).bind fun bt250 => (if ((rd_T76 l0 x3_1).f0) ≥ 1 then (lecternlaw24_QuorumExact.j2 kj1 l0 x3_1 t247 bt250.1 bt250.2 (decide (((rd_T76 l0 x3_1).f0) ≤ 7)) ((rd_T76 l0 x3_1).f0) ((rd_T76 l0 x3_1).f1) ((rd_T76 l0 x3_1).f2)) else (lecternlaw24_QuorumExact.j2 kj1 l0 x3_1 t247 bt250.1 bt250.2 false ((rd_T76 l0 x3_1).f0) ((rd_T76 l0 x3_1).f1) ((rd_T76 l0 x3_1).f2))))) = some r := by rw [if_neg (show ¬ (false = true) by decide)] at H; exact H
                  clear H
                  have H := H1
                  clear H1
                  replace H := Option.bind_eq_some_iff.mp H
                  obtain ⟨t247, A120, H⟩ := H
                  replace H : ((quorum_Enough.f kj1 ((rd_T76 l0 x3_1).f0) t247).bind fun bt250 => (if ((rd_T76 l0 x3_1).f0) ≥ 1 then (lecternlaw24_QuorumExact.j2 kj1 l0 x3_1 t247 bt250.1 bt250.2 (decide (((rd_T76 l0 x3_1).f0) ≤ 7)) ((rd_T76 l0 x3_1).f0) ((rd_T76 l0 x3_1).f1) ((rd_T76 l0 x3_1).f2)) else (lecternlaw24_QuorumExact.j2 kj1 l0 x3_1 t247 bt250.1 bt250.2 false ((rd_T76 l0 x3_1).f0) ((rd_T76 l0 x3_1).f1) ((rd_T76 l0 x3_1).f2)))) = some r := H
                  have A12 := Aside0.mk A120
                  clear A120
                  replace H := Option.bind_eq_some_iff.mp H
                  obtain ⟨⟨t250, t251⟩, A130, H⟩ := H
                  replace H : (if ((rd_T76 l0 x3_1).f0) ≥ 1 then (lecternlaw24_QuorumExact.j2 kj1 l0 x3_1 t247 t250 t251 (decide (((rd_T76 l0 x3_1).f0) ≤ 7)) ((rd_T76 l0 x3_1).f0) ((rd_T76 l0 x3_1).f1) ((rd_T76 l0 x3_1).f2)) else (lecternlaw24_QuorumExact.j2 kj1 l0 x3_1 t247 t250 t251 false ((rd_T76 l0 x3_1).f0) ((rd_T76 l0 x3_1).f1) ((rd_T76 l0 x3_1).f2))) = some r := H
                  have A13 := Aside0.mk A130
                  clear A130
                  have HC14 := Aside0.mk H
                  clear H
                  have p244 : 0 ≤ (x3_1 : Int) := of_decide_eq_true (by first | (with_reducible assumption) | assumption)
                  have q244 : x3_1 < (l0.length : Int) := of_decide_eq_true (by first | (with_reducible assumption) | assumption)
                  obtain ⟨ad244, A244_1, c244_1, A244_2, c244_2, e244, hx244_0, hx244_1, hx244_2, hl244_1, hi244_1, hl244_2, hi244_2⟩ := at_T76 HR0.out x3_1 p244 q244
                  cases e244
                  replace hx244_0 := (HB.out.cell (World.block_lt_of_cell? w _ hx244_0)).trans hx244_0
                  replace hx244_1 := (HB.out.cell (World.block_lt_of_cell? w _ hx244_1)).trans hx244_1
                  replace hx244_2 := (HB.out.cell (World.block_lt_of_cell? w _ hx244_2)).trans hx244_2
                  have HR244_1 := Aside0.mk hi244_1
                  have HC244_1 := Aside0.mk hl244_1
                  clear hi244_1 hl244_1
                  have HR244_2 := Aside0.mk hi244_2
                  have HC244_2 := Aside0.mk hl244_2
                  clear hi244_2 hl244_2
                  replace p244 := eq_true p244
                  replace q244 := eq_true q244
                  go_upto_region 9 with (first | ((with_reducible refine gate_dst (N := 4) rfl ?_); (try (refine gate_guard (by rfl) ?_; dsimp only)); refine box_event ?hg (N := 4) ?hd (cs := #[.int .i64 0, .slice none 0 0, .slice none 0 0]) (t := 76) ?hr ?_; (case hd => rfl); (case hg => rfl); (case hr => first | (go_simp; done) | (go_simp; rfl)); intro gb245 hg w15 hbox hb; have n0_ := Aside0.mk (below_step (by repeat (first | (with_reducible first | exact HB.out | apply below_alloc | apply pw_below_drewN | apply below_drew1) | exact HB.out)) hb); have n1_ := Aside0.mk (hbox); have n2_ := Aside0.mk ((by rw [hg]; exact (below_size (by repeat (first | (with_reducible first | exact HB.out | apply below_alloc | apply pw_below_drewN | apply below_drew1) | exact HB.out))) : w.heap.size ≤ gb245)); have n3_ := Aside0.mk ((by rw [hg]; exact (below_size (by repeat (first | (with_reducible first | exact HB.out | apply below_alloc | apply pw_below_drewN | apply below_drew1) | exact HB.out))) : w.heap.size ≤ gb245)); clear HB; have HB := n0_; have BK245 := n1_; have GW245 := n2_; have GE245 := n3_; clear n0_ n1_ n2_ n3_; clear hb hbox hg; have hcz16_0 : w15.cell? ⟨gb245, 0, none⟩ = some (.int .i64 0) := (blk_cell BK245.out 0).trans rfl; have hcz16_1 : w15.cell? ⟨gb245, 1, none⟩ = some (.slice none 0 0) := (blk_cell BK245.out 1).trans rfl; have hcz16_2 : w15.cell? ⟨gb245, 2, none⟩ = some (.slice none 0 0) := (blk_cell BK245.out 2).trans rfl; have hfz16_0 := blk_frozen BK245.out 0; have hfz16_1 := blk_frozen BK245.out 1; have hfz16_2 := blk_frozen BK245.out 2) | ((with_reducible refine gate_callee (f := 45) rfl ?_); refine goesL_ (some 30) rfl rfl Try.func45 (by kernel_rfl) rfl #[.agg #[.int .i64 ((rd_T76 l0 x3_1).f0), .slice A244_1 ((rd_T76 l0 x3_1).f1).length c244_1, .slice A244_2 ((rd_T76 l0 x3_1).f2).length c244_2]] rfl (by (try simp only [List.map_toArray, List.map_cons, List.map_nil]); first | done | rfl | (simp only [List.length_drop, List.length_take]; rfl)) ?_; (with_reducible refine (lecternlaw24_heavy.calls ((rd_T76 l0 x3_1).f0) _ _ ((rd_T76 l0 x3_1).f1) _ _ ((rd_T76 l0 x3_1).f2) false _ ?side1 ?side2 ?side3 ?side4 A7.out).mono ?_); (case side1 => exact Kd.C_below HR244_1.out (by repeat (first | (with_reducible first | exact HB.out | apply below_alloc | apply pw_below_drewN | apply below_drew1 | refine below_set ?_ GE245.out) | exact HB.out))); (case side2 => exact HC244_1.out); (case side3 => exact Kd.C_below HR244_2.out (by repeat (first | (with_reducible first | exact HB.out | apply below_alloc | apply pw_below_drewN | apply below_drew1 | refine below_set ?_ GE245.out) | exact HB.out))); (case side4 => exact HC244_2.out); rintro e w17 ⟨rfl, hb⟩; refine ⟨_, rfl, ?_⟩; have n0_ := Aside0.mk (blk_below (g := gb245) (o := .cells #[.int .i64 ((rd_T76 l0 x3_1).f0), .slice A244_1 ((rd_T76 l0 x3_1).f1).length c244_1, .slice A244_2 ((rd_T76 l0 x3_1).f2).length c244_2] 76 (0, 0)) (by (with_reducible repeat (first | refine blk_drewN ?_ _ | refine blk_drew ?_ | refine blk_alloc ?_ _)); refine blk_put (cs := #[.int .i64 ((rd_T76 l0 x3_1).f0), .slice A244_1 ((rd_T76 l0 x3_1).f1).length c244_1, .slice none 0 0]) ?_ 2 _ rfl; (with_reducible repeat (first | refine blk_drewN ?_ _ | refine blk_drew ?_ | refine blk_alloc ?_ _)); refine blk_put (cs := #[.int .i64 ((rd_T76 l0 x3_1).f0), .slice none 0 0, .slice none 0 0]) ?_ 1 _ rfl; (with_reducible repeat (first | refine blk_drewN ?_ _ | refine blk_drew ?_ | refine blk_alloc ?_ _)); refine blk_put (cs := #[.int .i64 0, .slice none 0 0, .slice none 0 0]) ?_ 0 _ rfl; (with_reducible repeat (first | refine blk_drewN ?_ _ | refine blk_drew ?_ | refine blk_alloc ?_ _)); exact BK245.out) hb); have n1_ := Aside0.mk (below_step (by repeat (first | (with_reducible first | exact HB.out | apply below_alloc | apply pw_below_drewN | apply below_drew1 | refine below_set ?_ GE245.out) | exact HB.out)) hb); clear BK245; clear HB; have BK245 := n0_; have HB := n1_; clear n0_ n1_; (try clear hb); (try clear hb2); (try clear hk); (try clear hi); have hcz18_0 : w17.cell? ⟨gb245, 0, none⟩ = some (.int .i64 ((rd_T76 l0 x3_1).f0)) := (blk_cell BK245.out 0).trans rfl; have hcz18_1 : w17.cell? ⟨gb245, 1, none⟩ = some (.slice A244_1 ((rd_T76 l0 x3_1).f1).length c244_1) := (blk_cell BK245.out 1).trans rfl; have hcz18_2 : w17.cell? ⟨gb245, 2, none⟩ = some (.slice A244_2 ((rd_T76 l0 x3_1).f2).length c244_2) := (blk_cell BK245.out 2).trans rfl; have hfz18_0 := blk_frozen BK245.out 0; have hfz18_1 := blk_frozen BK245.out 1; have hfz18_2 := blk_frozen BK245.out 2) | ((with_reducible refine gate_callee (f := 24) rfl ?_); refine goesL_ (some 33) rfl rfl Try.func24 (by kernel_rfl) rfl #[.slice A244_1 ((rd_T76 l0 x3_1).f1).length c244_1] rfl (by (try simp only [List.map_toArray, List.map_cons, List.map_nil]); first | done | rfl | (simp only [List.length_drop, List.length_take]; rfl)) ?_; (with_reducible refine (lecternref0_CopyNumbers.calls kj1 _ _ ((rd_T76 l0 x3_1).f1) t247 _ ?side1 ?side2 A12.out).mono ?_); (case side1 => repeat (first | exact (Kd.C_below HR244_1.out HB.out) | (with_reducible refine Kd.C_alloc ?_ _) | (with_reducible refine Kd.C_drewN ?_ _) | (with_reducible refine Kd.C_drew ?_))); (case side2 => exact HC244_1.out); rintro e w19 ⟨v248, rfl, ho0, hb⟩; refine ⟨_, rfl, ?_⟩; have n0_ := Aside0.mk (Kd.R_lower ho0 (below_size (by repeat (first | (with_reducible first | exact HB.out | apply below_alloc | apply pw_below_drewN | apply below_drew1 | refine below_set ?_ GE245.out) | exact HB.out)))); have n1_ := Aside0.mk (blk_below (g := gb245) (o := .cells #[.int .i64 ((rd_T76 l0 x3_1).f0), .slice A244_1 ((rd_T76 l0 x3_1).f1).length c244_1, .slice A244_2 ((rd_T76 l0 x3_1).f2).length c244_2] 76 (0, 0)) (by (with_reducible repeat (first | refine blk_drewN ?_ _ | refine blk_drew ?_ | refine blk_alloc ?_ _)); exact BK245.out) hb); have n2_ := Aside0.mk (below_step (by repeat (first | (with_reducible first | exact HB.out | apply below_alloc | apply pw_below_drewN | apply below_drew1 | refine below_set ?_ GE245.out) | exact HB.out)) hb); clear BK245; clear HB; have HO249 := n0_; have BK245 := n1_; have HB := n2_; clear n0_ n1_ n2_; (try clear hb); (try clear hb2); (try clear hk); (try clear hi); (try clear ho0); have hcz20_0 : w19.cell? ⟨gb245, 0, none⟩ = some (.int .i64 ((rd_T76 l0 x3_1).f0)) := (blk_cell BK245.out 0).trans rfl; have hcz20_1 : w19.cell? ⟨gb245, 1, none⟩ = some (.slice A244_1 ((rd_T76 l0 x3_1).f1).length c244_1) := (blk_cell BK245.out 1).trans rfl; have hcz20_2 : w19.cell? ⟨gb245, 2, none⟩ = some (.slice A244_2 ((rd_T76 l0 x3_1).f2).length c244_2) := (blk_cell BK245.out 2).trans rfl; have hfz20_0 := blk_frozen BK245.out 0; have hfz20_1 := blk_frozen BK245.out 1; have hfz20_2 := blk_frozen BK245.out 2; obtain ⟨Ao21, co21, eo21⟩ := Kd.R_slice HO249.out; subst eo21) | ((with_reducible refine gate_callee (f := 46) rfl ?_); refine goesL_ (some 38) rfl rfl Try.func46 (by kernel_rfl) rfl #[.int .i64 ((rd_T76 l0 x3_1).f0), .slice Ao21 t247.length co21] rfl (by (try simp only [List.map_toArray, List.map_cons, List.map_nil]); first | done | rfl | (simp only [List.length_drop, List.length_take]; rfl)) ?_; (with_reducible refine (quorum_Enough.calls kj1 ((rd_T76 l0 x3_1).f0) _ _ t247 t250 t251 _ ?side1 ?side2 A13.out).mono ?_); (case side1 => repeat (first | exact (Kd.R_reads' HO249.out).2.2 | (with_reducible refine Kd.C_alloc ?_ _) | (with_reducible refine Kd.C_drewN ?_ _) | (with_reducible refine Kd.C_drew ?_))); (case side2 => exact (Kd.R_reads' HO249.out).2.1); rintro e w' ⟨rfl, ⟨nd, rfl⟩⟩; refine ⟨_, rfl, ?_⟩))
                  (try simp only [Act.put, List.setIfInBounds_toArray, List.set_cons_zero, List.set_cons_succ])
                  go_cut [8] (fun v8 wc => ∃ (kq : Nat) (x8_13 : Bool), v8 = .bool x8_13 ∧ Aside0 (lecternlaw24_QuorumExact.j2 kq l0 x3_1 t247 t250 t251 x8_13 ((rd_T76 l0 x3_1).f0) ((rd_T76 l0 x3_1).f1) ((rd_T76 l0 x3_1).f2) = some r) ∧ Aside0 (kq ≤ kj1) ∧ Aside0 (Kd.R (Kd.int .i64) 3 wc w.heap.size (fun _ => True) (.slice Ao21 t247.length co21) t247) ∧ Aside0 (wc.heap[gb245]? = some (.cells #[.int .i64 ((rd_T76 l0 x3_1).f0), (.slice A244_1 ((rd_T76 l0 x3_1).f1).length c244_1), (.slice A244_2 ((rd_T76 l0 x3_1).f2).length c244_2)] 76 (0, 0))) ∧ Aside0 (Below w.heap.size w wc))
                  case first =>
                    have H := HC14.out
                    clear HC14
                    by_cases c22 : ((rd_T76 l0 x3_1).f0) ≥ 1
                    · rw [if_pos c22] at H
                      have c22b0 : decide (1 ≤ ((rd_T76 l0 x3_1).f0)) = true := decide_eq_true c22
                      clear c22
                      (first | rw [c22b0] | (simp only [i64_w, i32_w]; rw [c22b0]) | skip)
                      have H' := Aside0.mk H
                      clear H
                      have hcz23_0 : w19.cell? ⟨gb245, 0, none⟩ = some (.int .i64 ((rd_T76 l0 x3_1).f0)) := (blk_cell BK245.out 0).trans rfl
                      have hcz23_1 : w19.cell? ⟨gb245, 1, none⟩ = some (.slice A244_1 ((rd_T76 l0 x3_1).f1).length c244_1) := (blk_cell BK245.out 1).trans rfl
                      have hcz23_2 : w19.cell? ⟨gb245, 2, none⟩ = some (.slice A244_2 ((rd_T76 l0 x3_1).f2).length c244_2) := (blk_cell BK245.out 2).trans rfl
                      have hfz23_0 := blk_frozen BK245.out 0
                      have hfz23_1 := blk_frozen BK245.out 1
                      have hfz23_2 := blk_frozen BK245.out 2
                      go_wp2
                      go_meet
                      case rel => exact ⟨_, (decide (((rd_T76 l0 x3_1).f0) ≤ 7)), (by first | rfl | (simp; done) | (simp [*]; done)), H', ⟨by have := HK1.out; have := HJ1.out; first | omega | exact Nat.le_refl _⟩, ⟨by (with_reducible repeat (first | apply Kd.R_alloc | apply Kd.R_drewN | apply Kd.R_drew)); exact HO249.out⟩, ⟨by (with_reducible repeat (first | refine blk_drewN ?_ _ | refine blk_drew ?_ | refine blk_alloc ?_ _)); exact BK245.out⟩, ⟨by repeat (first | (with_reducible first | exact HB.out | apply below_alloc | apply pw_below_drewN | apply below_drew1 | refine below_set ?_ GE245.out) | exact HB.out)⟩⟩
                    · rw [if_neg c22] at H
                      have c22b0 : decide (1 ≤ ((rd_T76 l0 x3_1).f0)) = false := decide_eq_false c22
                      clear c22
                      (first | rw [c22b0] | (simp only [i64_w, i32_w]; rw [c22b0]) | skip)
                      have H' := Aside0.mk H
                      clear H
                      have hcz24_0 : w19.cell? ⟨gb245, 0, none⟩ = some (.int .i64 ((rd_T76 l0 x3_1).f0)) := (blk_cell BK245.out 0).trans rfl
                      have hcz24_1 : w19.cell? ⟨gb245, 1, none⟩ = some (.slice A244_1 ((rd_T76 l0 x3_1).f1).length c244_1) := (blk_cell BK245.out 1).trans rfl
                      have hcz24_2 : w19.cell? ⟨gb245, 2, none⟩ = some (.slice A244_2 ((rd_T76 l0 x3_1).f2).length c244_2) := (blk_cell BK245.out 2).trans rfl
                      have hfz24_0 := blk_frozen BK245.out 0
                      have hfz24_1 := blk_frozen BK245.out 1
                      have hfz24_2 := blk_frozen BK245.out 2
                      go_wp2
                      go_meet
                      case rel => exact ⟨_, (false), (by first | rfl | (simp; done) | (simp [*]; done)), H', ⟨by have := HK1.out; have := HJ1.out; first | omega | exact Nat.le_refl _⟩, ⟨by (with_reducible repeat (first | apply Kd.R_alloc | apply Kd.R_drewN | apply Kd.R_drew)); exact HO249.out⟩, ⟨by (with_reducible repeat (first | refine blk_drewN ?_ _ | refine blk_drew ?_ | refine blk_alloc ?_ _)); exact BK245.out⟩, ⟨by repeat (first | (with_reducible first | exact HB.out | apply below_alloc | apply pw_below_drewN | apply below_drew1 | refine below_set ?_ GE245.out) | exact HB.out)⟩⟩
                  case rest =>
                    clear HC14
                    try clear c1
                    try clear c2
                    try clear p2
                    try clear q2
                    try clear hx2
                    try clear c3
                    try clear c3b0
                    try clear c4
                    try clear c5
                    try clear c5b0
                    try clear c6
                    try clear c6b0
                    try clear c8
                    try clear c11
                    try clear c22
                    try clear c22b0
                    try clear c24
                    try clear p24
                    try clear q24
                    try clear hx24
                    try clear hcz10_0
                    try clear hcz10_1
                    try clear hcz10_2
                    try clear hcz16_0
                    try clear hcz16_1
                    try clear hcz16_2
                    try clear hcz18_0
                    try clear hcz18_1
                    try clear hcz18_2
                    try clear hcz20_0
                    try clear hcz20_1
                    try clear hcz20_2
                    try clear hcz23_0
                    try clear hcz23_1
                    try clear hcz23_2
                    try clear hcz24_0
                    try clear hcz24_1
                    try clear hcz24_2
                    try clear hfz10_0
                    try clear hfz10_1
                    try clear hfz10_2
                    try clear hfz16_0
                    try clear hfz16_1
                    try clear hfz16_2
                    try clear hfz18_0
                    try clear hfz18_1
                    try clear hfz18_2
                    try clear hfz20_0
                    try clear hfz20_1
                    try clear hfz20_2
                    try clear hfz23_0
                    try clear hfz23_1
                    try clear hfz23_2
                    try clear hfz24_0
                    try clear hfz24_1
                    try clear hfz24_2
                    try clear hx244_0
                    try clear hx244_1
                    try clear hx244_2
                    try clear p2
                    try clear p244
                    try clear q244
                    obtain ⟨kq, x8_13, rfl, HA, HJ13, HO_5, BK245, HB⟩ := hcut
                    cases kq with
                    | zero => exact absurd HA.out (by simp [lecternlaw24_QuorumExact.j2])
                    | succ kj13 =>
                      have H := HA.out
                      clear HA
                      simp only [lecternlaw24_QuorumExact.j2] at H
                      have HC25 := Aside0.mk H
                      clear H
                      go_upto_region 10 with (fail)
                      go_cut [81] (fun v81 wc => ∃ (kq : Nat) (x81_24 : Bool), v81 = .bool x81_24 ∧ Aside0 (lecternlaw24_QuorumExact.j3 kq l0 x3_1 x81_24 ((rd_T76 l0 x3_1).f0) ((rd_T76 l0 x3_1).f1) ((rd_T76 l0 x3_1).f2) = some r) ∧ Aside0 (kq ≤ kj13) ∧ Aside0 (wc.heap[gb245]? = some (.cells #[.int .i64 ((rd_T76 l0 x3_1).f0), (.slice A244_1 ((rd_T76 l0 x3_1).f1).length c244_1), (.slice A244_2 ((rd_T76 l0 x3_1).f2).length c244_2)] 76 (0, 0))) ∧ Aside0 (Below w.heap.size w wc))
                      case first =>
                        have H := HC25.out
                        clear HC25
                        replace H := Option.bind_eq_some_iff.mp H
                        obtain ⟨t252, A260, H⟩ := H
                        replace H : (if (x8_13 != (t252 == 0)) = true then (lecternlaw24_QuorumExact.j3 kj13 l0 x3_1 true ((rd_T76 l0 x3_1).f0) ((rd_T76 l0 x3_1).f1) ((rd_T76 l0 x3_1).f2)) else (if x8_13 = true then ((lecternref23_Enough.f kj13 ((rd_T76 l0 x3_1).f0) ((rd_T76 l0 x3_1).f1)).bind fun t253 => (if (t250 != t253) = true then (lecternlaw24_QuorumExact.j3 kj13 l0 x3_1 true ((rd_T76 l0 x3_1).f0) ((rd_T76 l0 x3_1).f1) ((rd_T76 l0 x3_1).f2)) else ((lecternref0_EqNumbers.f kj13 t247 ((rd_T76 l0 x3_1).f1)).bind fun t254 => (lecternlaw24_QuorumExact.j3 kj13 l0 x3_1 (!t254) ((rd_T76 l0 x3_1).f0) ((rd_T76 l0 x3_1).f1) ((rd_T76 l0 x3_1).f2))))) else ((lecternlaw24_num.f t251).bind fun t255 => (if t255 = 1 then (if (t250 != false) = true then (lecternlaw24_QuorumExact.j3 kj13 l0 x3_1 true ((rd_T76 l0 x3_1).f0) ((rd_T76 l0 x3_1).f1) ((rd_T76 l0 x3_1).f2)) else ((lecternref0_EqNumbers.f kj13 t247 ((rd_T76 l0 x3_1).f1)).bind fun t256 => (lecternlaw24_QuorumExact.j3 kj13 l0 x3_1 (!t256) ((rd_T76 l0 x3_1).f0) ((rd_T76 l0 x3_1).f1) ((rd_T76 l0 x3_1).f2)))) else (lecternlaw24_QuorumExact.j3 kj13 l0 x3_1 true ((rd_T76 l0 x3_1).f0) ((rd_T76 l0 x3_1).f1) ((rd_T76 l0 x3_1).f2)))))) = some r := H
                        have A26 := Aside0.mk A260
                        clear A260
                        by_cases c27 : (x8_13 != (t252 == 0)) = true
                        · rw [if_pos c27] at H
                          have c27b0 : (x8_13 != (t252 == 0)) = true := c27
                          (try (have c27b1 : decide (x8_13 = (t252 == 0)) = false := by simpa using c27))
                          (try (have c27b2 : (x8_13 == (t252 == 0)) = false := by simpa using c27))
                          (try (have c27b3 : ¬ (x8_13 = (t252 == 0)) := by simpa using c27))
                          clear c27
                          (first | rw [c27b0] | (simp only [i64_w, i32_w]; rw [c27b0]) | skip)
                          have H' := Aside0.mk H
                          clear H
                          go_wp2_with (first | ((with_reducible refine gate_callee (f := 47) rfl ?_); refine goesL_ (some 51) rfl rfl Try.func47 (by kernel_rfl) rfl #[.int .i64 t251] rfl (by (try simp only [List.map_toArray, List.map_cons, List.map_nil]); first | done | rfl | (simp only [List.length_drop, List.length_take]; rfl)) ?_; (with_reducible refine (lecternlaw24_num.calls t251 t252 _ A26.out).mono ?_); rintro e w' ⟨rfl, ⟨nd, rfl⟩⟩; refine ⟨_, rfl, ?_⟩))
                          go_meet
                          case rel => exact ⟨_, (true), (by first | rfl | (simp; done) | (simp [*]; done)), H', ⟨by have := HK1.out; have := HJ1.out; have := HJ13.out; first | omega | exact Nat.le_refl _⟩, ⟨by (with_reducible repeat (first | refine blk_drewN ?_ _ | refine blk_drew ?_ | refine blk_alloc ?_ _)); exact BK245.out⟩, ⟨by repeat (first | (with_reducible first | exact HB.out | apply below_alloc | apply pw_below_drewN | apply below_drew1 | refine below_set ?_ GE245.out) | exact HB.out)⟩⟩
                        · rw [if_neg c27] at H
                          have c27b0 : (x8_13 != (t252 == 0)) = false := by simpa using c27
                          (try (have c27b1 : decide (x8_13 = (t252 == 0)) = true := by simpa using c27))
                          (try (have c27b2 : (x8_13 == (t252 == 0)) = true := by simpa using c27))
                          clear c27
                          (first | rw [c27b0] | (simp only [i64_w, i32_w]; rw [c27b0]) | skip)
                          by_cases c28 : x8_13 = true
                          · subst c28
                            have H1 : ((lecternref23_Enough.f kj13 ((rd_T76 l0 x3_1).f0) ((rd_T76 l0 x3_1).f1)).bind fun t253 => (if (t250 != t253) = true then (lecternlaw24_QuorumExact.j3 kj13 l0 x3_1 true ((rd_T76 l0 x3_1).f0) ((rd_T76 l0 x3_1).f1) ((rd_T76 l0 x3_1).f2)) else ((lecternref0_EqNumbers.f kj13 t247 ((rd_T76 l0 x3_1).f1)).bind fun t254 => (lecternlaw24_QuorumExact.j3 kj13 l0 x3_1 (!t254) ((rd_T76 l0 x3_1).f0) ((rd_T76 l0 x3_1).f1) ((rd_T76 l0 x3_1).f2))))) = some r := by rw [if_pos rfl] at H; exact H
                            clear H
                            have H := H1
                            clear H1
                            replace H := Option.bind_eq_some_iff.mp H
                            obtain ⟨t253, A290, H⟩ := H
                            replace H : (if (t250 != t253) = true then (lecternlaw24_QuorumExact.j3 kj13 l0 x3_1 true ((rd_T76 l0 x3_1).f0) ((rd_T76 l0 x3_1).f1) ((rd_T76 l0 x3_1).f2)) else ((lecternref0_EqNumbers.f kj13 t247 ((rd_T76 l0 x3_1).f1)).bind fun t254 => (lecternlaw24_QuorumExact.j3 kj13 l0 x3_1 (!t254) ((rd_T76 l0 x3_1).f0) ((rd_T76 l0 x3_1).f1) ((rd_T76 l0 x3_1).f2)))) = some r := H
                            have A29 := Aside0.mk A290
                            clear A290
                            by_cases c30 : (t250 != t253) = true
                            · rw [if_pos c30] at H
                              have c30b0 : (t250 != t253) = true := c30
                              (try (have c30b1 : decide (t250 = t253) = false := by simpa using c30))
                              (try (have c30b2 : (t250 == t253) = false := by simpa using c30))
                              (try (have c30b3 : ¬ (t250 = t253) := by simpa using c30))
                              clear c30
                              have H' := Aside0.mk H
                              clear H
                              go_wp2_with (first | ((with_reducible refine gate_callee (f := 47) rfl ?_); refine goesL_ (some 51) rfl rfl Try.func47 (by kernel_rfl) rfl #[.int .i64 t251] rfl (by (try simp only [List.map_toArray, List.map_cons, List.map_nil]); first | done | rfl | (simp only [List.length_drop, List.length_take]; rfl)) ?_; (with_reducible refine (lecternlaw24_num.calls t251 t252 _ A26.out).mono ?_); rintro e w' ⟨rfl, ⟨nd, rfl⟩⟩; refine ⟨_, rfl, ?_⟩; have hcz31_0 : wc.cell? ⟨gb245, 0, none⟩ = some (.int .i64 ((rd_T76 l0 x3_1).f0)) := (blk_cell BK245.out 0).trans rfl; have hcz31_1 : wc.cell? ⟨gb245, 1, none⟩ = some (.slice A244_1 ((rd_T76 l0 x3_1).f1).length c244_1) := (blk_cell BK245.out 1).trans rfl; have hcz31_2 : wc.cell? ⟨gb245, 2, none⟩ = some (.slice A244_2 ((rd_T76 l0 x3_1).f2).length c244_2) := (blk_cell BK245.out 2).trans rfl; have hfz31_0 := blk_frozen BK245.out 0; have hfz31_1 := blk_frozen BK245.out 1; have hfz31_2 := blk_frozen BK245.out 2) | (go_at_call 48; (with_reducible refine (lecternref23_Enough.calls kj13 ((rd_T76 l0 x3_1).f0) _ _ ((rd_T76 l0 x3_1).f1) t253 _ ?side1 ?side2 A29.out).mono ?_); (case side1 => repeat (first | exact (Kd.C_below HR244_1.out (by repeat (first | (with_reducible first | exact HB.out | apply below_alloc | apply pw_below_drewN | apply below_drew1 | refine below_set ?_ GE245.out) | exact HB.out))) | (with_reducible refine Kd.C_alloc ?_ _) | (with_reducible refine Kd.C_drewN ?_ _) | (with_reducible refine Kd.C_drew ?_))); (case side2 => exact HC244_1.out); rintro e w' ⟨rfl, ⟨nd, rfl⟩⟩))
                              go_meet
                              case rel => exact ⟨_, (true), (by first | rfl | (simp; done) | (simp [*]; done)), H', ⟨by have := HK1.out; have := HJ1.out; have := HJ13.out; first | omega | exact Nat.le_refl _⟩, ⟨by (with_reducible repeat (first | refine blk_drewN ?_ _ | refine blk_drew ?_ | refine blk_alloc ?_ _)); exact BK245.out⟩, ⟨by repeat (first | (with_reducible first | exact HB.out | apply below_alloc | apply pw_below_drewN | apply below_drew1 | refine below_set ?_ GE245.out) | exact HB.out)⟩⟩
                            · rw [if_neg c30] at H
                              have c30b0 : (t250 != t253) = false := by simpa using c30
                              (try (have c30b1 : decide (t250 = t253) = true := by simpa using c30))
                              (try (have c30b2 : (t250 == t253) = true := by simpa using c30))
                              clear c30
                              replace H := Option.bind_eq_some_iff.mp H
                              obtain ⟨t254, A320, H⟩ := H
                              replace H : (lecternlaw24_QuorumExact.j3 kj13 l0 x3_1 (!t254) ((rd_T76 l0 x3_1).f0) ((rd_T76 l0 x3_1).f1) ((rd_T76 l0 x3_1).f2)) = some r := H
                              have A32 := Aside0.mk A320
                              clear A320
                              have H' := Aside0.mk H
                              clear H
                              go_wp2_with (first | ((with_reducible refine gate_callee (f := 47) rfl ?_); refine goesL_ (some 51) rfl rfl Try.func47 (by kernel_rfl) rfl #[.int .i64 t251] rfl (by (try simp only [List.map_toArray, List.map_cons, List.map_nil]); first | done | rfl | (simp only [List.length_drop, List.length_take]; rfl)) ?_; (with_reducible refine (lecternlaw24_num.calls t251 t252 _ A26.out).mono ?_); rintro e w' ⟨rfl, ⟨nd, rfl⟩⟩; refine ⟨_, rfl, ?_⟩; have hcz33_0 : wc.cell? ⟨gb245, 0, none⟩ = some (.int .i64 ((rd_T76 l0 x3_1).f0)) := (blk_cell BK245.out 0).trans rfl; have hcz33_1 : wc.cell? ⟨gb245, 1, none⟩ = some (.slice A244_1 ((rd_T76 l0 x3_1).f1).length c244_1) := (blk_cell BK245.out 1).trans rfl; have hcz33_2 : wc.cell? ⟨gb245, 2, none⟩ = some (.slice A244_2 ((rd_T76 l0 x3_1).f2).length c244_2) := (blk_cell BK245.out 2).trans rfl; have hfz33_0 := blk_frozen BK245.out 0; have hfz33_1 := blk_frozen BK245.out 1; have hfz33_2 := blk_frozen BK245.out 2) | (go_at_call 48; (with_reducible refine (lecternref23_Enough.calls kj13 ((rd_T76 l0 x3_1).f0) _ _ ((rd_T76 l0 x3_1).f1) t253 _ ?side1 ?side2 A29.out).mono ?_); (case side1 => repeat (first | exact (Kd.C_below HR244_1.out (by repeat (first | (with_reducible first | exact HB.out | apply below_alloc | apply pw_below_drewN | apply below_drew1 | refine below_set ?_ GE245.out) | exact HB.out))) | (with_reducible refine Kd.C_alloc ?_ _) | (with_reducible refine Kd.C_drewN ?_ _) | (with_reducible refine Kd.C_drew ?_))); (case side2 => exact HC244_1.out); rintro e w' ⟨rfl, ⟨nd, rfl⟩⟩) | (go_at_call 49; (with_reducible refine (lecternref0_EqNumbers.calls kj13 _ _ t247 _ _ ((rd_T76 l0 x3_1).f1) t254 _ ?side1 ?side2 ?side3 ?side4 A32.out).mono ?_); (case side1 => repeat (first | exact (Kd.R_reads' HO_5.out).2.2 | (with_reducible refine Kd.C_alloc ?_ _) | (with_reducible refine Kd.C_drewN ?_ _) | (with_reducible refine Kd.C_drew ?_))); (case side2 => exact (Kd.R_reads' HO_5.out).2.1); (case side3 => repeat (first | exact (Kd.C_below HR244_1.out (by repeat (first | (with_reducible first | exact HB.out | apply below_alloc | apply pw_below_drewN | apply below_drew1 | refine below_set ?_ GE245.out) | exact HB.out))) | (with_reducible refine Kd.C_alloc ?_ _) | (with_reducible refine Kd.C_drewN ?_ _) | (with_reducible refine Kd.C_drew ?_))); (case side4 => exact HC244_1.out); rintro e w' ⟨rfl, ⟨nd, rfl⟩⟩))
                              go_meet
                              case rel => exact ⟨_, (!t254), (by first | rfl | (simp; done) | (simp [*]; done)), H', ⟨by have := HK1.out; have := HJ1.out; have := HJ13.out; first | omega | exact Nat.le_refl _⟩, ⟨by (with_reducible repeat (first | refine blk_drewN ?_ _ | refine blk_drew ?_ | refine blk_alloc ?_ _)); exact BK245.out⟩, ⟨by repeat (first | (with_reducible first | exact HB.out | apply below_alloc | apply pw_below_drewN | apply below_drew1 | refine below_set ?_ GE245.out) | exact HB.out)⟩⟩
                          · replace c28 := Bool.eq_false_iff.mpr c28
                            subst c28
                            have H1 : ((lecternlaw24_num.f t251).bind fun t255 => (if t255 = 1 then (if (t250 != false) = true then (lecternlaw24_QuorumExact.j3 kj13 l0 x3_1 true ((rd_T76 l0 x3_1).f0) ((rd_T76 l0 x3_1).f1) ((rd_T76 l0 x3_1).f2)) else ((lecternref0_EqNumbers.f kj13 t247 ((rd_T76 l0 x3_1).f1)).bind fun t256 => (lecternlaw24_QuorumExact.j3 kj13 l0 x3_1 (!t256) ((rd_T76 l0 x3_1).f0) ((rd_T76 l0 x3_1).f1) ((rd_T76 l0 x3_1).f2)))) else (lecternlaw24_QuorumExact.j3 kj13 l0 x3_1 true ((rd_T76 l0 x3_1).f0) ((rd_T76 l0 x3_1).f1) ((rd_T76 l0 x3_1).f2)))) = some r := by rw [if_neg (show ¬ (false = true) by decide)] at H; exact H
                            clear H
                            have H := H1
                            clear H1
                            replace H := Option.bind_eq_some_iff.mp H
                            obtain ⟨t255, A340, H⟩ := H
                            replace H : (if t255 = 1 then (if (t250 != false) = true then (lecternlaw24_QuorumExact.j3 kj13 l0 x3_1 true ((rd_T76 l0 x3_1).f0) ((rd_T76 l0 x3_1).f1) ((rd_T76 l0 x3_1).f2)) else ((lecternref0_EqNumbers.f kj13 t247 ((rd_T76 l0 x3_1).f1)).bind fun t256 => (lecternlaw24_QuorumExact.j3 kj13 l0 x3_1 (!t256) ((rd_T76 l0 x3_1).f0) ((rd_T76 l0 x3_1).f1) ((rd_T76 l0 x3_1).f2)))) else (lecternlaw24_QuorumExact.j3 kj13 l0 x3_1 true ((rd_T76 l0 x3_1).f0) ((rd_T76 l0 x3_1).f1) ((rd_T76 l0 x3_1).f2))) = some r := H
                            have A34 := Aside0.mk A340
                            clear A340
                            by_cases c35 : t255 = 1
                            · rw [if_pos c35] at H
                              have c35b0 : (t255 == 1) = true := beq_iff_eq.mpr c35
                              have c35b1 : (t255 != 1) = false := bne_eq_false_iff_eq.mpr c35
                              clear c35
                              by_cases c36 : (t250 != false) = true
                              · rw [if_pos c36] at H
                                have c36b0 : (t250 != false) = true := c36
                                (try (have c36b1 : decide (t250 = false) = false := by simpa using c36))
                                (try (have c36b2 : (t250 == false) = false := by simpa using c36))
                                (try (have c36b3 : ¬ (t250 = false) := by simpa using c36))
                                clear c36
                                obtain rfl : t250 = true := by simpa using c36b0
                                have H' := Aside0.mk H
                                clear H
                                go_wp2_with (first | ((with_reducible refine gate_callee (f := 47) rfl ?_); refine goesL_ (some 51) rfl rfl Try.func47 (by kernel_rfl) rfl #[.int .i64 t251] rfl (by (try simp only [List.map_toArray, List.map_cons, List.map_nil]); first | done | rfl | (simp only [List.length_drop, List.length_take]; rfl)) ?_; (with_reducible refine (lecternlaw24_num.calls t251 t252 _ A26.out).mono ?_); rintro e w' ⟨rfl, ⟨nd, rfl⟩⟩; refine ⟨_, rfl, ?_⟩) | (go_at_call 47; (with_reducible refine (lecternlaw24_num.calls t251 t255 _ A34.out).mono ?_); rintro e w' ⟨rfl, ⟨nd, rfl⟩⟩))
                                go_meet
                                case rel => exact ⟨_, (true), (by first | rfl | (simp; done) | (simp [*]; done)), H', ⟨by have := HK1.out; have := HJ1.out; have := HJ13.out; first | omega | exact Nat.le_refl _⟩, ⟨by (with_reducible repeat (first | refine blk_drewN ?_ _ | refine blk_drew ?_ | refine blk_alloc ?_ _)); exact BK245.out⟩, ⟨by repeat (first | (with_reducible first | exact HB.out | apply below_alloc | apply pw_below_drewN | apply below_drew1 | refine below_set ?_ GE245.out) | exact HB.out)⟩⟩
                              · rw [if_neg c36] at H
                                have c36b0 : (t250 != false) = false := by simpa using c36
                                (try (have c36b1 : decide (t250 = false) = true := by simpa using c36))
                                (try (have c36b2 : (t250 == false) = true := by simpa using c36))
                                clear c36
                                replace H := Option.bind_eq_some_iff.mp H
                                obtain ⟨t256, A370, H⟩ := H
                                replace H : (lecternlaw24_QuorumExact.j3 kj13 l0 x3_1 (!t256) ((rd_T76 l0 x3_1).f0) ((rd_T76 l0 x3_1).f1) ((rd_T76 l0 x3_1).f2)) = some r := H
                                have A37 := Aside0.mk A370
                                clear A370
                                have H' := Aside0.mk H
                                clear H
                                go_wp2_with (first | ((with_reducible refine gate_callee (f := 47) rfl ?_); refine goesL_ (some 51) rfl rfl Try.func47 (by kernel_rfl) rfl #[.int .i64 t251] rfl (by (try simp only [List.map_toArray, List.map_cons, List.map_nil]); first | done | rfl | (simp only [List.length_drop, List.length_take]; rfl)) ?_; (with_reducible refine (lecternlaw24_num.calls t251 t252 _ A26.out).mono ?_); rintro e w' ⟨rfl, ⟨nd, rfl⟩⟩; refine ⟨_, rfl, ?_⟩) | (go_at_call 47; (with_reducible refine (lecternlaw24_num.calls t251 t255 _ A34.out).mono ?_); rintro e w' ⟨rfl, ⟨nd, rfl⟩⟩; have hcz38_0 : wc.cell? ⟨gb245, 0, none⟩ = some (.int .i64 ((rd_T76 l0 x3_1).f0)) := (blk_cell BK245.out 0).trans rfl; have hcz38_1 : wc.cell? ⟨gb245, 1, none⟩ = some (.slice A244_1 ((rd_T76 l0 x3_1).f1).length c244_1) := (blk_cell BK245.out 1).trans rfl; have hcz38_2 : wc.cell? ⟨gb245, 2, none⟩ = some (.slice A244_2 ((rd_T76 l0 x3_1).f2).length c244_2) := (blk_cell BK245.out 2).trans rfl; have hfz38_0 := blk_frozen BK245.out 0; have hfz38_1 := blk_frozen BK245.out 1; have hfz38_2 := blk_frozen BK245.out 2) | (go_at_call 49; (with_reducible refine (lecternref0_EqNumbers.calls kj13 _ _ t247 _ _ ((rd_T76 l0 x3_1).f1) t256 _ ?side1 ?side2 ?side3 ?side4 A37.out).mono ?_); (case side1 => repeat (first | exact (Kd.R_reads' HO_5.out).2.2 | (with_reducible refine Kd.C_alloc ?_ _) | (with_reducible refine Kd.C_drewN ?_ _) | (with_reducible refine Kd.C_drew ?_))); (case side2 => exact (Kd.R_reads' HO_5.out).2.1); (case side3 => repeat (first | exact (Kd.C_below HR244_1.out (by repeat (first | (with_reducible first | exact HB.out | apply below_alloc | apply pw_below_drewN | apply below_drew1 | refine below_set ?_ GE245.out) | exact HB.out))) | (with_reducible refine Kd.C_alloc ?_ _) | (with_reducible refine Kd.C_drewN ?_ _) | (with_reducible refine Kd.C_drew ?_))); (case side4 => exact HC244_1.out); rintro e w' ⟨rfl, ⟨nd, rfl⟩⟩))
                                go_meet
                                case rel => exact ⟨_, (!t256), (by first | rfl | (simp; done) | (simp [*]; done)), H', ⟨by have := HK1.out; have := HJ1.out; have := HJ13.out; first | omega | exact Nat.le_refl _⟩, ⟨by (with_reducible repeat (first | refine blk_drewN ?_ _ | refine blk_drew ?_ | refine blk_alloc ?_ _)); exact BK245.out⟩, ⟨by repeat (first | (with_reducible first | exact HB.out | apply below_alloc | apply pw_below_drewN | apply below_drew1 | refine below_set ?_ GE245.out) | exact HB.out)⟩⟩
                            · rw [if_neg c35] at H
                              have c35b0 : (t255 == 1) = false := beq_eq_false_iff_ne.mpr c35
                              have c35b1 : (t255 != 1) = true := bne_iff_ne.mpr c35
                              have H' := Aside0.mk H
                              clear H
                              go_wp2_with (first | ((with_reducible refine gate_callee (f := 47) rfl ?_); refine goesL_ (some 51) rfl rfl Try.func47 (by kernel_rfl) rfl #[.int .i64 t251] rfl (by (try simp only [List.map_toArray, List.map_cons, List.map_nil]); first | done | rfl | (simp only [List.length_drop, List.length_take]; rfl)) ?_; (with_reducible refine (lecternlaw24_num.calls t251 t252 _ A26.out).mono ?_); rintro e w' ⟨rfl, ⟨nd, rfl⟩⟩; refine ⟨_, rfl, ?_⟩) | (go_at_call 47; (with_reducible refine (lecternlaw24_num.calls t251 t255 _ A34.out).mono ?_); rintro e w' ⟨rfl, ⟨nd, rfl⟩⟩))
                              go_meet
                              case rel => exact ⟨_, (true), (by first | rfl | (simp; done) | (simp [*]; done)), H', ⟨by have := HK1.out; have := HJ1.out; have := HJ13.out; first | omega | exact Nat.le_refl _⟩, ⟨by (with_reducible repeat (first | refine blk_drewN ?_ _ | refine blk_drew ?_ | refine blk_alloc ?_ _)); exact BK245.out⟩, ⟨by repeat (first | (with_reducible first | exact HB.out | apply below_alloc | apply pw_below_drewN | apply below_drew1 | refine below_set ?_ GE245.out) | exact HB.out)⟩⟩
                      case rest =>
                        clear HC25
                        try clear c1
                        try clear c2
                        try clear p2
                        try clear q2
                        try clear hx2
                        try clear c3
                        try clear c3b0
                        try clear c4
                        try clear c5
                        try clear c5b0
                        try clear c6
                        try clear c6b0
                        try clear c8
                        try clear c11
                        try clear c22
                        try clear c22b0
                        try clear c24
                        try clear p24
                        try clear q24
                        try clear hx24
                        try clear c27
                        try clear c27b0
                        try clear c27b1
                        try clear c27b2
                        try clear c28
                        try clear c30
                        try clear c30b0
                        try clear c30b1
                        try clear c30b2
                        try clear c35
                        try clear c35b0
                        try clear c35b1
                        try clear c36
                        try clear c36b0
                        try clear c36b1
                        try clear c36b2
                        try clear hcz10_0
                        try clear hcz10_1
                        try clear hcz10_2
                        try clear hcz16_0
                        try clear hcz16_1
                        try clear hcz16_2
                        try clear hcz18_0
                        try clear hcz18_1
                        try clear hcz18_2
                        try clear hcz20_0
                        try clear hcz20_1
                        try clear hcz20_2
                        try clear hcz23_0
                        try clear hcz23_1
                        try clear hcz23_2
                        try clear hcz24_0
                        try clear hcz24_1
                        try clear hcz24_2
                        try clear hcz31_0
                        try clear hcz31_1
                        try clear hcz31_2
                        try clear hcz33_0
                        try clear hcz33_1
                        try clear hcz33_2
                        try clear hcz38_0
                        try clear hcz38_1
                        try clear hcz38_2
                        try clear hfz10_0
                        try clear hfz10_1
                        try clear hfz10_2
                        try clear hfz16_0
                        try clear hfz16_1
                        try clear hfz16_2
                        try clear hfz18_0
                        try clear hfz18_1
                        try clear hfz18_2
                        try clear hfz20_0
                        try clear hfz20_1
                        try clear hfz20_2
                        try clear hfz23_0
                        try clear hfz23_1
                        try clear hfz23_2
                        try clear hfz24_0
                        try clear hfz24_1
                        try clear hfz24_2
                        try clear hfz31_0
                        try clear hfz31_1
                        try clear hfz31_2
                        try clear hfz33_0
                        try clear hfz33_1
                        try clear hfz33_2
                        try clear hfz38_0
                        try clear hfz38_1
                        try clear hfz38_2
                        try clear hx244_0
                        try clear hx244_1
                        try clear hx244_2
                        try clear p2
                        try clear p24
                        try clear p244
                        try clear q2
                        try clear q24
                        try clear q244
                        obtain ⟨kq, x81_24, rfl, HA, HJ24, BK245, HB⟩ := hcut
                        cases kq with
                        | zero => exact absurd HA.out (by simp [lecternlaw24_QuorumExact.j3])
                        | succ kj24 =>
                          have H := HA.out
                          clear HA
                          simp only [lecternlaw24_QuorumExact.j3] at H
                          by_cases c39 : x81_24 = true
                          · subst c39
                            have H1 : (some false) = some r := by rw [if_pos rfl] at H; exact H
                            clear H
                            have H := H1
                            clear H1
                            obtain rfl := Option.some.inj H
                            go_wp2
                            go_ret
                            exact ⟨by first | rfl | (simp [errW_none, errW_some] <;> rfl) | (simp [*, errW_none, errW_some] <;> rfl), by repeat (first | (with_reducible first | exact HB.out | apply below_alloc | apply pw_below_drewN | apply below_drew1 | refine below_set ?_ GE245.out) | exact HB.out)⟩
                          · replace c39 := Bool.eq_false_iff.mpr c39
                            subst c39
                            have H1 : (if (((rd_T76 l0 x3_1).f2).length : Int) ≥ 1 then (lecternlaw24_QuorumExact.j4 kj24 l0 x3_1 (decide ((((rd_T76 l0 x3_1).f2).length : Int) ≤ 7)) ((rd_T76 l0 x3_1).f0) ((rd_T76 l0 x3_1).f1) ((rd_T76 l0 x3_1).f2)) else (lecternlaw24_QuorumExact.j4 kj24 l0 x3_1 false ((rd_T76 l0 x3_1).f0) ((rd_T76 l0 x3_1).f1) ((rd_T76 l0 x3_1).f2))) = some r := by rw [if_neg (show ¬ (false = true) by decide)] at H; exact H
                            clear H
                            have H := H1
                            clear H1
                            have HC40 := Aside0.mk H
                            clear H
                            go_upto_region 12 with (fail)
                            go_cut [9] (fun v9 wc => ∃ (kq : Nat) (x9_39 : Bool), v9 = .bool x9_39 ∧ Aside0 (lecternlaw24_QuorumExact.j4 kq l0 x3_1 x9_39 ((rd_T76 l0 x3_1).f0) ((rd_T76 l0 x3_1).f1) ((rd_T76 l0 x3_1).f2) = some r) ∧ Aside0 (kq ≤ kj24) ∧ Aside0 (wc.heap[gb245]? = some (.cells #[.int .i64 ((rd_T76 l0 x3_1).f0), (.slice A244_1 ((rd_T76 l0 x3_1).f1).length c244_1), (.slice A244_2 ((rd_T76 l0 x3_1).f2).length c244_2)] 76 (0, 0))) ∧ Aside0 (Below w.heap.size w wc))
                            case first =>
                              have H := HC40.out
                              clear HC40
                              by_cases c41 : (((rd_T76 l0 x3_1).f2).length : Int) ≥ 1
                              · rw [if_pos c41] at H
                                have c41b0 : decide (1 ≤ (((rd_T76 l0 x3_1).f2).length : Int)) = true := decide_eq_true c41
                                have c41b1 : decide (1 ≤ ((rd_T76 l0 x3_1).f2).length) = true := decide_eq_true (by omega)
                                clear c41
                                (first | rw [c41b0] | (simp only [i64_w, i32_w]; rw [c41b0]) | skip)
                                have H' := Aside0.mk H
                                clear H
                                have hcz42_0 : wc.cell? ⟨gb245, 0, none⟩ = some (.int .i64 ((rd_T76 l0 x3_1).f0)) := (blk_cell BK245.out 0).trans rfl
                                have hcz42_1 : wc.cell? ⟨gb245, 1, none⟩ = some (.slice A244_1 ((rd_T76 l0 x3_1).f1).length c244_1) := (blk_cell BK245.out 1).trans rfl
                                have hcz42_2 : wc.cell? ⟨gb245, 2, none⟩ = some (.slice A244_2 ((rd_T76 l0 x3_1).f2).length c244_2) := (blk_cell BK245.out 2).trans rfl
                                have hfz42_0 := blk_frozen BK245.out 0
                                have hfz42_1 := blk_frozen BK245.out 1
                                have hfz42_2 := blk_frozen BK245.out 2
                                go_wp2
                                go_meet
                                case rel => exact ⟨_, (decide ((((rd_T76 l0 x3_1).f2).length : Int) ≤ 7)), (by first | rfl | (simp; done) | (simp [*]; done)), H', ⟨by have := HK1.out; have := HJ1.out; have := HJ13.out; have := HJ24.out; first | omega | exact Nat.le_refl _⟩, ⟨by (with_reducible repeat (first | refine blk_drewN ?_ _ | refine blk_drew ?_ | refine blk_alloc ?_ _)); exact BK245.out⟩, ⟨by repeat (first | (with_reducible first | exact HB.out | apply below_alloc | apply pw_below_drewN | apply below_drew1 | refine below_set ?_ GE245.out) | exact HB.out)⟩⟩
                              · rw [if_neg c41] at H
                                have c41b0 : decide (1 ≤ (((rd_T76 l0 x3_1).f2).length : Int)) = false := decide_eq_false c41
                                have c41b1 : decide (1 ≤ ((rd_T76 l0 x3_1).f2).length) = false := decide_eq_false (by omega)
                                clear c41
                                (first | rw [c41b0] | (simp only [i64_w, i32_w]; rw [c41b0]) | skip)
                                have H' := Aside0.mk H
                                clear H
                                have hcz43_0 : wc.cell? ⟨gb245, 0, none⟩ = some (.int .i64 ((rd_T76 l0 x3_1).f0)) := (blk_cell BK245.out 0).trans rfl
                                have hcz43_1 : wc.cell? ⟨gb245, 1, none⟩ = some (.slice A244_1 ((rd_T76 l0 x3_1).f1).length c244_1) := (blk_cell BK245.out 1).trans rfl
                                have hcz43_2 : wc.cell? ⟨gb245, 2, none⟩ = some (.slice A244_2 ((rd_T76 l0 x3_1).f2).length c244_2) := (blk_cell BK245.out 2).trans rfl
                                have hfz43_0 := blk_frozen BK245.out 0
                                have hfz43_1 := blk_frozen BK245.out 1
                                have hfz43_2 := blk_frozen BK245.out 2
                                go_wp2
                                go_meet
                                case rel => exact ⟨_, (false), (by first | rfl | (simp; done) | (simp [*]; done)), H', ⟨by have := HK1.out; have := HJ1.out; have := HJ13.out; have := HJ24.out; first | omega | exact Nat.le_refl _⟩, ⟨by (with_reducible repeat (first | refine blk_drewN ?_ _ | refine blk_drew ?_ | refine blk_alloc ?_ _)); exact BK245.out⟩, ⟨by repeat (first | (with_reducible first | exact HB.out | apply below_alloc | apply pw_below_drewN | apply below_drew1 | refine below_set ?_ GE245.out) | exact HB.out)⟩⟩
                            case rest =>
                              clear HC40
                              try clear c1
                              try clear c2
                              try clear p2
                              try clear q2
                              try clear hx2
                              try clear c3
                              try clear c3b0
                              try clear c4
                              try clear c5
                              try clear c5b0
                              try clear c6
                              try clear c6b0
                              try clear c8
                              try clear c11
                              try clear c22
                              try clear c22b0
                              try clear c24
                              try clear p24
                              try clear q24
                              try clear hx24
                              try clear c27
                              try clear c27b0
                              try clear c27b1
                              try clear c27b2
                              try clear c28
                              try clear c30
                              try clear c30b0
                              try clear c30b1
                              try clear c30b2
                              try clear c35
                              try clear c35b0
                              try clear c35b1
                              try clear c36
                              try clear c36b0
                              try clear c36b1
                              try clear c36b2
                              try clear c39
                              try clear c41
                              try clear c41b0
                              try clear c41b1
                              try clear hcz10_0
                              try clear hcz10_1
                              try clear hcz10_2
                              try clear hcz16_0
                              try clear hcz16_1
                              try clear hcz16_2
                              try clear hcz18_0
                              try clear hcz18_1
                              try clear hcz18_2
                              try clear hcz20_0
                              try clear hcz20_1
                              try clear hcz20_2
                              try clear hcz23_0
                              try clear hcz23_1
                              try clear hcz23_2
                              try clear hcz24_0
                              try clear hcz24_1
                              try clear hcz24_2
                              try clear hcz31_0
                              try clear hcz31_1
                              try clear hcz31_2
                              try clear hcz33_0
                              try clear hcz33_1
                              try clear hcz33_2
                              try clear hcz38_0
                              try clear hcz38_1
                              try clear hcz38_2
                              try clear hcz42_0
                              try clear hcz42_1
                              try clear hcz42_2
                              try clear hcz43_0
                              try clear hcz43_1
                              try clear hcz43_2
                              try clear hfz10_0
                              try clear hfz10_1
                              try clear hfz10_2
                              try clear hfz16_0
                              try clear hfz16_1
                              try clear hfz16_2
                              try clear hfz18_0
                              try clear hfz18_1
                              try clear hfz18_2
                              try clear hfz20_0
                              try clear hfz20_1
                              try clear hfz20_2
                              try clear hfz23_0
                              try clear hfz23_1
                              try clear hfz23_2
                              try clear hfz24_0
                              try clear hfz24_1
                              try clear hfz24_2
                              try clear hfz31_0
                              try clear hfz31_1
                              try clear hfz31_2
                              try clear hfz33_0
                              try clear hfz33_1
                              try clear hfz33_2
                              try clear hfz38_0
                              try clear hfz38_1
                              try clear hfz38_2
                              try clear hfz42_0
                              try clear hfz42_1
                              try clear hfz42_2
                              try clear hfz43_0
                              try clear hfz43_1
                              try clear hfz43_2
                              try clear hx244_0
                              try clear hx244_1
                              try clear hx244_2
                              try clear p2
                              try clear p24
                              try clear p244
                              try clear q2
                              try clear q24
                              try clear q244
                              obtain ⟨kq, x9_39, rfl, HA, HJ39, BK245, HB⟩ := hcut
                              cases kq with
                              | zero => exact absurd HA.out (by simp [lecternlaw24_QuorumExact.j4])
                              | succ kj39 =>
                                have H := HA.out
                                clear HA
                                simp only [lecternlaw24_QuorumExact.j4] at H
                                have HC44 := Aside0.mk H
                                clear H
                                go_upto_block 2 with (fail)
                                go_cut [9] (fun v9 wc => ∃ (kq : Nat) (x9_43 : Bool), v9 = .bool x9_43 ∧ Aside0 (lecternlaw24_QuorumExact.j6 kq l0 x3_1 x9_43 ((rd_T76 l0 x3_1).f0) ((rd_T76 l0 x3_1).f1) ((rd_T76 l0 x3_1).f2) = some r) ∧ Aside0 (kq ≤ kj39) ∧ Aside0 (wc.heap[gb245]? = some (.cells #[.int .i64 ((rd_T76 l0 x3_1).f0), (.slice A244_1 ((rd_T76 l0 x3_1).f1).length c244_1), (.slice A244_2 ((rd_T76 l0 x3_1).f2).length c244_2)] 76 (0, 0))) ∧ Aside0 (Below w.heap.size w wc))
                                case first =>
                                  have H := HC44.out
                                  clear HC44
                                  have H' := Aside0.mk H
                                  clear H
                                  go_wp2
                                  go_loopg [9, 10] kj39 (fun kq v9 v10 w' => ∃ (x9_6 : Bool) (x10_6 : Int), v9 = .bool x9_6 ∧ v10 = .int .i64 x10_6 ∧ Aside0 (lecternlaw24_QuorumExact.l1 kq l0 x3_1 x9_6 x10_6 ((rd_T76 l0 x3_1).f0) ((rd_T76 l0 x3_1).f1) ((rd_T76 l0 x3_1).f2) = some r) ∧ Aside0 (kq ≤ kj39) ∧ Aside0 (w'.heap[gb245]? = some (.cells #[.int .i64 ((rd_T76 l0 x3_1).f0), (.slice A244_1 ((rd_T76 l0 x3_1).f1).length c244_1), (.slice A244_2 ((rd_T76 l0 x3_1).f2).length c244_2)] 76 (0, 0))) ∧ Aside0 (Below w.heap.size w w'))
                                  case atStart => exact ⟨(x9_39), (0), (by first | rfl | (simp; done) | (simp [*]; done)), (by first | rfl | (simp; done) | (simp [*]; done)), H', ⟨Nat.le_refl _⟩, ⟨by (with_reducible repeat (first | refine blk_drewN ?_ _ | refine blk_drew ?_ | refine blk_alloc ?_ _)); exact BK245.out⟩, ⟨by repeat (first | (with_reducible first | exact HB.out | apply below_alloc | apply pw_below_drewN | apply below_drew1 | refine below_set ?_ GE245.out) | exact HB.out)⟩⟩
                                  case round =>
                                    clear H'
                                    try clear c1
                                    try clear c2
                                    try clear p2
                                    try clear q2
                                    try clear hx2
                                    try clear c3
                                    try clear c3b0
                                    try clear c4
                                    try clear c5
                                    try clear c5b0
                                    try clear c6
                                    try clear c6b0
                                    try clear c8
                                    try clear c11
                                    try clear c22
                                    try clear c22b0
                                    try clear c24
                                    try clear p24
                                    try clear q24
                                    try clear hx24
                                    try clear c27
                                    try clear c27b0
                                    try clear c27b1
                                    try clear c27b2
                                    try clear c28
                                    try clear c30
                                    try clear c30b0
                                    try clear c30b1
                                    try clear c30b2
                                    try clear c35
                                    try clear c35b0
                                    try clear c35b1
                                    try clear c36
                                    try clear c36b0
                                    try clear c36b1
                                    try clear c36b2
                                    try clear c39
                                    try clear c41
                                    try clear c41b0
                                    try clear c41b1
                                    try clear hcz10_0
                                    try clear hcz10_1
                                    try clear hcz10_2
                                    try clear hcz16_0
                                    try clear hcz16_1
                                    try clear hcz16_2
                                    try clear hcz18_0
                                    try clear hcz18_1
                                    try clear hcz18_2
                                    try clear hcz20_0
                                    try clear hcz20_1
                                    try clear hcz20_2
                                    try clear hcz23_0
                                    try clear hcz23_1
                                    try clear hcz23_2
                                    try clear hcz24_0
                                    try clear hcz24_1
                                    try clear hcz24_2
                                    try clear hcz31_0
                                    try clear hcz31_1
                                    try clear hcz31_2
                                    try clear hcz33_0
                                    try clear hcz33_1
                                    try clear hcz33_2
                                    try clear hcz38_0
                                    try clear hcz38_1
                                    try clear hcz38_2
                                    try clear hcz42_0
                                    try clear hcz42_1
                                    try clear hcz42_2
                                    try clear hcz43_0
                                    try clear hcz43_1
                                    try clear hcz43_2
                                    try clear hfz10_0
                                    try clear hfz10_1
                                    try clear hfz10_2
                                    try clear hfz16_0
                                    try clear hfz16_1
                                    try clear hfz16_2
                                    try clear hfz18_0
                                    try clear hfz18_1
                                    try clear hfz18_2
                                    try clear hfz20_0
                                    try clear hfz20_1
                                    try clear hfz20_2
                                    try clear hfz23_0
                                    try clear hfz23_1
                                    try clear hfz23_2
                                    try clear hfz24_0
                                    try clear hfz24_1
                                    try clear hfz24_2
                                    try clear hfz31_0
                                    try clear hfz31_1
                                    try clear hfz31_2
                                    try clear hfz33_0
                                    try clear hfz33_1
                                    try clear hfz33_2
                                    try clear hfz38_0
                                    try clear hfz38_1
                                    try clear hfz38_2
                                    try clear hfz42_0
                                    try clear hfz42_1
                                    try clear hfz42_2
                                    try clear hfz43_0
                                    try clear hfz43_1
                                    try clear hfz43_2
                                    try clear hx244_0
                                    try clear hx244_1
                                    try clear hx244_2
                                    try clear p2
                                    try clear p24
                                    try clear p244
                                    try clear q2
                                    try clear q24
                                    try clear q244
                                    obtain ⟨x9_6, x10_6, rfl, rfl, HA, HK6, BK245, HB⟩ := hrel
                                    cases gk with
                                    | zero => exact absurd HA.out (by simp [lecternlaw24_QuorumExact.l1])
                                    | succ k6 =>
                                      have H := HA.out
                                      clear HA
                                      simp only [lecternlaw24_QuorumExact.l1] at H
                                      by_cases c45 : x10_6 < (((rd_T76 l0 x3_1).f2).length : Int)
                                      · rw [if_pos c45] at H
                                        have c45b0 : decide (x10_6 < (((rd_T76 l0 x3_1).f2).length : Int)) = true := decide_eq_true c45
                                        clear c45
                                        (first | rw [c45b0] | (simp only [i64_w, i32_w]; rw [c45b0]) | skip)
                                        by_cases c46 : x9_6 = true
                                        · subst c46
                                          have H1 : (if 0 ≤ x10_6 then (lecternlaw24_QuorumExact.l1 k6 l0 x3_1 (decide ((rd ((rd_T76 l0 x3_1).f2) x10_6) ≥ 0)) (wrap64 (x10_6 + 1)) ((rd_T76 l0 x3_1).f0) ((rd_T76 l0 x3_1).f1) ((rd_T76 l0 x3_1).f2)) else (none)) = some r := by rw [if_pos rfl] at H; exact H
                                          clear H
                                          have H := H1
                                          clear H1
                                          by_cases c47 : 0 ≤ x10_6
                                          · rw [if_pos c47] at H
                                            have c47b0 : decide (0 ≤ x10_6) = true := decide_eq_true c47
                                            clear c47
                                            have H' := Aside0.mk H
                                            clear H
                                            have hcz48_0 : wr.cell? ⟨gb245, 0, none⟩ = some (.int .i64 ((rd_T76 l0 x3_1).f0)) := (blk_cell BK245.out 0).trans rfl
                                            have hcz48_1 : wr.cell? ⟨gb245, 1, none⟩ = some (.slice A244_1 ((rd_T76 l0 x3_1).f1).length c244_1) := (blk_cell BK245.out 1).trans rfl
                                            have hcz48_2 : wr.cell? ⟨gb245, 2, none⟩ = some (.slice A244_2 ((rd_T76 l0 x3_1).f2).length c244_2) := (blk_cell BK245.out 2).trans rfl
                                            have hfz48_0 := blk_frozen BK245.out 0
                                            have hfz48_1 := blk_frozen BK245.out 1
                                            have hfz48_2 := blk_frozen BK245.out 2
                                            have p257 : 0 ≤ (x10_6 : Int) := of_decide_eq_true (by first | (with_reducible assumption) | assumption)
                                            have q257 : x10_6 < (((rd_T76 l0 x3_1).f2).length : Int) := of_decide_eq_true (by first | (with_reducible assumption) | assumption)
                                            obtain ⟨ad257, e257, hx257_0⟩ := Kd.at_int HR244_2.out x10_6 p257 q257
                                            cases e257
                                            replace hx257_0 := (HB.out.cell (World.block_lt_of_cell? w _ hx257_0)).trans hx257_0
                                            replace p257 := eq_true p257
                                            replace q257 := eq_true q257
                                            go_wp2
                                            go_roundg k6
                                            case measure => have := HK1.out; have := HJ1.out; have := HJ13.out; have := HJ24.out; have := HJ39.out; have := HK6.out; omega
                                            case rel => exact ⟨(decide ((rd ((rd_T76 l0 x3_1).f2) x10_6) ≥ 0)), (wrap64 (x10_6 + 1)), (by first | rfl | (simp; done) | (simp [*]; done)), (by first | rfl | (simp; done) | (simp [*]; done)), H', ⟨by have := HK1.out; have := HJ1.out; have := HJ13.out; have := HJ24.out; have := HJ39.out; have := HK6.out; omega⟩, ⟨by (with_reducible repeat (first | refine blk_drewN ?_ _ | refine blk_drew ?_ | refine blk_alloc ?_ _)); exact BK245.out⟩, ⟨by repeat (first | (with_reducible first | exact HB.out | apply below_alloc | apply pw_below_drewN | apply below_drew1 | refine below_set ?_ GE245.out) | exact HB.out)⟩⟩
                                          · rw [if_neg c47] at H
                                            exact absurd H (by simp)
                                        · replace c46 := Bool.eq_false_iff.mpr c46
                                          subst c46
                                          have H1 : (lecternlaw24_QuorumExact.j6 k6 l0 x3_1 false ((rd_T76 l0 x3_1).f0) ((rd_T76 l0 x3_1).f1) ((rd_T76 l0 x3_1).f2)) = some r := by rw [if_neg (show ¬ (false = true) by decide)] at H; exact H
                                          clear H
                                          have H := H1
                                          clear H1
                                          have H' := Aside0.mk H
                                          clear H
                                          have hcz49_0 : wr.cell? ⟨gb245, 0, none⟩ = some (.int .i64 ((rd_T76 l0 x3_1).f0)) := (blk_cell BK245.out 0).trans rfl
                                          have hcz49_1 : wr.cell? ⟨gb245, 1, none⟩ = some (.slice A244_1 ((rd_T76 l0 x3_1).f1).length c244_1) := (blk_cell BK245.out 1).trans rfl
                                          have hcz49_2 : wr.cell? ⟨gb245, 2, none⟩ = some (.slice A244_2 ((rd_T76 l0 x3_1).f2).length c244_2) := (blk_cell BK245.out 2).trans rfl
                                          have hfz49_0 := blk_frozen BK245.out 0
                                          have hfz49_1 := blk_frozen BK245.out 1
                                          have hfz49_2 := blk_frozen BK245.out 2
                                          go_wp2
                                          go_meet
                                          case rel => exact ⟨_, (false), (by first | rfl | (simp; done) | (simp [*]; done)), H', ⟨by have := HK1.out; have := HJ1.out; have := HJ13.out; have := HJ24.out; have := HJ39.out; have := HK6.out; first | omega | exact Nat.le_refl _⟩, ⟨by (with_reducible repeat (first | refine blk_drewN ?_ _ | refine blk_drew ?_ | refine blk_alloc ?_ _)); exact BK245.out⟩, ⟨by repeat (first | (with_reducible first | exact HB.out | apply below_alloc | apply pw_below_drewN | apply below_drew1 | refine below_set ?_ GE245.out) | exact HB.out)⟩⟩
                                      · rw [if_neg c45] at H
                                        have c45b0 : decide (x10_6 < (((rd_T76 l0 x3_1).f2).length : Int)) = false := decide_eq_false c45
                                        clear c45
                                        (first | rw [c45b0] | (simp only [i64_w, i32_w]; rw [c45b0]) | skip)
                                        have H' := Aside0.mk H
                                        clear H
                                        have hcz50_0 : wr.cell? ⟨gb245, 0, none⟩ = some (.int .i64 ((rd_T76 l0 x3_1).f0)) := (blk_cell BK245.out 0).trans rfl
                                        have hcz50_1 : wr.cell? ⟨gb245, 1, none⟩ = some (.slice A244_1 ((rd_T76 l0 x3_1).f1).length c244_1) := (blk_cell BK245.out 1).trans rfl
                                        have hcz50_2 : wr.cell? ⟨gb245, 2, none⟩ = some (.slice A244_2 ((rd_T76 l0 x3_1).f2).length c244_2) := (blk_cell BK245.out 2).trans rfl
                                        have hfz50_0 := blk_frozen BK245.out 0
                                        have hfz50_1 := blk_frozen BK245.out 1
                                        have hfz50_2 := blk_frozen BK245.out 2
                                        go_wp2
                                        go_meet
                                        case rel => exact ⟨_, (x9_6), (by first | rfl | (simp; done) | (simp [*]; done)), H', ⟨by have := HK1.out; have := HJ1.out; have := HJ13.out; have := HJ24.out; have := HJ39.out; have := HK6.out; first | omega | exact Nat.le_refl _⟩, ⟨by (with_reducible repeat (first | refine blk_drewN ?_ _ | refine blk_drew ?_ | refine blk_alloc ?_ _)); exact BK245.out⟩, ⟨by repeat (first | (with_reducible first | exact HB.out | apply below_alloc | apply pw_below_drewN | apply below_drew1 | refine below_set ?_ GE245.out) | exact HB.out)⟩⟩
                                case rest =>
                                  clear HC44
                                  try clear c1
                                  try clear c2
                                  try clear p2
                                  try clear q2
                                  try clear hx2
                                  try clear c3
                                  try clear c3b0
                                  try clear c4
                                  try clear c5
                                  try clear c5b0
                                  try clear c6
                                  try clear c6b0
                                  try clear p6
                                  try clear c8
                                  try clear c11
                                  try clear c22
                                  try clear c22b0
                                  try clear c24
                                  try clear p24
                                  try clear q24
                                  try clear hx24
                                  try clear p25
                                  try clear q25
                                  try clear hx25
                                  try clear c27
                                  try clear c27b0
                                  try clear c27b1
                                  try clear c27b2
                                  try clear c28
                                  try clear c30
                                  try clear c30b0
                                  try clear c30b1
                                  try clear c30b2
                                  try clear c35
                                  try clear c35b0
                                  try clear c35b1
                                  try clear c36
                                  try clear c36b0
                                  try clear c36b1
                                  try clear c36b2
                                  try clear c39
                                  try clear c41
                                  try clear c41b0
                                  try clear c41b1
                                  try clear c45
                                  try clear c45b0
                                  try clear c46
                                  try clear c47
                                  try clear c47b0
                                  try clear hcz10_0
                                  try clear hcz10_1
                                  try clear hcz10_2
                                  try clear hcz16_0
                                  try clear hcz16_1
                                  try clear hcz16_2
                                  try clear hcz18_0
                                  try clear hcz18_1
                                  try clear hcz18_2
                                  try clear hcz20_0
                                  try clear hcz20_1
                                  try clear hcz20_2
                                  try clear hcz23_0
                                  try clear hcz23_1
                                  try clear hcz23_2
                                  try clear hcz24_0
                                  try clear hcz24_1
                                  try clear hcz24_2
                                  try clear hcz31_0
                                  try clear hcz31_1
                                  try clear hcz31_2
                                  try clear hcz33_0
                                  try clear hcz33_1
                                  try clear hcz33_2
                                  try clear hcz38_0
                                  try clear hcz38_1
                                  try clear hcz38_2
                                  try clear hcz42_0
                                  try clear hcz42_1
                                  try clear hcz42_2
                                  try clear hcz43_0
                                  try clear hcz43_1
                                  try clear hcz43_2
                                  try clear hcz48_0
                                  try clear hcz48_1
                                  try clear hcz48_2
                                  try clear hcz49_0
                                  try clear hcz49_1
                                  try clear hcz49_2
                                  try clear hcz50_0
                                  try clear hcz50_1
                                  try clear hcz50_2
                                  try clear hfz10_0
                                  try clear hfz10_1
                                  try clear hfz10_2
                                  try clear hfz16_0
                                  try clear hfz16_1
                                  try clear hfz16_2
                                  try clear hfz18_0
                                  try clear hfz18_1
                                  try clear hfz18_2
                                  try clear hfz20_0
                                  try clear hfz20_1
                                  try clear hfz20_2
                                  try clear hfz23_0
                                  try clear hfz23_1
                                  try clear hfz23_2
                                  try clear hfz24_0
                                  try clear hfz24_1
                                  try clear hfz24_2
                                  try clear hfz31_0
                                  try clear hfz31_1
                                  try clear hfz31_2
                                  try clear hfz33_0
                                  try clear hfz33_1
                                  try clear hfz33_2
                                  try clear hfz38_0
                                  try clear hfz38_1
                                  try clear hfz38_2
                                  try clear hfz42_0
                                  try clear hfz42_1
                                  try clear hfz42_2
                                  try clear hfz43_0
                                  try clear hfz43_1
                                  try clear hfz43_2
                                  try clear hfz48_0
                                  try clear hfz48_1
                                  try clear hfz48_2
                                  try clear hfz49_0
                                  try clear hfz49_1
                                  try clear hfz49_2
                                  try clear hfz50_0
                                  try clear hfz50_1
                                  try clear hfz50_2
                                  try clear hx244_0
                                  try clear hx244_1
                                  try clear hx244_2
                                  try clear hx257_0
                                  try clear p2
                                  try clear p24
                                  try clear p244
                                  try clear p257
                                  try clear q2
                                  try clear q24
                                  try clear q244
                                  try clear q257
                                  obtain ⟨kq, x9_43, rfl, HA, HJ43, BK245, HB⟩ := hcut
                                  cases kq with
                                  | zero => exact absurd HA.out (by simp [lecternlaw24_QuorumExact.j6])
                                  | succ kj43 =>
                                    have H := HA.out
                                    clear HA
                                    simp only [lecternlaw24_QuorumExact.j6] at H
                                    have HC51 := Aside0.mk H
                                    clear H
                                    go_upto_if 108 with (fail)
                                    go_cut [11] (fun v11 wc => ∃ (kq : Nat) (x11_50 : Int), v11 = .int .i64 x11_50 ∧ Aside0 (lecternlaw24_QuorumExact.j7 kq l0 x3_1 x9_43 x11_50 ((rd_T76 l0 x3_1).f0) ((rd_T76 l0 x3_1).f1) ((rd_T76 l0 x3_1).f2) = some r) ∧ Aside0 (kq ≤ kj43) ∧ Aside0 (wc.heap[gb245]? = some (.cells #[.int .i64 ((rd_T76 l0 x3_1).f0), (.slice A244_1 ((rd_T76 l0 x3_1).f1).length c244_1), (.slice A244_2 ((rd_T76 l0 x3_1).f2).length c244_2)] 76 (0, 0))) ∧ Aside0 (Below w.heap.size w wc))
                                    case first =>
                                      have H := HC51.out
                                      clear HC51
                                      by_cases c52 : x9_43 = true
                                      · subst c52
                                        have H1 : ((lecternref23_Index.f kj43 ((rd_T76 l0 x3_1).f2)).bind fun t258 => (lecternlaw24_QuorumExact.j7 kj43 l0 x3_1 true t258 ((rd_T76 l0 x3_1).f0) ((rd_T76 l0 x3_1).f1) ((rd_T76 l0 x3_1).f2))) = some r := by rw [if_pos rfl] at H; exact H
                                        clear H
                                        have H := H1
                                        clear H1
                                        replace H := Option.bind_eq_some_iff.mp H
                                        obtain ⟨t258, A530, H⟩ := H
                                        replace H : (lecternlaw24_QuorumExact.j7 kj43 l0 x3_1 true t258 ((rd_T76 l0 x3_1).f0) ((rd_T76 l0 x3_1).f1) ((rd_T76 l0 x3_1).f2)) = some r := H
                                        have A53 := Aside0.mk A530
                                        clear A530
                                        have H' := Aside0.mk H
                                        clear H
                                        have hcz54_0 : wc.cell? ⟨gb245, 0, none⟩ = some (.int .i64 ((rd_T76 l0 x3_1).f0)) := (blk_cell BK245.out 0).trans rfl
                                        have hcz54_1 : wc.cell? ⟨gb245, 1, none⟩ = some (.slice A244_1 ((rd_T76 l0 x3_1).f1).length c244_1) := (blk_cell BK245.out 1).trans rfl
                                        have hcz54_2 : wc.cell? ⟨gb245, 2, none⟩ = some (.slice A244_2 ((rd_T76 l0 x3_1).f2).length c244_2) := (blk_cell BK245.out 2).trans rfl
                                        have hfz54_0 := blk_frozen BK245.out 0
                                        have hfz54_1 := blk_frozen BK245.out 1
                                        have hfz54_2 := blk_frozen BK245.out 2
                                        go_wp2_with (first | ((with_reducible refine gate_callee (f := 50) rfl ?_); refine goesL_ (some 111) rfl rfl Try.func50 (by kernel_rfl) rfl #[.slice A244_2 ((rd_T76 l0 x3_1).f2).length c244_2] rfl (by (try simp only [List.map_toArray, List.map_cons, List.map_nil]); first | done | rfl | (simp only [List.length_drop, List.length_take]; rfl)) ?_; (with_reducible refine (lecternref23_Index.calls kj43 _ _ ((rd_T76 l0 x3_1).f2) t258 _ ?side1 ?side2 A53.out).mono ?_); (case side1 => repeat (first | exact (Kd.C_below HR244_2.out HB.out) | (with_reducible refine Kd.C_alloc ?_ _) | (with_reducible refine Kd.C_drewN ?_ _) | (with_reducible refine Kd.C_drew ?_))); (case side2 => exact HC244_2.out); rintro e w55 ⟨rfl, hb⟩; refine ⟨_, rfl, ?_⟩; have n0_ := Aside0.mk (blk_below (g := gb245) (o := .cells #[.int .i64 ((rd_T76 l0 x3_1).f0), .slice A244_1 ((rd_T76 l0 x3_1).f1).length c244_1, .slice A244_2 ((rd_T76 l0 x3_1).f2).length c244_2] 76 (0, 0)) (by (with_reducible repeat (first | refine blk_drewN ?_ _ | refine blk_drew ?_ | refine blk_alloc ?_ _)); exact BK245.out) hb); have n1_ := Aside0.mk (below_step (by repeat (first | (with_reducible first | exact HB.out | apply below_alloc | apply pw_below_drewN | apply below_drew1 | refine below_set ?_ GE245.out) | exact HB.out)) hb); clear BK245; clear HB; have BK245 := n0_; have HB := n1_; clear n0_ n1_; (try clear hb); (try clear hb2); (try clear hk); (try clear hi)))
                                        go_meet
                                        case rel => exact ⟨_, (t258), (by first | rfl | (simp; done) | (simp [*]; done)), H', ⟨by have := HK1.out; have := HJ1.out; have := HJ13.out; have := HJ24.out; have := HJ39.out; have := HJ43.out; first | omega | exact Nat.le_refl _⟩, ⟨by (with_reducible repeat (first | refine blk_drewN ?_ _ | refine blk_drew ?_ | refine blk_alloc ?_ _)); exact BK245.out⟩, ⟨by repeat (first | (with_reducible first | exact HB.out | apply below_alloc | apply pw_below_drewN | apply below_drew1 | refine below_set ?_ GE245.out) | exact HB.out)⟩⟩
                                      · replace c52 := Bool.eq_false_iff.mpr c52
                                        subst c52
                                        have H1 : (lecternlaw24_QuorumExact.j7 kj43 l0 x3_1 false 0 ((rd_T76 l0 x3_1).f0) ((rd_T76 l0 x3_1).f1) ((rd_T76 l0 x3_1).f2)) = some r := by rw [if_neg (show ¬ (false = true) by decide)] at H; exact H
                                        clear H
                                        have H := H1
                                        clear H1
                                        have H' := Aside0.mk H
                                        clear H
                                        go_wp2
                                        go_meet
                                        case rel => exact ⟨_, (0), (by first | rfl | (simp; done) | (simp [*]; done)), H', ⟨by have := HK1.out; have := HJ1.out; have := HJ13.out; have := HJ24.out; have := HJ39.out; have := HJ43.out; first | omega | exact Nat.le_refl _⟩, ⟨by (with_reducible repeat (first | refine blk_drewN ?_ _ | refine blk_drew ?_ | refine blk_alloc ?_ _)); exact BK245.out⟩, ⟨by repeat (first | (with_reducible first | exact HB.out | apply below_alloc | apply pw_below_drewN | apply below_drew1 | refine below_set ?_ GE245.out) | exact HB.out)⟩⟩
                                    case rest =>
                                      clear HC51
                                      try clear c1
                                      try clear c2
                                      try clear p2
                                      try clear q2
                                      try clear hx2
                                      try clear c3
                                      try clear c3b0
                                      try clear c4
                                      try clear c5
                                      try clear c5b0
                                      try clear c6
                                      try clear c6b0
                                      try clear p6
                                      try clear c8
                                      try clear c11
                                      try clear c22
                                      try clear c22b0
                                      try clear c24
                                      try clear p24
                                      try clear q24
                                      try clear hx24
                                      try clear p25
                                      try clear q25
                                      try clear hx25
                                      try clear c27
                                      try clear c27b0
                                      try clear c27b1
                                      try clear c27b2
                                      try clear c28
                                      try clear c30
                                      try clear c30b0
                                      try clear c30b1
                                      try clear c30b2
                                      try clear c35
                                      try clear c35b0
                                      try clear c35b1
                                      try clear c36
                                      try clear c36b0
                                      try clear c36b1
                                      try clear c36b2
                                      try clear c39
                                      try clear c41
                                      try clear c41b0
                                      try clear c41b1
                                      try clear c45
                                      try clear c45b0
                                      try clear c46
                                      try clear c47
                                      try clear c47b0
                                      try clear c50
                                      try clear c52
                                      try clear hcz10_0
                                      try clear hcz10_1
                                      try clear hcz10_2
                                      try clear hcz16_0
                                      try clear hcz16_1
                                      try clear hcz16_2
                                      try clear hcz18_0
                                      try clear hcz18_1
                                      try clear hcz18_2
                                      try clear hcz20_0
                                      try clear hcz20_1
                                      try clear hcz20_2
                                      try clear hcz23_0
                                      try clear hcz23_1
                                      try clear hcz23_2
                                      try clear hcz24_0
                                      try clear hcz24_1
                                      try clear hcz24_2
                                      try clear hcz31_0
                                      try clear hcz31_1
                                      try clear hcz31_2
                                      try clear hcz33_0
                                      try clear hcz33_1
                                      try clear hcz33_2
                                      try clear hcz38_0
                                      try clear hcz38_1
                                      try clear hcz38_2
                                      try clear hcz42_0
                                      try clear hcz42_1
                                      try clear hcz42_2
                                      try clear hcz43_0
                                      try clear hcz43_1
                                      try clear hcz43_2
                                      try clear hcz48_0
                                      try clear hcz48_1
                                      try clear hcz48_2
                                      try clear hcz49_0
                                      try clear hcz49_1
                                      try clear hcz49_2
                                      try clear hcz50_0
                                      try clear hcz50_1
                                      try clear hcz50_2
                                      try clear hcz54_0
                                      try clear hcz54_1
                                      try clear hcz54_2
                                      try clear hfz10_0
                                      try clear hfz10_1
                                      try clear hfz10_2
                                      try clear hfz16_0
                                      try clear hfz16_1
                                      try clear hfz16_2
                                      try clear hfz18_0
                                      try clear hfz18_1
                                      try clear hfz18_2
                                      try clear hfz20_0
                                      try clear hfz20_1
                                      try clear hfz20_2
                                      try clear hfz23_0
                                      try clear hfz23_1
                                      try clear hfz23_2
                                      try clear hfz24_0
                                      try clear hfz24_1
                                      try clear hfz24_2
                                      try clear hfz31_0
                                      try clear hfz31_1
                                      try clear hfz31_2
                                      try clear hfz33_0
                                      try clear hfz33_1
                                      try clear hfz33_2
                                      try clear hfz38_0
                                      try clear hfz38_1
                                      try clear hfz38_2
                                      try clear hfz42_0
                                      try clear hfz42_1
                                      try clear hfz42_2
                                      try clear hfz43_0
                                      try clear hfz43_1
                                      try clear hfz43_2
                                      try clear hfz48_0
                                      try clear hfz48_1
                                      try clear hfz48_2
                                      try clear hfz49_0
                                      try clear hfz49_1
                                      try clear hfz49_2
                                      try clear hfz50_0
                                      try clear hfz50_1
                                      try clear hfz50_2
                                      try clear hfz54_0
                                      try clear hfz54_1
                                      try clear hfz54_2
                                      try clear hx244_0
                                      try clear hx244_1
                                      try clear hx244_2
                                      try clear hx257_0
                                      try clear p2
                                      try clear p24
                                      try clear p244
                                      try clear p25
                                      try clear p257
                                      try clear p6
                                      try clear q2
                                      try clear q24
                                      try clear q244
                                      try clear q25
                                      try clear q257
                                      obtain ⟨kq, x11_50, rfl, HA, HJ50, BK245, HB⟩ := hcut
                                      cases kq with
                                      | zero => exact absurd HA.out (by simp [lecternlaw24_QuorumExact.j7])
                                      | succ kj50 =>
                                        have H := HA.out
                                        clear HA
                                        simp only [lecternlaw24_QuorumExact.j7] at H
                                        replace H := Option.bind_eq_some_iff.mp H
                                        obtain ⟨t259, A560, H⟩ := H
                                        replace H : ((quorum_Index.f t259).bind fun bt262 => ((lecternlaw24_num.f bt262.2).bind fun t264 => (if (x9_43 != (t264 == 0)) = true then (some false) else (if x9_43 = true then (if bt262.1 = x11_50 then ((lecternref0_EqNumbers.f kj50 t259 ((rd_T76 l0 x3_1).f2)).bind fun t265 => (if t265 = true then (lecternlaw24_QuorumExact.l0 kj50 l0 (wrap64 (x3_1 + 1))) else (some false))) else (some false)) else ((lecternlaw24_num.f bt262.2).bind fun t266 => (if t266 = 1 then (if bt262.1 = x11_50 then ((lecternref0_EqNumbers.f kj50 t259 ((rd_T76 l0 x3_1).f2)).bind fun t267 => (if t267 = true then (lecternlaw24_QuorumExact.l0 kj50 l0 (wrap64 (x3_1 + 1))) else (some false))) else (some false)) else (some false))))))) = some r := H
                                        have A56 := Aside0.mk A560
                                        clear A560
                                        replace H := Option.bind_eq_some_iff.mp H
                                        obtain ⟨⟨t262, t263⟩, A570, H⟩ := H
                                        replace H : ((lecternlaw24_num.f t263).bind fun t264 => (if (x9_43 != (t264 == 0)) = true then (some false) else (if x9_43 = true then (if t262 = x11_50 then ((lecternref0_EqNumbers.f kj50 t259 ((rd_T76 l0 x3_1).f2)).bind fun t265 => (if t265 = true then (lecternlaw24_QuorumExact.l0 kj50 l0 (wrap64 (x3_1 + 1))) else (some false))) else (some false)) else ((lecternlaw24_num.f t263).bind fun t266 => (if t266 = 1 then (if t262 = x11_50 then ((lecternref0_EqNumbers.f kj50 t259 ((rd_T76 l0 x3_1).f2)).bind fun t267 => (if t267 = true then (lecternlaw24_QuorumExact.l0 kj50 l0 (wrap64 (x3_1 + 1))) else (some false))) else (some false)) else (some false)))))) = some r := H
                                        have A57 := Aside0.mk A570
                                        clear A570
                                        replace H := Option.bind_eq_some_iff.mp H
                                        obtain ⟨t264, A580, H⟩ := H
                                        replace H : (if (x9_43 != (t264 == 0)) = true then (some false) else (if x9_43 = true then (if t262 = x11_50 then ((lecternref0_EqNumbers.f kj50 t259 ((rd_T76 l0 x3_1).f2)).bind fun t265 => (if t265 = true then (lecternlaw24_QuorumExact.l0 kj50 l0 (wrap64 (x3_1 + 1))) else (some false))) else (some false)) else ((lecternlaw24_num.f t263).bind fun t266 => (if t266 = 1 then (if t262 = x11_50 then ((lecternref0_EqNumbers.f kj50 t259 ((rd_T76 l0 x3_1).f2)).bind fun t267 => (if t267 = true then (lecternlaw24_QuorumExact.l0 kj50 l0 (wrap64 (x3_1 + 1))) else (some false))) else (some false)) else (some false))))) = some r := H
                                        have A58 := Aside0.mk A580
                                        clear A580
                                        by_cases c59 : (x9_43 != (t264 == 0)) = true
                                        · rw [if_pos c59] at H
                                          have c59b0 : (x9_43 != (t264 == 0)) = true := c59
                                          (try (have c59b1 : decide (x9_43 = (t264 == 0)) = false := by simpa using c59))
                                          (try (have c59b2 : (x9_43 == (t264 == 0)) = false := by simpa using c59))
                                          (try (have c59b3 : ¬ (x9_43 = (t264 == 0)) := by simpa using c59))
                                          clear c59
                                          obtain rfl := Option.some.inj H
                                          have hcz60_0 : wc.cell? ⟨gb245, 0, none⟩ = some (.int .i64 ((rd_T76 l0 x3_1).f0)) := (blk_cell BK245.out 0).trans rfl
                                          have hcz60_1 : wc.cell? ⟨gb245, 1, none⟩ = some (.slice A244_1 ((rd_T76 l0 x3_1).f1).length c244_1) := (blk_cell BK245.out 1).trans rfl
                                          have hcz60_2 : wc.cell? ⟨gb245, 2, none⟩ = some (.slice A244_2 ((rd_T76 l0 x3_1).f2).length c244_2) := (blk_cell BK245.out 2).trans rfl
                                          have hfz60_0 := blk_frozen BK245.out 0
                                          have hfz60_1 := blk_frozen BK245.out 1
                                          have hfz60_2 := blk_frozen BK245.out 2
                                          go_wp2_with (first | ((with_reducible refine gate_callee (f := 24) rfl ?_); refine goesL_ (some 114) rfl rfl Try.func24 (by kernel_rfl) rfl #[.slice A244_2 ((rd_T76 l0 x3_1).f2).length c244_2] rfl (by (try simp only [List.map_toArray, List.map_cons, List.map_nil]); first | done | rfl | (simp only [List.length_drop, List.length_take]; rfl)) ?_; (with_reducible refine (lecternref0_CopyNumbers.calls kj50 _ _ ((rd_T76 l0 x3_1).f2) t259 _ ?side1 ?side2 A56.out).mono ?_); (case side1 => repeat (first | exact (Kd.C_below HR244_2.out HB.out) | (with_reducible refine Kd.C_alloc ?_ _) | (with_reducible refine Kd.C_drewN ?_ _) | (with_reducible refine Kd.C_drew ?_))); (case side2 => exact HC244_2.out); rintro e w61 ⟨v260, rfl, ho0, hb⟩; refine ⟨_, rfl, ?_⟩; have n0_ := Aside0.mk (Kd.R_lower ho0 (below_size (by repeat (first | (with_reducible first | exact HB.out | apply below_alloc | apply pw_below_drewN | apply below_drew1 | refine below_set ?_ GE245.out) | exact HB.out)))); have n1_ := Aside0.mk (blk_below (g := gb245) (o := .cells #[.int .i64 ((rd_T76 l0 x3_1).f0), .slice A244_1 ((rd_T76 l0 x3_1).f1).length c244_1, .slice A244_2 ((rd_T76 l0 x3_1).f2).length c244_2] 76 (0, 0)) (by (with_reducible repeat (first | refine blk_drewN ?_ _ | refine blk_drew ?_ | refine blk_alloc ?_ _)); exact BK245.out) hb); have n2_ := Aside0.mk (below_step (by repeat (first | (with_reducible first | exact HB.out | apply below_alloc | apply pw_below_drewN | apply below_drew1 | refine below_set ?_ GE245.out) | exact HB.out)) hb); clear BK245; clear HB; have HO261 := n0_; have BK245 := n1_; have HB := n2_; clear n0_ n1_ n2_; (try clear hb); (try clear hb2); (try clear hk); (try clear hi); (try clear ho0); obtain ⟨Ao62, co62, eo62⟩ := Kd.R_slice HO261.out; subst eo62) | ((with_reducible refine gate_callee (f := 51) rfl ?_); refine goesL_ (some 117) rfl rfl Try.func51 (by kernel_rfl) rfl #[.slice Ao62 t259.length co62] rfl (by (try simp only [List.map_toArray, List.map_cons, List.map_nil]); first | done | rfl | (simp only [List.length_drop, List.length_take]; rfl)) ?_; (with_reducible refine (quorum_Index.calls _ _ t259 t262 t263 _ ?side1 ?side2 A57.out).mono ?_); (case side1 => repeat (first | exact (Kd.R_reads' HO261.out).2.2 | (with_reducible refine Kd.C_alloc ?_ _) | (with_reducible refine Kd.C_drewN ?_ _) | (with_reducible refine Kd.C_drew ?_))); (case side2 => exact (Kd.R_reads' HO261.out).2.1); rintro e w63 ⟨rfl, hb⟩; refine ⟨_, rfl, ?_⟩; have n0_ := Aside0.mk (Kd.R_below (by (with_reducible repeat (first | apply Kd.R_alloc | apply Kd.R_drewN | apply Kd.R_drew)); exact HO261.out) hb); have n1_ := Aside0.mk (blk_below (g := gb245) (o := .cells #[.int .i64 ((rd_T76 l0 x3_1).f0), .slice A244_1 ((rd_T76 l0 x3_1).f1).length c244_1, .slice A244_2 ((rd_T76 l0 x3_1).f2).length c244_2] 76 (0, 0)) (by (with_reducible repeat (first | refine blk_drewN ?_ _ | refine blk_drew ?_ | refine blk_alloc ?_ _)); exact BK245.out) hb); have n2_ := Aside0.mk (below_step (by repeat (first | (with_reducible first | exact HB.out | apply below_alloc | apply pw_below_drewN | apply below_drew1 | refine below_set ?_ GE245.out) | exact HB.out)) hb); clear HO261; clear BK245; clear HB; have HO261 := n0_; have BK245 := n1_; have HB := n2_; clear n0_ n1_ n2_; (try clear hb); (try clear hb2); (try clear hk); (try clear hi)) | ((with_reducible refine gate_callee (f := 47) rfl ?_); refine goesL_ (some 122) rfl rfl Try.func47 (by kernel_rfl) rfl #[.int .i64 t263] rfl (by (try simp only [List.map_toArray, List.map_cons, List.map_nil]); first | done | rfl | (simp only [List.length_drop, List.length_take]; rfl)) ?_; (with_reducible refine (lecternlaw24_num.calls t263 t264 _ A58.out).mono ?_); rintro e w' ⟨rfl, ⟨nd, rfl⟩⟩; refine ⟨_, rfl, ?_⟩))
                                          go_ret
                                          exact ⟨by first | rfl | (simp [errW_none, errW_some] <;> rfl) | (simp [*, errW_none, errW_some] <;> rfl), by repeat (first | (with_reducible first | exact HB.out | apply below_alloc | apply pw_below_drewN | apply below_drew1 | refine below_set ?_ GE245.out) | exact HB.out)⟩
                                        · rw [if_neg c59] at H
                                          have c59b0 : (x9_43 != (t264 == 0)) = false := by simpa using c59
                                          (try (have c59b1 : decide (x9_43 = (t264 == 0)) = true := by simpa using c59))
                                          (try (have c59b2 : (x9_43 == (t264 == 0)) = true := by simpa using c59))
                                          clear c59
                                          by_cases c64 : x9_43 = true
                                          · subst c64
                                            have H1 : (if t262 = x11_50 then ((lecternref0_EqNumbers.f kj50 t259 ((rd_T76 l0 x3_1).f2)).bind fun t265 => (if t265 = true then (lecternlaw24_QuorumExact.l0 kj50 l0 (wrap64 (x3_1 + 1))) else (some false))) else (some false)) = some r := by rw [if_pos rfl] at H; exact H
                                            clear H
                                            have H := H1
                                            clear H1
                                            by_cases c65 : t262 = x11_50
                                            · rw [if_pos c65] at H
                                              have c65b0 : (t262 == x11_50) = true := beq_iff_eq.mpr c65
                                              have c65b1 : (t262 != x11_50) = false := bne_eq_false_iff_eq.mpr c65
                                              clear c65
                                              replace H := Option.bind_eq_some_iff.mp H
                                              obtain ⟨t265, A660, H⟩ := H
                                              replace H : (if t265 = true then (lecternlaw24_QuorumExact.l0 kj50 l0 (wrap64 (x3_1 + 1))) else (some false)) = some r := H
                                              have A66 := Aside0.mk A660
                                              clear A660
                                              by_cases c67 : t265 = true
                                              · subst c67
                                                have H1 : (lecternlaw24_QuorumExact.l0 kj50 l0 (wrap64 (x3_1 + 1))) = some r := by rw [if_pos rfl] at H; exact H
                                                clear H
                                                have H := H1
                                                clear H1
                                                have H' := Aside0.mk H
                                                clear H
                                                have hcz68_0 : wc.cell? ⟨gb245, 0, none⟩ = some (.int .i64 ((rd_T76 l0 x3_1).f0)) := (blk_cell BK245.out 0).trans rfl
                                                have hcz68_1 : wc.cell? ⟨gb245, 1, none⟩ = some (.slice A244_1 ((rd_T76 l0 x3_1).f1).length c244_1) := (blk_cell BK245.out 1).trans rfl
                                                have hcz68_2 : wc.cell? ⟨gb245, 2, none⟩ = some (.slice A244_2 ((rd_T76 l0 x3_1).f2).length c244_2) := (blk_cell BK245.out 2).trans rfl
                                                have hfz68_0 := blk_frozen BK245.out 0
                                                have hfz68_1 := blk_frozen BK245.out 1
                                                have hfz68_2 := blk_frozen BK245.out 2
                                                go_wp2_with (first | ((with_reducible refine gate_callee (f := 24) rfl ?_); refine goesL_ (some 114) rfl rfl Try.func24 (by kernel_rfl) rfl #[.slice A244_2 ((rd_T76 l0 x3_1).f2).length c244_2] rfl (by (try simp only [List.map_toArray, List.map_cons, List.map_nil]); first | done | rfl | (simp only [List.length_drop, List.length_take]; rfl)) ?_; (with_reducible refine (lecternref0_CopyNumbers.calls kj50 _ _ ((rd_T76 l0 x3_1).f2) t259 _ ?side1 ?side2 A56.out).mono ?_); (case side1 => repeat (first | exact (Kd.C_below HR244_2.out HB.out) | (with_reducible refine Kd.C_alloc ?_ _) | (with_reducible refine Kd.C_drewN ?_ _) | (with_reducible refine Kd.C_drew ?_))); (case side2 => exact HC244_2.out); rintro e w69 ⟨v260, rfl, ho0, hb⟩; refine ⟨_, rfl, ?_⟩; have n0_ := Aside0.mk (Kd.R_lower ho0 (below_size (by repeat (first | (with_reducible first | exact HB.out | apply below_alloc | apply pw_below_drewN | apply below_drew1 | refine below_set ?_ GE245.out) | exact HB.out)))); have n1_ := Aside0.mk (blk_below (g := gb245) (o := .cells #[.int .i64 ((rd_T76 l0 x3_1).f0), .slice A244_1 ((rd_T76 l0 x3_1).f1).length c244_1, .slice A244_2 ((rd_T76 l0 x3_1).f2).length c244_2] 76 (0, 0)) (by (with_reducible repeat (first | refine blk_drewN ?_ _ | refine blk_drew ?_ | refine blk_alloc ?_ _)); exact BK245.out) hb); have n2_ := Aside0.mk (below_step (by repeat (first | (with_reducible first | exact HB.out | apply below_alloc | apply pw_below_drewN | apply below_drew1 | refine below_set ?_ GE245.out) | exact HB.out)) hb); clear BK245; clear HB; have HO261 := n0_; have BK245 := n1_; have HB := n2_; clear n0_ n1_ n2_; (try clear hb); (try clear hb2); (try clear hk); (try clear hi); (try clear ho0); obtain ⟨Ao70, co70, eo70⟩ := Kd.R_slice HO261.out; subst eo70) | ((with_reducible refine gate_callee (f := 51) rfl ?_); refine goesL_ (some 117) rfl rfl Try.func51 (by kernel_rfl) rfl #[.slice Ao70 t259.length co70] rfl (by (try simp only [List.map_toArray, List.map_cons, List.map_nil]); first | done | rfl | (simp only [List.length_drop, List.length_take]; rfl)) ?_; (with_reducible refine (quorum_Index.calls _ _ t259 t262 t263 _ ?side1 ?side2 A57.out).mono ?_); (case side1 => repeat (first | exact (Kd.R_reads' HO261.out).2.2 | (with_reducible refine Kd.C_alloc ?_ _) | (with_reducible refine Kd.C_drewN ?_ _) | (with_reducible refine Kd.C_drew ?_))); (case side2 => exact (Kd.R_reads' HO261.out).2.1); rintro e w71 ⟨rfl, hb⟩; refine ⟨_, rfl, ?_⟩; have n0_ := Aside0.mk (Kd.R_below (by (with_reducible repeat (first | apply Kd.R_alloc | apply Kd.R_drewN | apply Kd.R_drew)); exact HO261.out) hb); have n1_ := Aside0.mk (blk_below (g := gb245) (o := .cells #[.int .i64 ((rd_T76 l0 x3_1).f0), .slice A244_1 ((rd_T76 l0 x3_1).f1).length c244_1, .slice A244_2 ((rd_T76 l0 x3_1).f2).length c244_2] 76 (0, 0)) (by (with_reducible repeat (first | refine blk_drewN ?_ _ | refine blk_drew ?_ | refine blk_alloc ?_ _)); exact BK245.out) hb); have n2_ := Aside0.mk (below_step (by repeat (first | (with_reducible first | exact HB.out | apply below_alloc | apply pw_below_drewN | apply below_drew1 | refine below_set ?_ GE245.out) | exact HB.out)) hb); clear HO261; clear BK245; clear HB; have HO261 := n0_; have BK245 := n1_; have HB := n2_; clear n0_ n1_ n2_; (try clear hb); (try clear hb2); (try clear hk); (try clear hi)) | ((with_reducible refine gate_callee (f := 47) rfl ?_); refine goesL_ (some 122) rfl rfl Try.func47 (by kernel_rfl) rfl #[.int .i64 t263] rfl (by (try simp only [List.map_toArray, List.map_cons, List.map_nil]); first | done | rfl | (simp only [List.length_drop, List.length_take]; rfl)) ?_; (with_reducible refine (lecternlaw24_num.calls t263 t264 _ A58.out).mono ?_); rintro e w' ⟨rfl, ⟨nd, rfl⟩⟩; refine ⟨_, rfl, ?_⟩; have hcz72_0 : w71.cell? ⟨gb245, 0, none⟩ = some (.int .i64 ((rd_T76 l0 x3_1).f0)) := (blk_cell BK245.out 0).trans rfl; have hcz72_1 : w71.cell? ⟨gb245, 1, none⟩ = some (.slice A244_1 ((rd_T76 l0 x3_1).f1).length c244_1) := (blk_cell BK245.out 1).trans rfl; have hcz72_2 : w71.cell? ⟨gb245, 2, none⟩ = some (.slice A244_2 ((rd_T76 l0 x3_1).f2).length c244_2) := (blk_cell BK245.out 2).trans rfl; have hfz72_0 := blk_frozen BK245.out 0; have hfz72_1 := blk_frozen BK245.out 1; have hfz72_2 := blk_frozen BK245.out 2) | (go_at_call 49; (with_reducible refine (lecternref0_EqNumbers.calls kj50 _ _ t259 _ _ ((rd_T76 l0 x3_1).f2) true _ ?side1 ?side2 ?side3 ?side4 A66.out).mono ?_); (case side1 => repeat (first | exact (Kd.R_reads' HO261.out).2.2 | (with_reducible refine Kd.C_alloc ?_ _) | (with_reducible refine Kd.C_drewN ?_ _) | (with_reducible refine Kd.C_drew ?_))); (case side2 => exact (Kd.R_reads' HO261.out).2.1); (case side3 => repeat (first | exact (Kd.C_below HR244_2.out (by repeat (first | (with_reducible first | exact HB.out | apply below_alloc | apply pw_below_drewN | apply below_drew1 | refine below_set ?_ GE245.out) | exact HB.out))) | (with_reducible refine Kd.C_alloc ?_ _) | (with_reducible refine Kd.C_drewN ?_ _) | (with_reducible refine Kd.C_drew ?_))); (case side4 => exact HC244_2.out); rintro e w' ⟨rfl, ⟨nd, rfl⟩⟩))
                                                go_roundg kj50
                                                case measure => have := HK1.out; have := HJ1.out; have := HJ13.out; have := HJ24.out; have := HJ39.out; have := HJ43.out; have := HJ50.out; omega
                                                case rel => exact ⟨(wrap64 (x3_1 + 1)), (by first | rfl | (simp; done) | (simp [*]; done)), H', ⟨by have := HK1.out; have := HJ1.out; have := HJ13.out; have := HJ24.out; have := HJ39.out; have := HJ43.out; have := HJ50.out; omega⟩, ⟨by repeat (first | (with_reducible first | exact HB.out | apply below_alloc | apply pw_below_drewN | apply below_drew1 | refine below_set ?_ GE245.out) | exact HB.out)⟩⟩
                                              · replace c67 := Bool.eq_false_iff.mpr c67
                                                subst c67
                                                have H1 : (some false) = some r := by rw [if_neg (show ¬ (false = true) by decide)] at H; exact H
                                                clear H
                                                have H := H1
                                                clear H1
                                                obtain rfl := Option.some.inj H
                                                have hcz73_0 : wc.cell? ⟨gb245, 0, none⟩ = some (.int .i64 ((rd_T76 l0 x3_1).f0)) := (blk_cell BK245.out 0).trans rfl
                                                have hcz73_1 : wc.cell? ⟨gb245, 1, none⟩ = some (.slice A244_1 ((rd_T76 l0 x3_1).f1).length c244_1) := (blk_cell BK245.out 1).trans rfl
                                                have hcz73_2 : wc.cell? ⟨gb245, 2, none⟩ = some (.slice A244_2 ((rd_T76 l0 x3_1).f2).length c244_2) := (blk_cell BK245.out 2).trans rfl
                                                have hfz73_0 := blk_frozen BK245.out 0
                                                have hfz73_1 := blk_frozen BK245.out 1
                                                have hfz73_2 := blk_frozen BK245.out 2
                                                go_wp2_with (first | ((with_reducible refine gate_callee (f := 24) rfl ?_); refine goesL_ (some 114) rfl rfl Try.func24 (by kernel_rfl) rfl #[.slice A244_2 ((rd_T76 l0 x3_1).f2).length c244_2] rfl (by (try simp only [List.map_toArray, List.map_cons, List.map_nil]); first | done | rfl | (simp only [List.length_drop, List.length_take]; rfl)) ?_; (with_reducible refine (lecternref0_CopyNumbers.calls kj50 _ _ ((rd_T76 l0 x3_1).f2) t259 _ ?side1 ?side2 A56.out).mono ?_); (case side1 => repeat (first | exact (Kd.C_below HR244_2.out HB.out) | (with_reducible refine Kd.C_alloc ?_ _) | (with_reducible refine Kd.C_drewN ?_ _) | (with_reducible refine Kd.C_drew ?_))); (case side2 => exact HC244_2.out); rintro e w74 ⟨v260, rfl, ho0, hb⟩; refine ⟨_, rfl, ?_⟩; have n0_ := Aside0.mk (Kd.R_lower ho0 (below_size (by repeat (first | (with_reducible first | exact HB.out | apply below_alloc | apply pw_below_drewN | apply below_drew1 | refine below_set ?_ GE245.out) | exact HB.out)))); have n1_ := Aside0.mk (blk_below (g := gb245) (o := .cells #[.int .i64 ((rd_T76 l0 x3_1).f0), .slice A244_1 ((rd_T76 l0 x3_1).f1).length c244_1, .slice A244_2 ((rd_T76 l0 x3_1).f2).length c244_2] 76 (0, 0)) (by (with_reducible repeat (first | refine blk_drewN ?_ _ | refine blk_drew ?_ | refine blk_alloc ?_ _)); exact BK245.out) hb); have n2_ := Aside0.mk (below_step (by repeat (first | (with_reducible first | exact HB.out | apply below_alloc | apply pw_below_drewN | apply below_drew1 | refine below_set ?_ GE245.out) | exact HB.out)) hb); clear BK245; clear HB; have HO261 := n0_; have BK245 := n1_; have HB := n2_; clear n0_ n1_ n2_; (try clear hb); (try clear hb2); (try clear hk); (try clear hi); (try clear ho0); obtain ⟨Ao75, co75, eo75⟩ := Kd.R_slice HO261.out; subst eo75) | ((with_reducible refine gate_callee (f := 51) rfl ?_); refine goesL_ (some 117) rfl rfl Try.func51 (by kernel_rfl) rfl #[.slice Ao75 t259.length co75] rfl (by (try simp only [List.map_toArray, List.map_cons, List.map_nil]); first | done | rfl | (simp only [List.length_drop, List.length_take]; rfl)) ?_; (with_reducible refine (quorum_Index.calls _ _ t259 t262 t263 _ ?side1 ?side2 A57.out).mono ?_); (case side1 => repeat (first | exact (Kd.R_reads' HO261.out).2.2 | (with_reducible refine Kd.C_alloc ?_ _) | (with_reducible refine Kd.C_drewN ?_ _) | (with_reducible refine Kd.C_drew ?_))); (case side2 => exact (Kd.R_reads' HO261.out).2.1); rintro e w76 ⟨rfl, hb⟩; refine ⟨_, rfl, ?_⟩; have n0_ := Aside0.mk (Kd.R_below (by (with_reducible repeat (first | apply Kd.R_alloc | apply Kd.R_drewN | apply Kd.R_drew)); exact HO261.out) hb); have n1_ := Aside0.mk (blk_below (g := gb245) (o := .cells #[.int .i64 ((rd_T76 l0 x3_1).f0), .slice A244_1 ((rd_T76 l0 x3_1).f1).length c244_1, .slice A244_2 ((rd_T76 l0 x3_1).f2).length c244_2] 76 (0, 0)) (by (with_reducible repeat (first | refine blk_drewN ?_ _ | refine blk_drew ?_ | refine blk_alloc ?_ _)); exact BK245.out) hb); have n2_ := Aside0.mk (below_step (by repeat (first | (with_reducible first | exact HB.out | apply below_alloc | apply pw_below_drewN | apply below_drew1 | refine below_set ?_ GE245.out) | exact HB.out)) hb); clear HO261; clear BK245; clear HB; have HO261 := n0_; have BK245 := n1_; have HB := n2_; clear n0_ n1_ n2_; (try clear hb); (try clear hb2); (try clear hk); (try clear hi)) | ((with_reducible refine gate_callee (f := 47) rfl ?_); refine goesL_ (some 122) rfl rfl Try.func47 (by kernel_rfl) rfl #[.int .i64 t263] rfl (by (try simp only [List.map_toArray, List.map_cons, List.map_nil]); first | done | rfl | (simp only [List.length_drop, List.length_take]; rfl)) ?_; (with_reducible refine (lecternlaw24_num.calls t263 t264 _ A58.out).mono ?_); rintro e w' ⟨rfl, ⟨nd, rfl⟩⟩; refine ⟨_, rfl, ?_⟩; have hcz77_0 : w76.cell? ⟨gb245, 0, none⟩ = some (.int .i64 ((rd_T76 l0 x3_1).f0)) := (blk_cell BK245.out 0).trans rfl; have hcz77_1 : w76.cell? ⟨gb245, 1, none⟩ = some (.slice A244_1 ((rd_T76 l0 x3_1).f1).length c244_1) := (blk_cell BK245.out 1).trans rfl; have hcz77_2 : w76.cell? ⟨gb245, 2, none⟩ = some (.slice A244_2 ((rd_T76 l0 x3_1).f2).length c244_2) := (blk_cell BK245.out 2).trans rfl; have hfz77_0 := blk_frozen BK245.out 0; have hfz77_1 := blk_frozen BK245.out 1; have hfz77_2 := blk_frozen BK245.out 2) | (go_at_call 49; (with_reducible refine (lecternref0_EqNumbers.calls kj50 _ _ t259 _ _ ((rd_T76 l0 x3_1).f2) false _ ?side1 ?side2 ?side3 ?side4 A66.out).mono ?_); (case side1 => repeat (first | exact (Kd.R_reads' HO261.out).2.2 | (with_reducible refine Kd.C_alloc ?_ _) | (with_reducible refine Kd.C_drewN ?_ _) | (with_reducible refine Kd.C_drew ?_))); (case side2 => exact (Kd.R_reads' HO261.out).2.1); (case side3 => repeat (first | exact (Kd.C_below HR244_2.out (by repeat (first | (with_reducible first | exact HB.out | apply below_alloc | apply pw_below_drewN | apply below_drew1 | refine below_set ?_ GE245.out) | exact HB.out))) | (with_reducible refine Kd.C_alloc ?_ _) | (with_reducible refine Kd.C_drewN ?_ _) | (with_reducible refine Kd.C_drew ?_))); (case side4 => exact HC244_2.out); rintro e w' ⟨rfl, ⟨nd, rfl⟩⟩))
                                                go_ret
                                                exact ⟨by first | rfl | (simp [errW_none, errW_some] <;> rfl) | (simp [*, errW_none, errW_some] <;> rfl), by repeat (first | (with_reducible first | exact HB.out | apply below_alloc | apply pw_below_drewN | apply below_drew1 | refine below_set ?_ GE245.out) | exact HB.out)⟩
                                            · rw [if_neg c65] at H
                                              have c65b0 : (t262 == x11_50) = false := beq_eq_false_iff_ne.mpr c65
                                              have c65b1 : (t262 != x11_50) = true := bne_iff_ne.mpr c65
                                              obtain rfl := Option.some.inj H
                                              have hcz78_0 : wc.cell? ⟨gb245, 0, none⟩ = some (.int .i64 ((rd_T76 l0 x3_1).f0)) := (blk_cell BK245.out 0).trans rfl
                                              have hcz78_1 : wc.cell? ⟨gb245, 1, none⟩ = some (.slice A244_1 ((rd_T76 l0 x3_1).f1).length c244_1) := (blk_cell BK245.out 1).trans rfl
                                              have hcz78_2 : wc.cell? ⟨gb245, 2, none⟩ = some (.slice A244_2 ((rd_T76 l0 x3_1).f2).length c244_2) := (blk_cell BK245.out 2).trans rfl
                                              have hfz78_0 := blk_frozen BK245.out 0
                                              have hfz78_1 := blk_frozen BK245.out 1
                                              have hfz78_2 := blk_frozen BK245.out 2
                                              go_wp2_with (first | ((with_reducible refine gate_callee (f := 24) rfl ?_); refine goesL_ (some 114) rfl rfl Try.func24 (by kernel_rfl) rfl #[.slice A244_2 ((rd_T76 l0 x3_1).f2).length c244_2] rfl (by (try simp only [List.map_toArray, List.map_cons, List.map_nil]); first | done | rfl | (simp only [List.length_drop, List.length_take]; rfl)) ?_; (with_reducible refine (lecternref0_CopyNumbers.calls kj50 _ _ ((rd_T76 l0 x3_1).f2) t259 _ ?side1 ?side2 A56.out).mono ?_); (case side1 => repeat (first | exact (Kd.C_below HR244_2.out HB.out) | (with_reducible refine Kd.C_alloc ?_ _) | (with_reducible refine Kd.C_drewN ?_ _) | (with_reducible refine Kd.C_drew ?_))); (case side2 => exact HC244_2.out); rintro e w79 ⟨v260, rfl, ho0, hb⟩; refine ⟨_, rfl, ?_⟩; have n0_ := Aside0.mk (Kd.R_lower ho0 (below_size (by repeat (first | (with_reducible first | exact HB.out | apply below_alloc | apply pw_below_drewN | apply below_drew1 | refine below_set ?_ GE245.out) | exact HB.out)))); have n1_ := Aside0.mk (blk_below (g := gb245) (o := .cells #[.int .i64 ((rd_T76 l0 x3_1).f0), .slice A244_1 ((rd_T76 l0 x3_1).f1).length c244_1, .slice A244_2 ((rd_T76 l0 x3_1).f2).length c244_2] 76 (0, 0)) (by (with_reducible repeat (first | refine blk_drewN ?_ _ | refine blk_drew ?_ | refine blk_alloc ?_ _)); exact BK245.out) hb); have n2_ := Aside0.mk (below_step (by repeat (first | (with_reducible first | exact HB.out | apply below_alloc | apply pw_below_drewN | apply below_drew1 | refine below_set ?_ GE245.out) | exact HB.out)) hb); clear BK245; clear HB; have HO261 := n0_; have BK245 := n1_; have HB := n2_; clear n0_ n1_ n2_; (try clear hb); (try clear hb2); (try clear hk); (try clear hi); (try clear ho0); obtain ⟨Ao80, co80, eo80⟩ := Kd.R_slice HO261.out; subst eo80) | ((with_reducible refine gate_callee (f := 51) rfl ?_); refine goesL_ (some 117) rfl rfl Try.func51 (by kernel_rfl) rfl #[.slice Ao80 t259.length co80] rfl (by (try simp only [List.map_toArray, List.map_cons, List.map_nil]); first | done | rfl | (simp only [List.length_drop, List.length_take]; rfl)) ?_; (with_reducible refine (quorum_Index.calls _ _ t259 t262 t263 _ ?side1 ?side2 A57.out).mono ?_); (case side1 => repeat (first | exact (Kd.R_reads' HO261.out).2.2 | (with_reducible refine Kd.C_alloc ?_ _) | (with_reducible refine Kd.C_drewN ?_ _) | (with_reducible refine Kd.C_drew ?_))); (case side2 => exact (Kd.R_reads' HO261.out).2.1); rintro e w81 ⟨rfl, hb⟩; refine ⟨_, rfl, ?_⟩; have n0_ := Aside0.mk (Kd.R_below (by (with_reducible repeat (first | apply Kd.R_alloc | apply Kd.R_drewN | apply Kd.R_drew)); exact HO261.out) hb); have n1_ := Aside0.mk (blk_below (g := gb245) (o := .cells #[.int .i64 ((rd_T76 l0 x3_1).f0), .slice A244_1 ((rd_T76 l0 x3_1).f1).length c244_1, .slice A244_2 ((rd_T76 l0 x3_1).f2).length c244_2] 76 (0, 0)) (by (with_reducible repeat (first | refine blk_drewN ?_ _ | refine blk_drew ?_ | refine blk_alloc ?_ _)); exact BK245.out) hb); have n2_ := Aside0.mk (below_step (by repeat (first | (with_reducible first | exact HB.out | apply below_alloc | apply pw_below_drewN | apply below_drew1 | refine below_set ?_ GE245.out) | exact HB.out)) hb); clear HO261; clear BK245; clear HB; have HO261 := n0_; have BK245 := n1_; have HB := n2_; clear n0_ n1_ n2_; (try clear hb); (try clear hb2); (try clear hk); (try clear hi)) | ((with_reducible refine gate_callee (f := 47) rfl ?_); refine goesL_ (some 122) rfl rfl Try.func47 (by kernel_rfl) rfl #[.int .i64 t263] rfl (by (try simp only [List.map_toArray, List.map_cons, List.map_nil]); first | done | rfl | (simp only [List.length_drop, List.length_take]; rfl)) ?_; (with_reducible refine (lecternlaw24_num.calls t263 t264 _ A58.out).mono ?_); rintro e w' ⟨rfl, ⟨nd, rfl⟩⟩; refine ⟨_, rfl, ?_⟩))
                                              go_ret
                                              exact ⟨by first | rfl | (simp [errW_none, errW_some] <;> rfl) | (simp [*, errW_none, errW_some] <;> rfl), by repeat (first | (with_reducible first | exact HB.out | apply below_alloc | apply pw_below_drewN | apply below_drew1 | refine below_set ?_ GE245.out) | exact HB.out)⟩
                                          · replace c64 := Bool.eq_false_iff.mpr c64
                                            subst c64
                                            have H1 : ((lecternlaw24_num.f t263).bind fun t266 => (if t266 = 1 then (if t262 = x11_50 then ((lecternref0_EqNumbers.f kj50 t259 ((rd_T76 l0 x3_1).f2)).bind fun t267 => (if t267 = true then (lecternlaw24_QuorumExact.l0 kj50 l0 (wrap64 (x3_1 + 1))) else (some false))) else (some false)) else (some false))) = some r := by rw [if_neg (show ¬ (false = true) by decide)] at H; exact H
                                            clear H
                                            have H := H1
                                            clear H1
                                            replace H := Option.bind_eq_some_iff.mp H
                                            obtain ⟨t266, A820, H⟩ := H
                                            replace H : (if t266 = 1 then (if t262 = x11_50 then ((lecternref0_EqNumbers.f kj50 t259 ((rd_T76 l0 x3_1).f2)).bind fun t267 => (if t267 = true then (lecternlaw24_QuorumExact.l0 kj50 l0 (wrap64 (x3_1 + 1))) else (some false))) else (some false)) else (some false)) = some r := H
                                            have A82 := Aside0.mk A820
                                            clear A820
                                            by_cases c83 : t266 = 1
                                            · rw [if_pos c83] at H
                                              have c83b0 : (t266 == 1) = true := beq_iff_eq.mpr c83
                                              have c83b1 : (t266 != 1) = false := bne_eq_false_iff_eq.mpr c83
                                              clear c83
                                              by_cases c84 : t262 = x11_50
                                              · rw [if_pos c84] at H
                                                have c84b0 : (t262 == x11_50) = true := beq_iff_eq.mpr c84
                                                have c84b1 : (t262 != x11_50) = false := bne_eq_false_iff_eq.mpr c84
                                                clear c84
                                                replace H := Option.bind_eq_some_iff.mp H
                                                obtain ⟨t267, A850, H⟩ := H
                                                replace H : (if t267 = true then (lecternlaw24_QuorumExact.l0 kj50 l0 (wrap64 (x3_1 + 1))) else (some false)) = some r := H
                                                have A85 := Aside0.mk A850
                                                clear A850
                                                by_cases c86 : t267 = true
                                                · subst c86
                                                  have H1 : (lecternlaw24_QuorumExact.l0 kj50 l0 (wrap64 (x3_1 + 1))) = some r := by rw [if_pos rfl] at H; exact H
                                                  clear H
                                                  have H := H1
                                                  clear H1
                                                  have H' := Aside0.mk H
                                                  clear H
                                                  have hcz87_0 : wc.cell? ⟨gb245, 0, none⟩ = some (.int .i64 ((rd_T76 l0 x3_1).f0)) := (blk_cell BK245.out 0).trans rfl
                                                  have hcz87_1 : wc.cell? ⟨gb245, 1, none⟩ = some (.slice A244_1 ((rd_T76 l0 x3_1).f1).length c244_1) := (blk_cell BK245.out 1).trans rfl
                                                  have hcz87_2 : wc.cell? ⟨gb245, 2, none⟩ = some (.slice A244_2 ((rd_T76 l0 x3_1).f2).length c244_2) := (blk_cell BK245.out 2).trans rfl
                                                  have hfz87_0 := blk_frozen BK245.out 0
                                                  have hfz87_1 := blk_frozen BK245.out 1
                                                  have hfz87_2 := blk_frozen BK245.out 2
                                                  go_wp2_with (first | ((with_reducible refine gate_callee (f := 24) rfl ?_); refine goesL_ (some 114) rfl rfl Try.func24 (by kernel_rfl) rfl #[.slice A244_2 ((rd_T76 l0 x3_1).f2).length c244_2] rfl (by (try simp only [List.map_toArray, List.map_cons, List.map_nil]); first | done | rfl | (simp only [List.length_drop, List.length_take]; rfl)) ?_; (with_reducible refine (lecternref0_CopyNumbers.calls kj50 _ _ ((rd_T76 l0 x3_1).f2) t259 _ ?side1 ?side2 A56.out).mono ?_); (case side1 => repeat (first | exact (Kd.C_below HR244_2.out HB.out) | (with_reducible refine Kd.C_alloc ?_ _) | (with_reducible refine Kd.C_drewN ?_ _) | (with_reducible refine Kd.C_drew ?_))); (case side2 => exact HC244_2.out); rintro e w88 ⟨v260, rfl, ho0, hb⟩; refine ⟨_, rfl, ?_⟩; have n0_ := Aside0.mk (Kd.R_lower ho0 (below_size (by repeat (first | (with_reducible first | exact HB.out | apply below_alloc | apply pw_below_drewN | apply below_drew1 | refine below_set ?_ GE245.out) | exact HB.out)))); have n1_ := Aside0.mk (blk_below (g := gb245) (o := .cells #[.int .i64 ((rd_T76 l0 x3_1).f0), .slice A244_1 ((rd_T76 l0 x3_1).f1).length c244_1, .slice A244_2 ((rd_T76 l0 x3_1).f2).length c244_2] 76 (0, 0)) (by (with_reducible repeat (first | refine blk_drewN ?_ _ | refine blk_drew ?_ | refine blk_alloc ?_ _)); exact BK245.out) hb); have n2_ := Aside0.mk (below_step (by repeat (first | (with_reducible first | exact HB.out | apply below_alloc | apply pw_below_drewN | apply below_drew1 | refine below_set ?_ GE245.out) | exact HB.out)) hb); clear BK245; clear HB; have HO261 := n0_; have BK245 := n1_; have HB := n2_; clear n0_ n1_ n2_; (try clear hb); (try clear hb2); (try clear hk); (try clear hi); (try clear ho0); obtain ⟨Ao89, co89, eo89⟩ := Kd.R_slice HO261.out; subst eo89) | ((with_reducible refine gate_callee (f := 51) rfl ?_); refine goesL_ (some 117) rfl rfl Try.func51 (by kernel_rfl) rfl #[.slice Ao89 t259.length co89] rfl (by (try simp only [List.map_toArray, List.map_cons, List.map_nil]); first | done | rfl | (simp only [List.length_drop, List.length_take]; rfl)) ?_; (with_reducible refine (quorum_Index.calls _ _ t259 t262 t263 _ ?side1 ?side2 A57.out).mono ?_); (case side1 => repeat (first | exact (Kd.R_reads' HO261.out).2.2 | (with_reducible refine Kd.C_alloc ?_ _) | (with_reducible refine Kd.C_drewN ?_ _) | (with_reducible refine Kd.C_drew ?_))); (case side2 => exact (Kd.R_reads' HO261.out).2.1); rintro e w90 ⟨rfl, hb⟩; refine ⟨_, rfl, ?_⟩; have n0_ := Aside0.mk (Kd.R_below (by (with_reducible repeat (first | apply Kd.R_alloc | apply Kd.R_drewN | apply Kd.R_drew)); exact HO261.out) hb); have n1_ := Aside0.mk (blk_below (g := gb245) (o := .cells #[.int .i64 ((rd_T76 l0 x3_1).f0), .slice A244_1 ((rd_T76 l0 x3_1).f1).length c244_1, .slice A244_2 ((rd_T76 l0 x3_1).f2).length c244_2] 76 (0, 0)) (by (with_reducible repeat (first | refine blk_drewN ?_ _ | refine blk_drew ?_ | refine blk_alloc ?_ _)); exact BK245.out) hb); have n2_ := Aside0.mk (below_step (by repeat (first | (with_reducible first | exact HB.out | apply below_alloc | apply pw_below_drewN | apply below_drew1 | refine below_set ?_ GE245.out) | exact HB.out)) hb); clear HO261; clear BK245; clear HB; have HO261 := n0_; have BK245 := n1_; have HB := n2_; clear n0_ n1_ n2_; (try clear hb); (try clear hb2); (try clear hk); (try clear hi)) | ((with_reducible refine gate_callee (f := 47) rfl ?_); refine goesL_ (some 122) rfl rfl Try.func47 (by kernel_rfl) rfl #[.int .i64 t263] rfl (by (try simp only [List.map_toArray, List.map_cons, List.map_nil]); first | done | rfl | (simp only [List.length_drop, List.length_take]; rfl)) ?_; (with_reducible refine (lecternlaw24_num.calls t263 t264 _ A58.out).mono ?_); rintro e w' ⟨rfl, ⟨nd, rfl⟩⟩; refine ⟨_, rfl, ?_⟩) | (go_at_call 47; (with_reducible refine (lecternlaw24_num.calls t263 t266 _ A82.out).mono ?_); rintro e w' ⟨rfl, ⟨nd, rfl⟩⟩; have hcz91_0 : w90.cell? ⟨gb245, 0, none⟩ = some (.int .i64 ((rd_T76 l0 x3_1).f0)) := (blk_cell BK245.out 0).trans rfl; have hcz91_1 : w90.cell? ⟨gb245, 1, none⟩ = some (.slice A244_1 ((rd_T76 l0 x3_1).f1).length c244_1) := (blk_cell BK245.out 1).trans rfl; have hcz91_2 : w90.cell? ⟨gb245, 2, none⟩ = some (.slice A244_2 ((rd_T76 l0 x3_1).f2).length c244_2) := (blk_cell BK245.out 2).trans rfl; have hfz91_0 := blk_frozen BK245.out 0; have hfz91_1 := blk_frozen BK245.out 1; have hfz91_2 := blk_frozen BK245.out 2) | (go_at_call 49; (with_reducible refine (lecternref0_EqNumbers.calls kj50 _ _ t259 _ _ ((rd_T76 l0 x3_1).f2) true _ ?side1 ?side2 ?side3 ?side4 A85.out).mono ?_); (case side1 => repeat (first | exact (Kd.R_reads' HO261.out).2.2 | (with_reducible refine Kd.C_alloc ?_ _) | (with_reducible refine Kd.C_drewN ?_ _) | (with_reducible refine Kd.C_drew ?_))); (case side2 => exact (Kd.R_reads' HO261.out).2.1); (case side3 => repeat (first | exact (Kd.C_below HR244_2.out (by repeat (first | (with_reducible first | exact HB.out | apply below_alloc | apply pw_below_drewN | apply below_drew1 | refine below_set ?_ GE245.out) | exact HB.out))) | (with_reducible refine Kd.C_alloc ?_ _) | (with_reducible refine Kd.C_drewN ?_ _) | (with_reducible refine Kd.C_drew ?_))); (case side4 => exact HC244_2.out); rintro e w' ⟨rfl, ⟨nd, rfl⟩⟩))
                                                  go_roundg kj50
                                                  case measure => have := HK1.out; have := HJ1.out; have := HJ13.out; have := HJ24.out; have := HJ39.out; have := HJ43.out; have := HJ50.out; omega
                                                  case rel => exact ⟨(wrap64 (x3_1 + 1)), (by first | rfl | (simp; done) | (simp [*]; done)), H', ⟨by have := HK1.out; have := HJ1.out; have := HJ13.out; have := HJ24.out; have := HJ39.out; have := HJ43.out; have := HJ50.out; omega⟩, ⟨by repeat (first | (with_reducible first | exact HB.out | apply below_alloc | apply pw_below_drewN | apply below_drew1 | refine below_set ?_ GE245.out) | exact HB.out)⟩⟩
                                                · replace c86 := Bool.eq_false_iff.mpr c86
                                                  subst c86
                                                  have H1 : (some false) = some r := by rw [if_neg (show ¬ (false = true) by decide)] at H; exact H
                                                  clear H
                                                  have H := H1
                                                  clear H1
                                                  obtain rfl := Option.some.inj H
                                                  have hcz92_0 : wc.cell? ⟨gb245, 0, none⟩ = some (.int .i64 ((rd_T76 l0 x3_1).f0)) := (blk_cell BK245.out 0).trans rfl
                                                  have hcz92_1 : wc.cell? ⟨gb245, 1, none⟩ = some (.slice A244_1 ((rd_T76 l0 x3_1).f1).length c244_1) := (blk_cell BK245.out 1).trans rfl
                                                  have hcz92_2 : wc.cell? ⟨gb245, 2, none⟩ = some (.slice A244_2 ((rd_T76 l0 x3_1).f2).length c244_2) := (blk_cell BK245.out 2).trans rfl
                                                  have hfz92_0 := blk_frozen BK245.out 0
                                                  have hfz92_1 := blk_frozen BK245.out 1
                                                  have hfz92_2 := blk_frozen BK245.out 2
                                                  go_wp2_with (first | ((with_reducible refine gate_callee (f := 24) rfl ?_); refine goesL_ (some 114) rfl rfl Try.func24 (by kernel_rfl) rfl #[.slice A244_2 ((rd_T76 l0 x3_1).f2).length c244_2] rfl (by (try simp only [List.map_toArray, List.map_cons, List.map_nil]); first | done | rfl | (simp only [List.length_drop, List.length_take]; rfl)) ?_; (with_reducible refine (lecternref0_CopyNumbers.calls kj50 _ _ ((rd_T76 l0 x3_1).f2) t259 _ ?side1 ?side2 A56.out).mono ?_); (case side1 => repeat (first | exact (Kd.C_below HR244_2.out HB.out) | (with_reducible refine Kd.C_alloc ?_ _) | (with_reducible refine Kd.C_drewN ?_ _) | (with_reducible refine Kd.C_drew ?_))); (case side2 => exact HC244_2.out); rintro e w93 ⟨v260, rfl, ho0, hb⟩; refine ⟨_, rfl, ?_⟩; have n0_ := Aside0.mk (Kd.R_lower ho0 (below_size (by repeat (first | (with_reducible first | exact HB.out | apply below_alloc | apply pw_below_drewN | apply below_drew1 | refine below_set ?_ GE245.out) | exact HB.out)))); have n1_ := Aside0.mk (blk_below (g := gb245) (o := .cells #[.int .i64 ((rd_T76 l0 x3_1).f0), .slice A244_1 ((rd_T76 l0 x3_1).f1).length c244_1, .slice A244_2 ((rd_T76 l0 x3_1).f2).length c244_2] 76 (0, 0)) (by (with_reducible repeat (first | refine blk_drewN ?_ _ | refine blk_drew ?_ | refine blk_alloc ?_ _)); exact BK245.out) hb); have n2_ := Aside0.mk (below_step (by repeat (first | (with_reducible first | exact HB.out | apply below_alloc | apply pw_below_drewN | apply below_drew1 | refine below_set ?_ GE245.out) | exact HB.out)) hb); clear BK245; clear HB; have HO261 := n0_; have BK245 := n1_; have HB := n2_; clear n0_ n1_ n2_; (try clear hb); (try clear hb2); (try clear hk); (try clear hi); (try clear ho0); obtain ⟨Ao94, co94, eo94⟩ := Kd.R_slice HO261.out; subst eo94) | ((with_reducible refine gate_callee (f := 51) rfl ?_); refine goesL_ (some 117) rfl rfl Try.func51 (by kernel_rfl) rfl #[.slice Ao94 t259.length co94] rfl (by (try simp only [List.map_toArray, List.map_cons, List.map_nil]); first | done | rfl | (simp only [List.length_drop, List.length_take]; rfl)) ?_; (with_reducible refine (quorum_Index.calls _ _ t259 t262 t263 _ ?side1 ?side2 A57.out).mono ?_); (case side1 => repeat (first | exact (Kd.R_reads' HO261.out).2.2 | (with_reducible refine Kd.C_alloc ?_ _) | (with_reducible refine Kd.C_drewN ?_ _) | (with_reducible refine Kd.C_drew ?_))); (case side2 => exact (Kd.R_reads' HO261.out).2.1); rintro e w95 ⟨rfl, hb⟩; refine ⟨_, rfl, ?_⟩; have n0_ := Aside0.mk (Kd.R_below (by (with_reducible repeat (first | apply Kd.R_alloc | apply Kd.R_drewN | apply Kd.R_drew)); exact HO261.out) hb); have n1_ := Aside0.mk (blk_below (g := gb245) (o := .cells #[.int .i64 ((rd_T76 l0 x3_1).f0), .slice A244_1 ((rd_T76 l0 x3_1).f1).length c244_1, .slice A244_2 ((rd_T76 l0 x3_1).f2).length c244_2] 76 (0, 0)) (by (with_reducible repeat (first | refine blk_drewN ?_ _ | refine blk_drew ?_ | refine blk_alloc ?_ _)); exact BK245.out) hb); have n2_ := Aside0.mk (below_step (by repeat (first | (with_reducible first | exact HB.out | apply below_alloc | apply pw_below_drewN | apply below_drew1 | refine below_set ?_ GE245.out) | exact HB.out)) hb); clear HO261; clear BK245; clear HB; have HO261 := n0_; have BK245 := n1_; have HB := n2_; clear n0_ n1_ n2_; (try clear hb); (try clear hb2); (try clear hk); (try clear hi)) | ((with_reducible refine gate_callee (f := 47) rfl ?_); refine goesL_ (some 122) rfl rfl Try.func47 (by kernel_rfl) rfl #[.int .i64 t263] rfl (by (try simp only [List.map_toArray, List.map_cons, List.map_nil]); first | done | rfl | (simp only [List.length_drop, List.length_take]; rfl)) ?_; (with_reducible refine (lecternlaw24_num.calls t263 t264 _ A58.out).mono ?_); rintro e w' ⟨rfl, ⟨nd, rfl⟩⟩; refine ⟨_, rfl, ?_⟩) | (go_at_call 47; (with_reducible refine (lecternlaw24_num.calls t263 t266 _ A82.out).mono ?_); rintro e w' ⟨rfl, ⟨nd, rfl⟩⟩; have hcz96_0 : w95.cell? ⟨gb245, 0, none⟩ = some (.int .i64 ((rd_T76 l0 x3_1).f0)) := (blk_cell BK245.out 0).trans rfl; have hcz96_1 : w95.cell? ⟨gb245, 1, none⟩ = some (.slice A244_1 ((rd_T76 l0 x3_1).f1).length c244_1) := (blk_cell BK245.out 1).trans rfl; have hcz96_2 : w95.cell? ⟨gb245, 2, none⟩ = some (.slice A244_2 ((rd_T76 l0 x3_1).f2).length c244_2) := (blk_cell BK245.out 2).trans rfl; have hfz96_0 := blk_frozen BK245.out 0; have hfz96_1 := blk_frozen BK245.out 1; have hfz96_2 := blk_frozen BK245.out 2) | (go_at_call 49; (with_reducible refine (lecternref0_EqNumbers.calls kj50 _ _ t259 _ _ ((rd_T76 l0 x3_1).f2) false _ ?side1 ?side2 ?side3 ?side4 A85.out).mono ?_); (case side1 => repeat (first | exact (Kd.R_reads' HO261.out).2.2 | (with_reducible refine Kd.C_alloc ?_ _) | (with_reducible refine Kd.C_drewN ?_ _) | (with_reducible refine Kd.C_drew ?_))); (case side2 => exact (Kd.R_reads' HO261.out).2.1); (case side3 => repeat (first | exact (Kd.C_below HR244_2.out (by repeat (first | (with_reducible first | exact HB.out | apply below_alloc | apply pw_below_drewN | apply below_drew1 | refine below_set ?_ GE245.out) | exact HB.out))) | (with_reducible refine Kd.C_alloc ?_ _) | (with_reducible refine Kd.C_drewN ?_ _) | (with_reducible refine Kd.C_drew ?_))); (case side4 => exact HC244_2.out); rintro e w' ⟨rfl, ⟨nd, rfl⟩⟩))
                                                  go_ret
                                                  exact ⟨by first | rfl | (simp [errW_none, errW_some] <;> rfl) | (simp [*, errW_none, errW_some] <;> rfl), by repeat (first | (with_reducible first | exact HB.out | apply below_alloc | apply pw_below_drewN | apply below_drew1 | refine below_set ?_ GE245.out) | exact HB.out)⟩
                                              · rw [if_neg c84] at H
                                                have c84b0 : (t262 == x11_50) = false := beq_eq_false_iff_ne.mpr c84
                                                have c84b1 : (t262 != x11_50) = true := bne_iff_ne.mpr c84
                                                obtain rfl := Option.some.inj H
                                                have hcz97_0 : wc.cell? ⟨gb245, 0, none⟩ = some (.int .i64 ((rd_T76 l0 x3_1).f0)) := (blk_cell BK245.out 0).trans rfl
                                                have hcz97_1 : wc.cell? ⟨gb245, 1, none⟩ = some (.slice A244_1 ((rd_T76 l0 x3_1).f1).length c244_1) := (blk_cell BK245.out 1).trans rfl
                                                have hcz97_2 : wc.cell? ⟨gb245, 2, none⟩ = some (.slice A244_2 ((rd_T76 l0 x3_1).f2).length c244_2) := (blk_cell BK245.out 2).trans rfl
                                                have hfz97_0 := blk_frozen BK245.out 0
                                                have hfz97_1 := blk_frozen BK245.out 1
                                                have hfz97_2 := blk_frozen BK245.out 2
                                                go_wp2_with (first | ((with_reducible refine gate_callee (f := 24) rfl ?_); refine goesL_ (some 114) rfl rfl Try.func24 (by kernel_rfl) rfl #[.slice A244_2 ((rd_T76 l0 x3_1).f2).length c244_2] rfl (by (try simp only [List.map_toArray, List.map_cons, List.map_nil]); first | done | rfl | (simp only [List.length_drop, List.length_take]; rfl)) ?_; (with_reducible refine (lecternref0_CopyNumbers.calls kj50 _ _ ((rd_T76 l0 x3_1).f2) t259 _ ?side1 ?side2 A56.out).mono ?_); (case side1 => repeat (first | exact (Kd.C_below HR244_2.out HB.out) | (with_reducible refine Kd.C_alloc ?_ _) | (with_reducible refine Kd.C_drewN ?_ _) | (with_reducible refine Kd.C_drew ?_))); (case side2 => exact HC244_2.out); rintro e w98 ⟨v260, rfl, ho0, hb⟩; refine ⟨_, rfl, ?_⟩; have n0_ := Aside0.mk (Kd.R_lower ho0 (below_size (by repeat (first | (with_reducible first | exact HB.out | apply below_alloc | apply pw_below_drewN | apply below_drew1 | refine below_set ?_ GE245.out) | exact HB.out)))); have n1_ := Aside0.mk (blk_below (g := gb245) (o := .cells #[.int .i64 ((rd_T76 l0 x3_1).f0), .slice A244_1 ((rd_T76 l0 x3_1).f1).length c244_1, .slice A244_2 ((rd_T76 l0 x3_1).f2).length c244_2] 76 (0, 0)) (by (with_reducible repeat (first | refine blk_drewN ?_ _ | refine blk_drew ?_ | refine blk_alloc ?_ _)); exact BK245.out) hb); have n2_ := Aside0.mk (below_step (by repeat (first | (with_reducible first | exact HB.out | apply below_alloc | apply pw_below_drewN | apply below_drew1 | refine below_set ?_ GE245.out) | exact HB.out)) hb); clear BK245; clear HB; have HO261 := n0_; have BK245 := n1_; have HB := n2_; clear n0_ n1_ n2_; (try clear hb); (try clear hb2); (try clear hk); (try clear hi); (try clear ho0); obtain ⟨Ao99, co99, eo99⟩ := Kd.R_slice HO261.out; subst eo99) | ((with_reducible refine gate_callee (f := 51) rfl ?_); refine goesL_ (some 117) rfl rfl Try.func51 (by kernel_rfl) rfl #[.slice Ao99 t259.length co99] rfl (by (try simp only [List.map_toArray, List.map_cons, List.map_nil]); first | done | rfl | (simp only [List.length_drop, List.length_take]; rfl)) ?_; (with_reducible refine (quorum_Index.calls _ _ t259 t262 t263 _ ?side1 ?side2 A57.out).mono ?_); (case side1 => repeat (first | exact (Kd.R_reads' HO261.out).2.2 | (with_reducible refine Kd.C_alloc ?_ _) | (with_reducible refine Kd.C_drewN ?_ _) | (with_reducible refine Kd.C_drew ?_))); (case side2 => exact (Kd.R_reads' HO261.out).2.1); rintro e w100 ⟨rfl, hb⟩; refine ⟨_, rfl, ?_⟩; have n0_ := Aside0.mk (Kd.R_below (by (with_reducible repeat (first | apply Kd.R_alloc | apply Kd.R_drewN | apply Kd.R_drew)); exact HO261.out) hb); have n1_ := Aside0.mk (blk_below (g := gb245) (o := .cells #[.int .i64 ((rd_T76 l0 x3_1).f0), .slice A244_1 ((rd_T76 l0 x3_1).f1).length c244_1, .slice A244_2 ((rd_T76 l0 x3_1).f2).length c244_2] 76 (0, 0)) (by (with_reducible repeat (first | refine blk_drewN ?_ _ | refine blk_drew ?_ | refine blk_alloc ?_ _)); exact BK245.out) hb); have n2_ := Aside0.mk (below_step (by repeat (first | (with_reducible first | exact HB.out | apply below_alloc | apply pw_below_drewN | apply below_drew1 | refine below_set ?_ GE245.out) | exact HB.out)) hb); clear HO261; clear BK245; clear HB; have HO261 := n0_; have BK245 := n1_; have HB := n2_; clear n0_ n1_ n2_; (try clear hb); (try clear hb2); (try clear hk); (try clear hi)) | ((with_reducible refine gate_callee (f := 47) rfl ?_); refine goesL_ (some 122) rfl rfl Try.func47 (by kernel_rfl) rfl #[.int .i64 t263] rfl (by (try simp only [List.map_toArray, List.map_cons, List.map_nil]); first | done | rfl | (simp only [List.length_drop, List.length_take]; rfl)) ?_; (with_reducible refine (lecternlaw24_num.calls t263 t264 _ A58.out).mono ?_); rintro e w' ⟨rfl, ⟨nd, rfl⟩⟩; refine ⟨_, rfl, ?_⟩) | (go_at_call 47; (with_reducible refine (lecternlaw24_num.calls t263 t266 _ A82.out).mono ?_); rintro e w' ⟨rfl, ⟨nd, rfl⟩⟩))
                                                go_ret
                                                exact ⟨by first | rfl | (simp [errW_none, errW_some] <;> rfl) | (simp [*, errW_none, errW_some] <;> rfl), by repeat (first | (with_reducible first | exact HB.out | apply below_alloc | apply pw_below_drewN | apply below_drew1 | refine below_set ?_ GE245.out) | exact HB.out)⟩
                                            · rw [if_neg c83] at H
                                              have c83b0 : (t266 == 1) = false := beq_eq_false_iff_ne.mpr c83
                                              have c83b1 : (t266 != 1) = true := bne_iff_ne.mpr c83
                                              obtain rfl := Option.some.inj H
                                              have hcz101_0 : wc.cell? ⟨gb245, 0, none⟩ = some (.int .i64 ((rd_T76 l0 x3_1).f0)) := (blk_cell BK245.out 0).trans rfl
                                              have hcz101_1 : wc.cell? ⟨gb245, 1, none⟩ = some (.slice A244_1 ((rd_T76 l0 x3_1).f1).length c244_1) := (blk_cell BK245.out 1).trans rfl
                                              have hcz101_2 : wc.cell? ⟨gb245, 2, none⟩ = some (.slice A244_2 ((rd_T76 l0 x3_1).f2).length c244_2) := (blk_cell BK245.out 2).trans rfl
                                              have hfz101_0 := blk_frozen BK245.out 0
                                              have hfz101_1 := blk_frozen BK245.out 1
                                              have hfz101_2 := blk_frozen BK245.out 2
                                              go_wp2_with (first | ((with_reducible refine gate_callee (f := 24) rfl ?_); refine goesL_ (some 114) rfl rfl Try.func24 (by kernel_rfl) rfl #[.slice A244_2 ((rd_T76 l0 x3_1).f2).length c244_2] rfl (by (try simp only [List.map_toArray, List.map_cons, List.map_nil]); first | done | rfl | (simp only [List.length_drop, List.length_take]; rfl)) ?_; (with_reducible refine (lecternref0_CopyNumbers.calls kj50 _ _ ((rd_T76 l0 x3_1).f2) t259 _ ?side1 ?side2 A56.out).mono ?_); (case side1 => repeat (first | exact (Kd.C_below HR244_2.out HB.out) | (with_reducible refine Kd.C_alloc ?_ _) | (with_reducible refine Kd.C_drewN ?_ _) | (with_reducible refine Kd.C_drew ?_))); (case side2 => exact HC244_2.out); rintro e w102 ⟨v260, rfl, ho0, hb⟩; refine ⟨_, rfl, ?_⟩; have n0_ := Aside0.mk (Kd.R_lower ho0 (below_size (by repeat (first | (with_reducible first | exact HB.out | apply below_alloc | apply pw_below_drewN | apply below_drew1 | refine below_set ?_ GE245.out) | exact HB.out)))); have n1_ := Aside0.mk (blk_below (g := gb245) (o := .cells #[.int .i64 ((rd_T76 l0 x3_1).f0), .slice A244_1 ((rd_T76 l0 x3_1).f1).length c244_1, .slice A244_2 ((rd_T76 l0 x3_1).f2).length c244_2] 76 (0, 0)) (by (with_reducible repeat (first | refine blk_drewN ?_ _ | refine blk_drew ?_ | refine blk_alloc ?_ _)); exact BK245.out) hb); have n2_ := Aside0.mk (below_step (by repeat (first | (with_reducible first | exact HB.out | apply below_alloc | apply pw_below_drewN | apply below_drew1 | refine below_set ?_ GE245.out) | exact HB.out)) hb); clear BK245; clear HB; have HO261 := n0_; have BK245 := n1_; have HB := n2_; clear n0_ n1_ n2_; (try clear hb); (try clear hb2); (try clear hk); (try clear hi); (try clear ho0); obtain ⟨Ao103, co103, eo103⟩ := Kd.R_slice HO261.out; subst eo103) | ((with_reducible refine gate_callee (f := 51) rfl ?_); refine goesL_ (some 117) rfl rfl Try.func51 (by kernel_rfl) rfl #[.slice Ao103 t259.length co103] rfl (by (try simp only [List.map_toArray, List.map_cons, List.map_nil]); first | done | rfl | (simp only [List.length_drop, List.length_take]; rfl)) ?_; (with_reducible refine (quorum_Index.calls _ _ t259 t262 t263 _ ?side1 ?side2 A57.out).mono ?_); (case side1 => repeat (first | exact (Kd.R_reads' HO261.out).2.2 | (with_reducible refine Kd.C_alloc ?_ _) | (with_reducible refine Kd.C_drewN ?_ _) | (with_reducible refine Kd.C_drew ?_))); (case side2 => exact (Kd.R_reads' HO261.out).2.1); rintro e w104 ⟨rfl, hb⟩; refine ⟨_, rfl, ?_⟩; have n0_ := Aside0.mk (Kd.R_below (by (with_reducible repeat (first | apply Kd.R_alloc | apply Kd.R_drewN | apply Kd.R_drew)); exact HO261.out) hb); have n1_ := Aside0.mk (blk_below (g := gb245) (o := .cells #[.int .i64 ((rd_T76 l0 x3_1).f0), .slice A244_1 ((rd_T76 l0 x3_1).f1).length c244_1, .slice A244_2 ((rd_T76 l0 x3_1).f2).length c244_2] 76 (0, 0)) (by (with_reducible repeat (first | refine blk_drewN ?_ _ | refine blk_drew ?_ | refine blk_alloc ?_ _)); exact BK245.out) hb); have n2_ := Aside0.mk (below_step (by repeat (first | (with_reducible first | exact HB.out | apply below_alloc | apply pw_below_drewN | apply below_drew1 | refine below_set ?_ GE245.out) | exact HB.out)) hb); clear HO261; clear BK245; clear HB; have HO261 := n0_; have BK245 := n1_; have HB := n2_; clear n0_ n1_ n2_; (try clear hb); (try clear hb2); (try clear hk); (try clear hi)) | ((with_reducible refine gate_callee (f := 47) rfl ?_); refine goesL_ (some 122) rfl rfl Try.func47 (by kernel_rfl) rfl #[.int .i64 t263] rfl (by (try simp only [List.map_toArray, List.map_cons, List.map_nil]); first | done | rfl | (simp only [List.length_drop, List.length_take]; rfl)) ?_; (with_reducible refine (lecternlaw24_num.calls t263 t264 _ A58.out).mono ?_); rintro e w' ⟨rfl, ⟨nd, rfl⟩⟩; refine ⟨_, rfl, ?_⟩) | (go_at_call 47; (with_reducible refine (lecternlaw24_num.calls t263 t266 _ A82.out).mono ?_); rintro e w' ⟨rfl, ⟨nd, rfl⟩⟩))
                                              go_ret
                                              exact ⟨by first | rfl | (simp [errW_none, errW_some] <;> rfl) | (simp [*, errW_none, errW_some] <;> rfl), by repeat (first | (with_reducible first | exact HB.out | apply below_alloc | apply pw_below_drewN | apply below_drew1 | refine below_set ?_ GE245.out) | exact HB.out)⟩
              · rw [if_neg c6] at H
                exact absurd H (by simp)
            · rw [if_neg c5] at H
              exact absurd H (by simp)
          · replace c4 := Bool.eq_false_iff.mpr c4
            subst c4
            have H1 : ((lecternlaw24_wakes.f kj1).bind fun t243 => (some t243)) = some r := by rw [if_neg (show ¬ (false = true) by decide)] at H; exact H
            clear H
            have H := H1
            clear H1
            replace H := Option.bind_eq_some_iff.mp H
            obtain ⟨t243, A1050, H⟩ := H
            replace H : (some t243) = some r := H
            have A105 := Aside0.mk A1050
            clear A1050
            obtain rfl := Option.some.inj H
            go_wp2_with (first | ((with_reducible refine gate_callee (f := 52) rfl ?_); refine goesL_ (some 146) rfl rfl Try.func52 (by kernel_rfl) rfl #[] rfl (by (try simp only [List.map_toArray, List.map_cons, List.map_nil]); first | done | rfl | (simp only [List.length_drop, List.length_take]; rfl)) ?_; (with_reducible refine (lecternlaw24_wakes.calls kj1  t243 _ A105.out).mono ?_); rintro e w106 ⟨rfl, hb⟩; refine ⟨_, rfl, ?_⟩; have n0_ := Aside0.mk (below_step (by repeat (first | (with_reducible first | exact HB.out | apply below_alloc | apply pw_below_drewN | apply below_drew1) | exact HB.out)) hb); clear HB; have HB := n0_; clear n0_; (try clear hb); (try clear hb2); (try clear hk); (try clear hi)))
            go_ret
            exact ⟨by first | rfl | (simp [errW_none, errW_some] <;> rfl) | (simp [*, errW_none, errW_some] <;> rfl), by repeat (first | (with_reducible first | exact HB.out | apply below_alloc | apply pw_below_drewN | apply below_drew1) | exact HB.out)⟩

end Go.Proofs.Ytcacckaonjnmjaa.Q
