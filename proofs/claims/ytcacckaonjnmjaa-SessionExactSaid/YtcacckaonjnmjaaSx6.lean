-- Written by a program: the kit's printer with changes of this session (NOTES.md).
import Derived.Test.YtcacckaonjnmjaaSHand
import Derived.Test.YtcacckaonjnmjaaSx0
import Derived.Test.YtcacckaonjnmjaaSxA
import Derived.Test.YtcacckaonjnmjaaSx5
namespace Go.Proofs.Ytcacckaonjnmjaa.S
open Go.RowKit Go.Proofs.YtcacckaonjnmjaaW.PrintWords Go.Proofs.YtcacckaonjnmjaaW.PrintLast Go.Proofs.YtcacckaonjnmjaaW.PrintMore
attribute [local go_sem] max2_int min2_int max_two min_two max_three min_three max_four min_four   -- for this text's walks alone
set_option linter.unusedVariables false
set_option linter.unusedSimpArgs false

-- shrunk
@[reducible] def fz6_0 : Array Bool := #[false, false, false, false, false, false, false, false, false, false, false, false, false, false, false, false, false, false, false, false, false, false, false, false, false, false, false, false, false, false, false, false, false, false, false, false, false, false, false, false, false, false, false, false, false, false, false, false, false, false, false, false]
@[reducible] def fz6_1 : Array Bool := #[true, false, false, false, false, false, false, false, false, false, false, false, false, false, false, false, false, false, false, false, false, false, false, false, false, false, false, false, false, false, false, false, false, false, false, false, false, false, false, false, false, false, false, false, false, false, false, false, false, false, false, false]
@[reducible] def fz6_2 : Array Bool := #[true, true, false, false, false, false, false, false, false, false, false, false, false, false, false, false, false, false, false, false, false, false, false, false, false, false, false, false, false, false, false, false, false, false, false, false, false, false, false, false, false, false, false, false, false, false, false, false, false, false, false, false]
@[reducible] def fz6_3 : Array Bool := #[true, true, true, false, false, false, false, false, false, false, false, false, false, false, false, false, false, false, false, false, false, false, false, false, false, false, false, false, false, false, false, false, false, false, false, false, false, false, false, false, false, false, false, false, false, false, false, false, false, false, false, false]
@[reducible] def fz6_4 : Array Bool := #[true, true, true, true, false, false, false, false, false, false, false, false, false, false, false, false, false, false, false, false, false, false, false, false, false, false, false, false, false, false, false, false, false, false, false, false, false, false, false, false, false, false, false, false, false, false, false, false, false, false, false, false]
@[reducible] def fz6_5 : Array Bool := #[true, true, true, true, true, false, false, false, false, false, false, false, false, false, false, false, false, false, false, false, false, false, false, false, false, false, false, false, false, false, false, false, false, false, false, false, false, false, false, false, false, false, false, false, false, false, false, false, false, false, false, false]
@[reducible] def fz6_6 : Array Bool := #[true, true, true, true, true, true, false, false, false, false, false, false, false, false, false, false, false, false, false, false, false, false, false, false, false, false, false, false, false, false, false, false, false, false, false, false, false, false, false, false, false, false, false, false, false, false, false, false, false, false, false, false]
@[reducible] def fz6_7 : Array Bool := #[true, true, true, true, true, true, true, false, false, false, false, false, false, false, false, false, false, false, false, false, false, false, false, false, false, false, false, false, false, false, false, false, false, false, false, false, false, false, false, false, false, false, false, false, false, false, false, false, false, false, false, false]
@[reducible] def fz6_8 : Array Bool := #[true, true, true, true, true, true, true, true, false, false, false, false, false, false, false, false, false, false, false, false, false, false, false, false, false, false, false, false, false, false, false, false, false, false, false, false, false, false, false, false, false, false, false, false, false, false, false, false, false, false, false, false]
@[reducible] def fz6_9 : Array Bool := #[true, true, true, true, true, true, true, true, true, false, false, false, false, false, false, false, false, false, false, false, false, false, false, false, false, false, false, false, false, false, false, false, false, false, false, false, false, false, false, false, false, false, false, false, false, false, false, false, false, false, false, false]
@[reducible] def fz6_10 : Array Bool := #[true, true, true, true, true, true, true, true, true, true, false, false, false, false, false, false, false, false, false, false, false, false, false, false, false, false, false, false, false, false, false, false, false, false, false, false, false, false, false, false, false, false, false, false, false, false, false, false, false, false, false, false]
@[reducible] def fz6_11 : Array Bool := #[true, true, true, true, true, true, true, true, true, true, true, false, false, false, false, false, false, false, false, false, false, false, false, false, false, false, false, false, false, false, false, false, false, false, false, false, false, false, false, false, false, false, false, false, false, false, false, false, false, false, false, false]
@[reducible] def fz6_12 : Array Bool := #[true, true, true, true, true, true, true, true, true, true, true, true, false, false, false, false, false, false, false, false, false, false, false, false, false, false, false, false, false, false, false, false, false, false, false, false, false, false, false, false, false, false, false, false, false, false, false, false, false, false, false, false]
@[reducible] def fz6_13 : Array Bool := #[true, true, true, true, true, true, true, true, true, true, true, true, true, false, false, false, false, false, false, false, false, false, false, false, false, false, false, false, false, false, false, false, false, false, false, false, false, false, false, false, false, false, false, false, false, false, false, false, false, false, false, false]
@[reducible] def fz6_14 : Array Bool := #[true, true, true, true, true, true, true, true, true, true, true, true, true, true, false, false, false, false, false, false, false, false, false, false, false, false, false, false, false, false, false, false, false, false, false, false, false, false, false, false, false, false, false, false, false, false, false, false, false, false, false, false]
@[reducible] def fz6_15 : Array Bool := #[true, true, true, true, true, true, true, true, true, true, true, true, true, true, true, false, false, false, false, false, false, false, false, false, false, false, false, false, false, false, false, false, false, false, false, false, false, false, false, false, false, false, false, false, false, false, false, false, false, false, false, false]
@[reducible] def fz6_16 : Array Bool := #[true, true, true, true, true, true, true, true, true, true, true, true, true, true, true, true, false, false, false, false, false, false, false, false, false, false, false, false, false, false, false, false, false, false, false, false, false, false, false, false, false, false, false, false, false, false, false, false, false, false, false, false]
@[reducible] def fz6_17 : Array Bool := #[true, true, true, true, true, true, true, true, true, true, true, true, true, true, true, true, true, false, false, false, false, false, false, false, false, false, false, false, false, false, false, false, false, false, false, false, false, false, false, false, false, false, false, false, false, false, false, false, false, false, false, false]
@[reducible] def fz6_18 : Array Bool := #[true, true, true, true, true, true, true, true, true, true, true, true, true, true, true, true, true, true, false, false, false, false, false, false, false, false, false, false, false, false, false, false, false, false, false, false, false, false, false, false, false, false, false, false, false, false, false, false, false, false, false, false]
@[reducible] def fz6_19 : Array Bool := #[true, true, true, true, true, true, true, true, true, true, true, true, true, true, true, true, true, true, true, false, false, false, false, false, false, false, false, false, false, false, false, false, false, false, false, false, false, false, false, false, false, false, false, false, false, false, false, false, false, false, false, false]
@[reducible] def fz6_20 : Array Bool := #[true, true, true, true, true, true, true, true, true, true, true, true, true, true, true, true, true, true, true, true, false, false, false, false, false, false, false, false, false, false, false, false, false, false, false, false, false, false, false, false, false, false, false, false, false, false, false, false, false, false, false, false]
@[reducible] def fz6_21 : Array Bool := #[true, true, true, true, true, true, true, true, true, true, true, true, true, true, true, true, true, true, true, true, true, false, false, false, false, false, false, false, false, false, false, false, false, false, false, false, false, false, false, false, false, false, false, false, false, false, false, false, false, false, false, false]
@[reducible] def fz6_22 : Array Bool := #[true, true, true, true, true, true, true, true, true, true, true, true, true, true, true, true, true, true, true, true, true, true, false, false, false, false, false, false, false, false, false, false, false, false, false, false, false, false, false, false, false, false, false, false, false, false, false, false, false, false, false, false]
@[reducible] def fz6_23 : Array Bool := #[true, true, true, true, true, true, true, true, true, true, true, true, true, true, true, true, true, true, true, true, true, true, true, false, false, false, false, false, false, false, false, false, false, false, false, false, false, false, false, false, false, false, false, false, false, false, false, false, false, false, false, false]
@[reducible] def fz6_24 : Array Bool := #[true, true, true, true, true, true, true, true, true, true, true, true, true, true, true, true, true, true, true, true, true, true, true, true, false, false, false, false, false, false, false, false, false, false, false, false, false, false, false, false, false, false, false, false, false, false, false, false, false, false, false, false]
@[reducible] def fz6_25 : Array Bool := #[true, true, true, true, true, true, true, true, true, true, true, true, true, true, true, true, true, true, true, true, true, true, true, true, true, false, false, false, false, false, false, false, false, false, false, false, false, false, false, false, false, false, false, false, false, false, false, false, false, false, false, false]
@[reducible] def fz6_26 : Array Bool := #[true, true, true, true, true, true, true, true, true, true, true, true, true, true, true, true, true, true, true, true, true, true, true, true, true, true, false, false, false, false, false, false, false, false, false, false, false, false, false, false, false, false, false, false, false, false, false, false, false, false, false, false]
@[reducible] def fz6_27 : Array Bool := #[true, true, true, true, true, true, true, true, true, true, true, true, true, true, true, true, true, true, true, true, true, true, true, true, true, true, true, false, false, false, false, false, false, false, false, false, false, false, false, false, false, false, false, false, false, false, false, false, false, false, false, false]
@[reducible] def fz6_28 : Array Bool := #[true, true, true, true, true, true, true, true, true, true, true, true, true, true, true, true, true, true, true, true, true, true, true, true, true, true, true, true, false, false, false, false, false, false, false, false, false, false, false, false, false, false, false, false, false, false, false, false, false, false, false, false]
@[reducible] def fz6_29 : Array Bool := #[true, true, true, true, true, true, true, true, true, true, true, true, true, true, true, true, true, true, true, true, true, true, true, true, true, true, true, true, true, false, false, false, false, false, false, false, false, false, false, false, false, false, false, false, false, false, false, false, false, false, false, false]
@[reducible] def fz6_30 : Array Bool := #[true, true, true, true, true, true, true, true, true, true, true, true, true, true, true, true, true, true, true, true, true, true, true, true, true, true, true, true, true, true, false, false, false, false, false, false, false, false, false, false, false, false, false, false, false, false, false, false, false, false, false, false]
@[reducible] def fz6_31 : Array Bool := #[true, true, true, true, true, true, true, true, true, true, true, true, true, true, true, true, true, true, true, true, true, true, true, true, true, true, true, true, true, true, true, false, false, false, false, false, false, false, false, false, false, false, false, false, false, false, false, false, false, false, false, false]
@[reducible] def fz6_32 : Array Bool := #[true, true, true, true, true, true, true, true, true, true, true, true, true, true, true, true, true, true, true, true, true, true, true, true, true, true, true, true, true, true, true, true, false, false, false, false, false, false, false, false, false, false, false, false, false, false, false, false, false, false, false, false]
@[reducible] def fz6_33 : Array Bool := #[true, true, true, true, true, true, true, true, true, true, true, true, true, true, true, true, true, true, true, true, true, true, true, true, true, true, true, true, true, true, true, true, true, false, false, false, false, false, false, false, false, false, false, false, false, false, false, false, false, false, false, false]
@[reducible] def fz6_34 : Array Bool := #[true, true, true, true, true, true, true, true, true, true, true, true, true, true, true, true, true, true, true, true, true, true, true, true, true, true, true, true, true, true, true, true, true, true, false, false, false, false, false, false, false, false, false, false, false, false, false, false, false, false, false, false]
@[reducible] def fz6_35 : Array Bool := #[true, true, true, true, true, true, true, true, true, true, true, true, true, true, true, true, true, true, true, true, true, true, true, true, true, true, true, true, true, true, true, true, true, true, true, false, false, false, false, false, false, false, false, false, false, false, false, false, false, false, false, false]
@[reducible] def fz6_36 : Array Bool := #[true, true, true, true, true, true, true, true, true, true, true, true, true, true, true, true, true, true, true, true, true, true, true, true, true, true, true, true, true, true, true, true, true, true, true, true, false, false, false, false, false, false, false, false, false, false, false, false, false, false, false, false]
@[reducible] def fz6_37 : Array Bool := #[true, true, true, true, true, true, true, true, true, true, true, true, true, true, true, true, true, true, true, true, true, true, true, true, true, true, true, true, true, true, true, true, true, true, true, true, true, false, false, false, false, false, false, false, false, false, false, false, false, false, false, false]
@[reducible] def fz6_38 : Array Bool := #[true, true, true, true, true, true, true, true, true, true, true, true, true, true, true, true, true, true, true, true, true, true, true, true, true, true, true, true, true, true, true, true, true, true, true, true, true, true, false, false, false, false, false, false, false, false, false, false, false, false, false, false]
@[reducible] def fz6_39 : Array Bool := #[true, true, true, true, true, true, true, true, true, true, true, true, true, true, true, true, true, true, true, true, true, true, true, true, true, true, true, true, true, true, true, true, true, true, true, true, true, true, true, false, false, false, false, false, false, false, false, false, false, false, false, false]
@[reducible] def fz6_40 : Array Bool := #[true, true, true, true, true, true, true, true, true, true, true, true, true, true, true, true, true, true, true, true, true, true, true, true, true, true, true, true, true, true, true, true, true, true, true, true, true, true, true, true, false, false, false, false, false, false, false, false, false, false, false, false]
@[reducible] def fz6_41 : Array Bool := #[true, true, true, true, true, true, true, true, true, true, true, true, true, true, true, true, true, true, true, true, true, true, true, true, true, true, true, true, true, true, true, true, true, true, true, true, true, true, true, true, true, false, false, false, false, false, false, false, false, false, false, false]
@[reducible] def fz6_42 : Array Bool := #[true, true, true, true, true, true, true, true, true, true, true, true, true, true, true, true, true, true, true, true, true, true, true, true, true, true, true, true, true, true, true, true, true, true, true, true, true, true, true, true, true, true, false, false, false, false, false, false, false, false, false, false]
@[reducible] def fz6_43 : Array Bool := #[true, true, true, true, true, true, true, true, true, true, true, true, true, true, true, true, true, true, true, true, true, true, true, true, true, true, true, true, true, true, true, true, true, true, true, true, true, true, true, true, true, true, true, false, false, false, false, false, false, false, false, false]
@[reducible] def fz6_44 : Array Bool := #[true, true, true, true, true, true, true, true, true, true, true, true, true, true, true, true, true, true, true, true, true, true, true, true, true, true, true, true, true, true, true, true, true, true, true, true, true, true, true, true, true, true, true, true, false, false, false, false, false, false, false, false]
@[reducible] def fz6_45 : Array Bool := #[true, true, true, true, true, true, true, true, true, true, true, true, true, true, true, true, true, true, true, true, true, true, true, true, true, true, true, true, true, true, true, true, true, true, true, true, true, true, true, true, true, true, true, true, true, false, false, false, false, false, false, false]
@[reducible] def fz6_46 : Array Bool := #[true, true, true, true, true, true, true, true, true, true, true, true, true, true, true, true, true, true, true, true, true, true, true, true, true, true, true, true, true, true, true, true, true, true, true, true, true, true, true, true, true, true, true, true, true, true, false, false, false, false, false, false]
@[reducible] def fz6_47 : Array Bool := #[true, true, true, true, true, true, true, true, true, true, true, true, true, true, true, true, true, true, true, true, true, true, true, true, true, true, true, true, true, true, true, true, true, true, true, true, true, true, true, true, true, true, true, true, true, true, true, false, false, false, false, false]
@[reducible] def fz6_48 : Array Bool := #[true, true, true, true, true, true, true, true, true, true, true, true, true, true, true, true, true, true, true, true, true, true, true, true, true, true, true, true, true, true, true, true, true, true, true, true, true, true, true, true, true, true, true, true, true, true, true, true, false, false, false, false]
@[reducible] def fz6_49 : Array Bool := #[true, true, true, true, true, true, true, true, true, true, true, true, true, true, true, true, true, true, true, true, true, true, true, true, true, true, true, true, true, true, true, true, true, true, true, true, true, true, true, true, true, true, true, true, true, true, true, true, true, false, false, false]
@[reducible] def fz6_50 : Array Bool := #[true, true, true, true, true, true, true, true, true, true, true, true, true, true, true, true, true, true, true, true, true, true, true, true, true, true, true, true, true, true, true, true, true, true, true, true, true, true, true, true, true, true, true, true, true, true, true, true, true, true, false, false]
@[reducible] def fz6_51 : Array Bool := #[true, true, true, true, true, true, true, true, true, true, true, true, true, true, true, true, true, true, true, true, true, true, true, true, true, true, true, true, true, true, true, true, true, true, true, true, true, true, true, true, true, true, true, true, true, true, true, true, true, true, true, false]
@[reducible] def fz6_52 : Array Bool := #[true, true, true, true, true, true, true, true, true, true, true, true, true, true, true, true, true, true, true, true, true, true, true, true, true, true, true, true, true, true, true, true, true, true, true, true, true, true, true, true, true, true, true, true, true, true, true, true, true, true, true, true]
/-! ### lecternref14_May: function 14 -/
mutual
def lecternref14_May.l0 : Nat → List (S88) → Int → Option (Bool)
 | 0, _, _ => none
 | k + 1, x0, x3 => if x3 < (x0.length : Int) then (if 0 ≤ x3 then ((lecternref14_id.f ((rd_T88 x0 x3).f0)).bind fun t107 => (if t107 = true then ((lecternref0_Num.f ((rd_T88 x0 x3).f1)).bind fun t109 => (if t109 = true then ((lecternref0_Num.f ((rd_T88 x0 x3).f3)).bind fun t111 => (if t111 = true then ((lecternref14_MayReply.f ((rd_T88 x0 x3).f2.f0) ((rd_T88 x0 x3).f2.f1) ((rd_T88 x0 x3).f2.f2)).bind fun t113 => (if t113 = true then (if x3 > 0 then (if 0 ≤ (wrap64 (x3 - 1)) then (if (wrap64 (x3 - 1)) < (x0.length : Int) then (lecternref14_May.j1 k x0 x3 (decide (((rd_T88 x0 (wrap64 (x3 - 1))).f0) ≥ ((rd_T88 x0 x3).f0)))) else (none)) else (none)) else (lecternref14_May.j1 k x0 x3 false)) else (lecternref14_May.j1 k x0 x3 true))) else (lecternref14_May.j1 k x0 x3 true))) else (lecternref14_May.j1 k x0 x3 true))) else (lecternref14_May.j1 k x0 x3 true))) else (none)) else (some true)
def lecternref14_May.j1 : Nat → List (S88) → Int → Bool → Option (Bool)
 | 0, _, _, _ => none
 | k + 1, x0, x3, x64 => if x64 = true then (some false) else (lecternref14_May.l0 k x0 (wrap64 (x3 + 1)))
end
def lecternref14_May.f (k : Nat) (l0 : List (S88)) : Option (Bool) := if (l0.length : Int) > 8 then (some false) else (lecternref14_May.l0 k l0 0)
theorem lecternref14_May.mono_l : ∀ k, (∀ y0 y1, LeO (lecternref14_May.l0 k y0 y1) (lecternref14_May.l0 (k + 1) y0 y1)) ∧ (∀ y0 y1 y2, LeO (lecternref14_May.j1 k y0 y1 y2) (lecternref14_May.j1 (k + 1) y0 y1 y2))
 | 0 => ⟨fun _ _ r h => by simp [lecternref14_May.l0] at h, fun _ _ _ r h => by simp [lecternref14_May.j1] at h⟩
 | k + 1 => by
  obtain ⟨ih0, ih1⟩ := lecternref14_May.mono_l k
  refine ⟨?_, ?_⟩
  ·intro y0 y1
   unfold lecternref14_May.l0
   repeat' first
   | (with_reducible exact ih0 _ _)
   | (with_reducible exact ih1 _ _ _)
   | (with_reducible exact LeO.refl _)
   | (with_reducible exact LeO.none _)
   | (with_reducible refine LeO.ite ?_ ?_)
   | (with_reducible refine LeO.bind ?_ (fun _ => ?_))
   | exact ih0 _ _
   | exact ih1 _ _ _
   | exact LeO.none _
   | refine LeO.ite ?_ ?_
   | refine LeO.bind ?_ (fun _ => ?_)
  ·intro y0 y1 y2
   unfold lecternref14_May.j1
   repeat' first
   | (with_reducible exact ih0 _ _)
   | (with_reducible exact ih1 _ _ _)
   | (with_reducible exact LeO.refl _)
   | (with_reducible exact LeO.none _)
   | (with_reducible refine LeO.ite ?_ ?_)
   | (with_reducible refine LeO.bind ?_ (fun _ => ?_))
   | exact ih0 _ _
   | exact ih1 _ _ _
   | exact LeO.none _
   | refine LeO.ite ?_ ?_
   | refine LeO.bind ?_ (fun _ => ?_)
theorem lecternref14_May.mono : ∀ a0 k, LeO (lecternref14_May.f k a0) (lecternref14_May.f (k + 1) a0) := by
 intro a0 k
 obtain ⟨ih0, ih1⟩ := lecternref14_May.mono_l k
 unfold lecternref14_May.f
 repeat' first
   | (with_reducible exact ih0 _ _)
   | (with_reducible exact ih1 _ _ _)
   | (with_reducible exact LeO.refl _)
   | (with_reducible exact LeO.none _)
   | (with_reducible refine LeO.ite ?_ ?_)
   | (with_reducible refine LeO.bind ?_ (fun _ => ?_))
   | exact ih0 _ _
   | exact ih1 _ _ _
   | exact LeO.none _
   | refine LeO.ite ?_ ?_
   | refine LeO.bind ?_ (fun _ => ?_)
def lecternref14_May.T6 : Bool × List (List Nat × List Nat) := (true, [([], []), ([], []), ([0, 1], [0, 1]), ([2], [2]), ([3], [3]), ([4], [4]), ([5], [5]), ([6, 5], [6]), ([7], [7]), ([7], [7]), ([8, 9, 7], [7, 8, 9]), ([10, 7], [7, 10]), ([11, 7], [7, 11]), ([12, 7, 7], [7, 12]), ([13, 7], [7, 13]), ([7, 14], [7, 14]), ([15, 13], [15]), ([16], [16]), ([16], [16]), ([17, 18, 16], [16, 17, 18]), ([19, 16], [16, 19]), ([20, 16], [16, 20]), ([21, 16, 16], [16, 21]), ([22, 16], [16, 22]), ([16, 23], [16, 23]), ([24, 22], [24]), ([25], [25]), ([25], [25]), ([26, 27, 25], [25, 26, 27]), ([28, 25], [25, 28]), ([29, 25], [25, 29]), ([30, 25, 25], [25, 30]), ([31, 25], [25, 31]), ([25, 32], [25, 32]), ([33, 31], [33]), ([34], [34]), ([35, 34], [34, 35]), ([36, 34, 34], [34, 36]), ([37], [37]), ([37], [37]), ([39, 37], [37, 39]), ([38, 40, 37], [37, 38, 40]), ([41, 37], [37, 41]), ([42, 37], [37, 42]), ([37], [37]), ([37], [37]), ([44, 45, 37], [37, 44, 45]), ([46, 37], [37, 46]), ([47, 37], [37, 47]), ([43, 48, 37], [37, 43, 48]), ([37, 49, 34], [34, 37, 49]), ([34, 50], [34, 50])])
def lecternref14_May.B6 : List Nat := [0, 0, 3, 7, 15, 31, 63, 127, 255, 255, 1023, 2047, 4095, 8191, 16383, 32767, 65535, 131071, 131071, 524287, 1048575, 2097151, 4194303, 8388607, 16777215, 33554431, 67108863, 67108863, 268435455, 536870911, 1073741823, 2147483647, 4294967295, 8589934591, 17179869183, 34359738367, 68719476735, 137438953471, 274877906943, 274877906943, 824633720831, 2199023255551, 4398046511103, 8796093022207, 274877906943, 274877906943, 53051436040191, 123420180217855, 264157668573183, 562949953421311, 1125899906842623, 2251799813685247]
theorem lecternref14_May.tab6 : rtab .any (opsOf Try.f14 6) = lecternref14_May.T6 := by kernel_rfl
theorem lecternref14_May.bits6 : waitsOk lecternref14_May.T6.2 lecternref14_May.B6 = true := by kernel_rfl
set_option maxHeartbeats 8000000 in
set_option maxRecDepth 100000 in
theorem lecternref14_May.calls (k : Nat) (A0 : Option Addr) (c0 : Nat) (l0 : List (S88)) (r : Bool) (w : World) (hr0 : Kd.C k88 w A0 l0.length l0) (hc0 : l0.length ≤ c0) (h : lecternref14_May.f k l0 = some r) :
  Calls Try.prog 14 #[.slice A0 l0.length c0] w fun e w' => e = .returned (.bool r) ∧ Below w.heap.size w w' := by
 have hu31 := Try.underlying31
 have HR0 := Aside0.mk hr0
 have HC0 := Aside0.mk hc0
 clear hr0 hc0
 have HB := Aside0.mk (Below.refl w.heap.size w)
 have H : (if (l0.length : Int) > 8 then (some false) else (lecternref14_May.l0 k l0 0)) = some r := h
 clear h
 by_cases c2 : (l0.length : Int) > 8
 ·rw [if_pos c2] at H
  have c2b0 : decide (8 < (l0.length : Int)) = true := decide_eq_true c2
  have c2b1 : decide (8 < l0.length) = true := decide_eq_true (by omega)
  clear c2
  obtain rfl := Option.some.inj H
  go_enter Try.func14, Try.ntmps14
  go_wp2
  go_ret
  exact ⟨by first | rfl | (simp [errW_none, errW_some] <;> rfl) | (simp [*, errW_none, errW_some] <;> rfl), by repeat (first | (with_reducible first | exact HB.out | apply below_alloc | apply pw_below_drewN | apply below_drew1) | exact HB.out)⟩
 ·rw [if_neg c2] at H
  have c2b0 : decide (8 < (l0.length : Int)) = false := decide_eq_false c2
  have c2b1 : decide (8 < l0.length) = false := decide_eq_false (by omega)
  clear c2
  have H' := Aside0.mk H
  clear H
  go_enter Try.func14, Try.ntmps14
  go_wp2
  go_loopg [3] k (fun kq v3 w' => ∃ (x3_1 : Int), v3 = .int .i64 x3_1 ∧ Aside0 (lecternref14_May.l0 kq l0 x3_1 = some r) ∧ Aside0 (kq ≤ k) ∧ Aside0 (Below w.heap.size w w'))
  case atStart => exact ⟨(0), (by first | rfl | (simp; done) | (simp [*]; done)), H', ⟨Nat.le_refl _⟩, ⟨by repeat (first | (with_reducible first | exact HB.out | apply below_alloc | apply pw_below_drewN | apply below_drew1) | exact HB.out)⟩⟩
  case round =>
   clear H'
   try clear c1
   try clear c2
   try clear c2b0
   try clear c2b1
   try clear p2
   obtain ⟨x3_1, rfl, HA, HK1, HB⟩ := hrel
   cases gk with
   | zero => exact absurd HA.out (by simp [lecternref14_May.l0])
   | succ k1 =>
    have H := HA.out
    clear HA
    simp only [lecternref14_May.l0] at H
    by_cases c3 : x3_1 < (l0.length : Int)
    ·rw [if_pos c3] at H
     have c3b0 : decide (x3_1 < (l0.length : Int)) = true := decide_eq_true c3
     clear c3
     have HC4 := Aside0.mk H
     clear H
     go_upto_region 6 with (fail)
     go_cut [64] (fun v64 wc => ∃ (kq : Nat) (x64_3 : Bool), v64 = .bool x64_3 ∧ Aside0 (lecternref14_May.j1 kq l0 x3_1 x64_3 = some r) ∧ Aside0 (kq ≤ k1) ∧ Aside0 (Below w.heap.size w wc))
     case first =>
      have H := HC4.out
      clear HC4
      by_cases c5 : 0 ≤ x3_1
      ·rw [if_pos c5] at H
       have c5b0 : decide (0 ≤ x3_1) = true := decide_eq_true c5
       clear c5
       (first | rw [c5b0] | (simp only [i64_w, i32_w]; rw [c5b0]) | skip)
       replace H := Option.bind_eq_some_iff.mp H
       obtain ⟨t107, A60, H⟩ := H
       replace H : (if t107 = true then ((lecternref0_Num.f ((rd_T88 l0 x3_1).f1)).bind fun t109 => (if t109 = true then ((lecternref0_Num.f ((rd_T88 l0 x3_1).f3)).bind fun t111 => (if t111 = true then ((lecternref14_MayReply.f ((rd_T88 l0 x3_1).f2.f0) ((rd_T88 l0 x3_1).f2.f1) ((rd_T88 l0 x3_1).f2.f2)).bind fun t113 => (if t113 = true then (if x3_1 > 0 then (if 0 ≤ (wrap64 (x3_1 - 1)) then (if (wrap64 (x3_1 - 1)) < (l0.length : Int) then (lecternref14_May.j1 k1 l0 x3_1 (decide (((rd_T88 l0 (wrap64 (x3_1 - 1))).f0) ≥ ((rd_T88 l0 x3_1).f0)))) else (none)) else (none)) else (lecternref14_May.j1 k1 l0 x3_1 false)) else (lecternref14_May.j1 k1 l0 x3_1 true))) else (lecternref14_May.j1 k1 l0 x3_1 true))) else (lecternref14_May.j1 k1 l0 x3_1 true))) else (lecternref14_May.j1 k1 l0 x3_1 true)) = some r := H
       have A6 := Aside0.mk A60
       clear A60
       by_cases c7 : t107 = true
       ·subst c7
        have H1 : ((lecternref0_Num.f ((rd_T88 l0 x3_1).f1)).bind fun t109 => (if t109 = true then ((lecternref0_Num.f ((rd_T88 l0 x3_1).f3)).bind fun t111 => (if t111 = true then ((lecternref14_MayReply.f ((rd_T88 l0 x3_1).f2.f0) ((rd_T88 l0 x3_1).f2.f1) ((rd_T88 l0 x3_1).f2.f2)).bind fun t113 => (if t113 = true then (if x3_1 > 0 then (if 0 ≤ (wrap64 (x3_1 - 1)) then (if (wrap64 (x3_1 - 1)) < (l0.length : Int) then (lecternref14_May.j1 k1 l0 x3_1 (decide (((rd_T88 l0 (wrap64 (x3_1 - 1))).f0) ≥ ((rd_T88 l0 x3_1).f0)))) else (none)) else (none)) else (lecternref14_May.j1 k1 l0 x3_1 false)) else (lecternref14_May.j1 k1 l0 x3_1 true))) else (lecternref14_May.j1 k1 l0 x3_1 true))) else (lecternref14_May.j1 k1 l0 x3_1 true))) = some r := by rw [if_pos rfl] at H; exact H
        clear H
        have H := H1
        clear H1
        replace H := Option.bind_eq_some_iff.mp H
        obtain ⟨t109, A80, H⟩ := H
        replace H : (if t109 = true then ((lecternref0_Num.f ((rd_T88 l0 x3_1).f3)).bind fun t111 => (if t111 = true then ((lecternref14_MayReply.f ((rd_T88 l0 x3_1).f2.f0) ((rd_T88 l0 x3_1).f2.f1) ((rd_T88 l0 x3_1).f2.f2)).bind fun t113 => (if t113 = true then (if x3_1 > 0 then (if 0 ≤ (wrap64 (x3_1 - 1)) then (if (wrap64 (x3_1 - 1)) < (l0.length : Int) then (lecternref14_May.j1 k1 l0 x3_1 (decide (((rd_T88 l0 (wrap64 (x3_1 - 1))).f0) ≥ ((rd_T88 l0 x3_1).f0)))) else (none)) else (none)) else (lecternref14_May.j1 k1 l0 x3_1 false)) else (lecternref14_May.j1 k1 l0 x3_1 true))) else (lecternref14_May.j1 k1 l0 x3_1 true))) else (lecternref14_May.j1 k1 l0 x3_1 true)) = some r := H
        have A8 := Aside0.mk A80
        clear A80
        by_cases c9 : t109 = true
        ·subst c9
         have H1 : ((lecternref0_Num.f ((rd_T88 l0 x3_1).f3)).bind fun t111 => (if t111 = true then ((lecternref14_MayReply.f ((rd_T88 l0 x3_1).f2.f0) ((rd_T88 l0 x3_1).f2.f1) ((rd_T88 l0 x3_1).f2.f2)).bind fun t113 => (if t113 = true then (if x3_1 > 0 then (if 0 ≤ (wrap64 (x3_1 - 1)) then (if (wrap64 (x3_1 - 1)) < (l0.length : Int) then (lecternref14_May.j1 k1 l0 x3_1 (decide (((rd_T88 l0 (wrap64 (x3_1 - 1))).f0) ≥ ((rd_T88 l0 x3_1).f0)))) else (none)) else (none)) else (lecternref14_May.j1 k1 l0 x3_1 false)) else (lecternref14_May.j1 k1 l0 x3_1 true))) else (lecternref14_May.j1 k1 l0 x3_1 true))) = some r := by rw [if_pos rfl] at H; exact H
         clear H
         have H := H1
         clear H1
         replace H := Option.bind_eq_some_iff.mp H
         obtain ⟨t111, A100, H⟩ := H
         replace H : (if t111 = true then ((lecternref14_MayReply.f ((rd_T88 l0 x3_1).f2.f0) ((rd_T88 l0 x3_1).f2.f1) ((rd_T88 l0 x3_1).f2.f2)).bind fun t113 => (if t113 = true then (if x3_1 > 0 then (if 0 ≤ (wrap64 (x3_1 - 1)) then (if (wrap64 (x3_1 - 1)) < (l0.length : Int) then (lecternref14_May.j1 k1 l0 x3_1 (decide (((rd_T88 l0 (wrap64 (x3_1 - 1))).f0) ≥ ((rd_T88 l0 x3_1).f0)))) else (none)) else (none)) else (lecternref14_May.j1 k1 l0 x3_1 false)) else (lecternref14_May.j1 k1 l0 x3_1 true))) else (lecternref14_May.j1 k1 l0 x3_1 true)) = some r := H
         have A10 := Aside0.mk A100
         clear A100
         by_cases c11 : t111 = true
         ·subst c11
          have H1 : ((lecternref14_MayReply.f ((rd_T88 l0 x3_1).f2.f0) ((rd_T88 l0 x3_1).f2.f1) ((rd_T88 l0 x3_1).f2.f2)).bind fun t113 => (if t113 = true then (if x3_1 > 0 then (if 0 ≤ (wrap64 (x3_1 - 1)) then (if (wrap64 (x3_1 - 1)) < (l0.length : Int) then (lecternref14_May.j1 k1 l0 x3_1 (decide (((rd_T88 l0 (wrap64 (x3_1 - 1))).f0) ≥ ((rd_T88 l0 x3_1).f0)))) else (none)) else (none)) else (lecternref14_May.j1 k1 l0 x3_1 false)) else (lecternref14_May.j1 k1 l0 x3_1 true))) = some r := by rw [if_pos rfl] at H; exact H
          clear H
          have H := H1
          clear H1
          replace H := Option.bind_eq_some_iff.mp H
          obtain ⟨t113, A120, H⟩ := H
          replace H : (if t113 = true then (if x3_1 > 0 then (if 0 ≤ (wrap64 (x3_1 - 1)) then (if (wrap64 (x3_1 - 1)) < (l0.length : Int) then (lecternref14_May.j1 k1 l0 x3_1 (decide (((rd_T88 l0 (wrap64 (x3_1 - 1))).f0) ≥ ((rd_T88 l0 x3_1).f0)))) else (none)) else (none)) else (lecternref14_May.j1 k1 l0 x3_1 false)) else (lecternref14_May.j1 k1 l0 x3_1 true)) = some r := H
          have A12 := Aside0.mk A120
          clear A120
          by_cases c13 : t113 = true
          ·subst c13
           have H1 : (if x3_1 > 0 then (if 0 ≤ (wrap64 (x3_1 - 1)) then (if (wrap64 (x3_1 - 1)) < (l0.length : Int) then (lecternref14_May.j1 k1 l0 x3_1 (decide (((rd_T88 l0 (wrap64 (x3_1 - 1))).f0) ≥ ((rd_T88 l0 x3_1).f0)))) else (none)) else (none)) else (lecternref14_May.j1 k1 l0 x3_1 false)) = some r := by rw [if_pos rfl] at H; exact H
           clear H
           have H := H1
           clear H1
           by_cases c14 : x3_1 > 0
           ·rw [if_pos c14] at H
            have c14b0 : decide (0 < x3_1) = true := decide_eq_true c14
            clear c14
            obtain ⟨ji15, hji15⟩ : ∃ j_ : Int, (wrap64 (x3_1 - 1)) = j_ := ⟨_, rfl⟩
            replace H : (if 0 ≤ (ji15) then (if (ji15) < (l0.length : Int) then (lecternref14_May.j1 k1 l0 x3_1 (decide (((rd_T88 l0 (ji15)).f0) ≥ ((rd_T88 l0 x3_1).f0)))) else (none)) else (none)) = some r := by first | (rw [hji15] at H; exact H) | (simp only [hji15] at H ⊢; exact H)
            (try rw [hji15] at A6)
            (try rw [hji15] at A8)
            (try rw [hji15] at A10)
            (try rw [hji15] at A12)
            have hji15w : (IntKind.i64.wrap (x3_1 - 1)) = ji15 := (i64_w _).trans hji15
            by_cases c16 : 0 ≤ (ji15)
            ·rw [if_pos c16] at H
             have c16b0 : decide (0 ≤ (ji15)) = true := decide_eq_true c16
             clear c16
             by_cases c17 : (ji15) < (l0.length : Int)
             ·rw [if_pos c17] at H
              have c17b0 : decide ((ji15) < (l0.length : Int)) = true := decide_eq_true c17
              clear c17
              have H' := Aside0.mk H
              clear H
              try go_wp2
              have n0_ := Aside0.mk (below_drew1 HB.out)
              clear HB
              have HB := n0_
              clear n0_
              have p106 : 0 ≤ (x3_1 : Int) := of_decide_eq_true (by assumption)
              have q106 : x3_1 < (l0.length : Int) := of_decide_eq_true (by assumption)
              obtain ⟨ad106, A106_4, c106_4, e106, hx106_0, hx106_1, hx106_2, hx106_3, hx106_4, hx106_5, hl106_4, hi106_4⟩ := at_T88 HR0.out x3_1 p106 q106
              have hw106_5 := hx106_5
              have hw106_4 := hx106_4
              have hw106_3 := hx106_3
              have hw106_2 := hx106_2
              have hw106_1 := hx106_1
              have hw106_0 := hx106_0
              cases e106
              replace hx106_0 := cb_ HB hx106_0
              replace hx106_1 := cb_ HB hx106_1
              replace hx106_2 := cb_ HB hx106_2
              replace hx106_3 := cb_ HB hx106_3
              replace hx106_4 := cb_ HB hx106_4
              replace hx106_5 := cb_ HB hx106_5
              have HR106_4 := Aside0.mk hi106_4
              have HC106_4 := Aside0.mk hl106_4
              clear hi106_4 hl106_4
              replace p106 := eq_true p106
              replace q106 := eq_true q106
              have p108 : 0 ≤ (x3_1 : Int) := of_decide_eq_true (by assumption)
              have q108 : x3_1 < (l0.length : Int) := of_decide_eq_true (by assumption)
              obtain ⟨ad108, A108_4, c108_4, e108, hx108_0, hx108_1, hx108_2, hx108_3, hx108_4, hx108_5, hl108_4, hi108_4⟩ := at_T88 HR0.out x3_1 p108 q108
              have hw108_5 := hx108_5
              have hw108_4 := hx108_4
              have hw108_3 := hx108_3
              have hw108_2 := hx108_2
              have hw108_1 := hx108_1
              have hw108_0 := hx108_0
              obtain rfl : ad106 = ad108 := (by injection e108)
              replace hx108_0 := cb_ HB hx108_0
              replace hx108_1 := cb_ HB hx108_1
              replace hx108_2 := cb_ HB hx108_2
              replace hx108_3 := cb_ HB hx108_3
              replace hx108_4 := cb_ HB hx108_4
              replace hx108_5 := cb_ HB hx108_5
              have HR108_4 := Aside0.mk hi108_4
              have HC108_4 := Aside0.mk hl108_4
              clear hi108_4 hl108_4
              replace p108 := eq_true p108
              replace q108 := eq_true q108
              have ea_ := Option.some.inj (hx106_4.symm.trans hx108_4)
              injection ea_ with ea_ en_ ec_
              subst ea_
              subst ec_
              clear en_
              have p110 : 0 ≤ (x3_1 : Int) := of_decide_eq_true (by assumption)
              have q110 : x3_1 < (l0.length : Int) := of_decide_eq_true (by assumption)
              obtain ⟨ad110, A110_4, c110_4, e110, hx110_0, hx110_1, hx110_2, hx110_3, hx110_4, hx110_5, hl110_4, hi110_4⟩ := at_T88 HR0.out x3_1 p110 q110
              have hw110_5 := hx110_5
              have hw110_4 := hx110_4
              have hw110_3 := hx110_3
              have hw110_2 := hx110_2
              have hw110_1 := hx110_1
              have hw110_0 := hx110_0
              obtain rfl : ad106 = ad110 := (by injection e110)
              replace hx110_0 := cb_ HB hx110_0
              replace hx110_1 := cb_ HB hx110_1
              replace hx110_2 := cb_ HB hx110_2
              replace hx110_3 := cb_ HB hx110_3
              replace hx110_4 := cb_ HB hx110_4
              replace hx110_5 := cb_ HB hx110_5
              have HR110_4 := Aside0.mk hi110_4
              have HC110_4 := Aside0.mk hl110_4
              clear hi110_4 hl110_4
              replace p110 := eq_true p110
              replace q110 := eq_true q110
              have ea_ := Option.some.inj (hx106_4.symm.trans hx110_4)
              injection ea_ with ea_ en_ ec_
              subst ea_
              subst ec_
              clear en_
              have p112 : 0 ≤ (x3_1 : Int) := of_decide_eq_true (by assumption)
              have q112 : x3_1 < (l0.length : Int) := of_decide_eq_true (by assumption)
              obtain ⟨ad112, A112_4, c112_4, e112, hx112_0, hx112_1, hx112_2, hx112_3, hx112_4, hx112_5, hl112_4, hi112_4⟩ := at_T88 HR0.out x3_1 p112 q112
              have hw112_5 := hx112_5
              have hw112_4 := hx112_4
              have hw112_3 := hx112_3
              have hw112_2 := hx112_2
              have hw112_1 := hx112_1
              have hw112_0 := hx112_0
              obtain rfl : ad106 = ad112 := (by injection e112)
              replace hx112_0 := cb_ HB hx112_0
              replace hx112_1 := cb_ HB hx112_1
              replace hx112_2 := cb_ HB hx112_2
              replace hx112_3 := cb_ HB hx112_3
              replace hx112_4 := cb_ HB hx112_4
              replace hx112_5 := cb_ HB hx112_5
              have HR112_4 := Aside0.mk hi112_4
              have HC112_4 := Aside0.mk hl112_4
              clear hi112_4 hl112_4
              replace p112 := eq_true p112
              replace q112 := eq_true q112
              have ea_ := Option.some.inj (hx106_4.symm.trans hx112_4)
              injection ea_ with ea_ en_ ec_
              subst ea_
              subst ec_
              clear en_
              have p114 : 0 ≤ ((ji15) : Int) := of_decide_eq_true (by assumption)
              have q114 : (ji15) < (l0.length : Int) := of_decide_eq_true (by assumption)
              obtain ⟨ad114, A114_4, c114_4, e114, hx114_0, hx114_1, hx114_2, hx114_3, hx114_4, hx114_5, hl114_4, hi114_4⟩ := at_T88 HR0.out (ji15) p114 q114
              have hw114_5 := hx114_5
              have hw114_4 := hx114_4
              have hw114_3 := hx114_3
              have hw114_2 := hx114_2
              have hw114_1 := hx114_1
              have hw114_0 := hx114_0
              obtain rfl : ad106 = ad114 := (by injection e114)
              replace hx114_0 := cb_ HB hx114_0
              replace hx114_1 := cb_ HB hx114_1
              replace hx114_2 := cb_ HB hx114_2
              replace hx114_3 := cb_ HB hx114_3
              replace hx114_4 := cb_ HB hx114_4
              replace hx114_5 := cb_ HB hx114_5
              have HR114_4 := Aside0.mk hi114_4
              have HC114_4 := Aside0.mk hl114_4
              clear hi114_4 hl114_4
              replace p114 := eq_true p114
              replace q114 := eq_true q114
              have p115 : 0 ≤ (x3_1 : Int) := of_decide_eq_true (by assumption)
              have q115 : x3_1 < (l0.length : Int) := of_decide_eq_true (by assumption)
              obtain ⟨ad115, A115_4, c115_4, e115, hx115_0, hx115_1, hx115_2, hx115_3, hx115_4, hx115_5, hl115_4, hi115_4⟩ := at_T88 HR0.out x3_1 p115 q115
              have hw115_5 := hx115_5
              have hw115_4 := hx115_4
              have hw115_3 := hx115_3
              have hw115_2 := hx115_2
              have hw115_1 := hx115_1
              have hw115_0 := hx115_0
              obtain rfl : ad106 = ad115 := (by injection e115)
              replace hx115_0 := cb_ HB hx115_0
              replace hx115_1 := cb_ HB hx115_1
              replace hx115_2 := cb_ HB hx115_2
              replace hx115_3 := cb_ HB hx115_3
              replace hx115_4 := cb_ HB hx115_4
              replace hx115_5 := cb_ HB hx115_5
              have HR115_4 := Aside0.mk hi115_4
              have HC115_4 := Aside0.mk hl115_4
              clear hi115_4 hl115_4
              replace p115 := eq_true p115
              replace q115 := eq_true q115
              refine start_ (n := 52) (S := fun w' => w'.cell? (ad106.add ((x3_1).toNat * 6)) = some (.int .i64 ((rd_T88 l0 x3_1).f0)) ∧ w'.cell? ⟨(ad106.add ((x3_1).toNat * 6)).block, (ad106.add ((x3_1).toNat * 6)).off + 1, none⟩ = some (.int .i64 ((rd_T88 l0 x3_1).f1)) ∧ w'.cell? ⟨(ad106.add ((x3_1).toNat * 6)).block, (ad106.add ((x3_1).toNat * 6)).off + 2, none⟩ = some (.int .i64 ((rd_T88 l0 x3_1).f2.f0)) ∧ w'.cell? ⟨(ad106.add ((x3_1).toNat * 6)).block, (ad106.add ((x3_1).toNat * 6)).off + 3, none⟩ = some (.int .i64 ((rd_T88 l0 x3_1).f2.f1)) ∧ w'.cell? ⟨(ad106.add ((x3_1).toNat * 6)).block, (ad106.add ((x3_1).toNat * 6)).off + 4, none⟩ = some (.slice A106_4 ((rd_T88 l0 x3_1).f2.f2).length c106_4) ∧ w'.cell? ⟨(ad106.add ((x3_1).toNat * 6)).block, (ad106.add ((x3_1).toNat * 6)).off + 5, none⟩ = some (.int .i64 ((rd_T88 l0 x3_1).f3)) ∧ w'.cell? (ad106.add ((x3_1).toNat * 6)) = some (.int .i64 ((rd_T88 l0 x3_1).f0)) ∧ w'.cell? ⟨(ad106.add ((x3_1).toNat * 6)).block, (ad106.add ((x3_1).toNat * 6)).off + 1, none⟩ = some (.int .i64 ((rd_T88 l0 x3_1).f1)) ∧ w'.cell? ⟨(ad106.add ((x3_1).toNat * 6)).block, (ad106.add ((x3_1).toNat * 6)).off + 2, none⟩ = some (.int .i64 ((rd_T88 l0 x3_1).f2.f0)) ∧ w'.cell? ⟨(ad106.add ((x3_1).toNat * 6)).block, (ad106.add ((x3_1).toNat * 6)).off + 3, none⟩ = some (.int .i64 ((rd_T88 l0 x3_1).f2.f1)) ∧ w'.cell? ⟨(ad106.add ((x3_1).toNat * 6)).block, (ad106.add ((x3_1).toNat * 6)).off + 4, none⟩ = some (.slice A106_4 ((rd_T88 l0 x3_1).f2.f2).length c106_4) ∧ w'.cell? ⟨(ad106.add ((x3_1).toNat * 6)).block, (ad106.add ((x3_1).toNat * 6)).off + 5, none⟩ = some (.int .i64 ((rd_T88 l0 x3_1).f3)) ∧ w'.cell? (ad106.add ((x3_1).toNat * 6)) = some (.int .i64 ((rd_T88 l0 x3_1).f0)) ∧ w'.cell? ⟨(ad106.add ((x3_1).toNat * 6)).block, (ad106.add ((x3_1).toNat * 6)).off + 1, none⟩ = some (.int .i64 ((rd_T88 l0 x3_1).f1)) ∧ w'.cell? ⟨(ad106.add ((x3_1).toNat * 6)).block, (ad106.add ((x3_1).toNat * 6)).off + 2, none⟩ = some (.int .i64 ((rd_T88 l0 x3_1).f2.f0)) ∧ w'.cell? ⟨(ad106.add ((x3_1).toNat * 6)).block, (ad106.add ((x3_1).toNat * 6)).off + 3, none⟩ = some (.int .i64 ((rd_T88 l0 x3_1).f2.f1)) ∧ w'.cell? ⟨(ad106.add ((x3_1).toNat * 6)).block, (ad106.add ((x3_1).toNat * 6)).off + 4, none⟩ = some (.slice A106_4 ((rd_T88 l0 x3_1).f2.f2).length c106_4) ∧ w'.cell? ⟨(ad106.add ((x3_1).toNat * 6)).block, (ad106.add ((x3_1).toNat * 6)).off + 5, none⟩ = some (.int .i64 ((rd_T88 l0 x3_1).f3)) ∧ w'.cell? (ad106.add ((x3_1).toNat * 6)) = some (.int .i64 ((rd_T88 l0 x3_1).f0)) ∧ w'.cell? ⟨(ad106.add ((x3_1).toNat * 6)).block, (ad106.add ((x3_1).toNat * 6)).off + 1, none⟩ = some (.int .i64 ((rd_T88 l0 x3_1).f1)) ∧ w'.cell? ⟨(ad106.add ((x3_1).toNat * 6)).block, (ad106.add ((x3_1).toNat * 6)).off + 2, none⟩ = some (.int .i64 ((rd_T88 l0 x3_1).f2.f0)) ∧ w'.cell? ⟨(ad106.add ((x3_1).toNat * 6)).block, (ad106.add ((x3_1).toNat * 6)).off + 3, none⟩ = some (.int .i64 ((rd_T88 l0 x3_1).f2.f1)) ∧ w'.cell? ⟨(ad106.add ((x3_1).toNat * 6)).block, (ad106.add ((x3_1).toNat * 6)).off + 4, none⟩ = some (.slice A106_4 ((rd_T88 l0 x3_1).f2.f2).length c106_4) ∧ w'.cell? ⟨(ad106.add ((x3_1).toNat * 6)).block, (ad106.add ((x3_1).toNat * 6)).off + 5, none⟩ = some (.int .i64 ((rd_T88 l0 x3_1).f3)) ∧ w'.cell? (ad106.add (((ji15)).toNat * 6)) = some (.int .i64 ((rd_T88 l0 (ji15)).f0)) ∧ w'.cell? ⟨(ad106.add (((ji15)).toNat * 6)).block, (ad106.add (((ji15)).toNat * 6)).off + 1, none⟩ = some (.int .i64 ((rd_T88 l0 (ji15)).f1)) ∧ w'.cell? ⟨(ad106.add (((ji15)).toNat * 6)).block, (ad106.add (((ji15)).toNat * 6)).off + 2, none⟩ = some (.int .i64 ((rd_T88 l0 (ji15)).f2.f0)) ∧ w'.cell? ⟨(ad106.add (((ji15)).toNat * 6)).block, (ad106.add (((ji15)).toNat * 6)).off + 3, none⟩ = some (.int .i64 ((rd_T88 l0 (ji15)).f2.f1)) ∧ w'.cell? ⟨(ad106.add (((ji15)).toNat * 6)).block, (ad106.add (((ji15)).toNat * 6)).off + 4, none⟩ = some (.slice A114_4 ((rd_T88 l0 (ji15)).f2.f2).length c114_4) ∧ w'.cell? ⟨(ad106.add (((ji15)).toNat * 6)).block, (ad106.add (((ji15)).toNat * 6)).off + 5, none⟩ = some (.int .i64 ((rd_T88 l0 (ji15)).f3)) ∧ w'.cell? (ad106.add ((x3_1).toNat * 6)) = some (.int .i64 ((rd_T88 l0 x3_1).f0)) ∧ w'.cell? ⟨(ad106.add ((x3_1).toNat * 6)).block, (ad106.add ((x3_1).toNat * 6)).off + 1, none⟩ = some (.int .i64 ((rd_T88 l0 x3_1).f1)) ∧ w'.cell? ⟨(ad106.add ((x3_1).toNat * 6)).block, (ad106.add ((x3_1).toNat * 6)).off + 2, none⟩ = some (.int .i64 ((rd_T88 l0 x3_1).f2.f0)) ∧ w'.cell? ⟨(ad106.add ((x3_1).toNat * 6)).block, (ad106.add ((x3_1).toNat * 6)).off + 3, none⟩ = some (.int .i64 ((rd_T88 l0 x3_1).f2.f1)) ∧ w'.cell? ⟨(ad106.add ((x3_1).toNat * 6)).block, (ad106.add ((x3_1).toNat * 6)).off + 4, none⟩ = some (.slice A115_4 ((rd_T88 l0 x3_1).f2.f2).length c115_4) ∧ w'.cell? ⟨(ad106.add ((x3_1).toNat * 6)).block, (ad106.add ((x3_1).toNat * 6)).off + 5, none⟩ = some (.int .i64 ((rd_T88 l0 x3_1).f3))) (ds := []) fz6_0 (by kernel_rfl) rfl rfl ⟨(cb_ HB hw106_0 :), (cb_ HB hw106_1 :), (cb_ HB hw106_2 :), (cb_ HB hw106_3 :), (cb_ HB hw106_4 :), (cb_ HB hw106_5 :), (cb_ HB hw108_0 :), (cb_ HB hw108_1 :), (cb_ HB hw108_2 :), (cb_ HB hw108_3 :), (cb_ HB hw108_4 :), (cb_ HB hw108_5 :), (cb_ HB hw110_0 :), (cb_ HB hw110_1 :), (cb_ HB hw110_2 :), (cb_ HB hw110_3 :), (cb_ HB hw110_4 :), (cb_ HB hw110_5 :), (cb_ HB hw112_0 :), (cb_ HB hw112_1 :), (cb_ HB hw112_2 :), (cb_ HB hw112_3 :), (cb_ HB hw112_4 :), (cb_ HB hw112_5 :), (cb_ HB hw114_0 :), (cb_ HB hw114_1 :), (cb_ HB hw114_2 :), (cb_ HB hw114_3 :), (cb_ HB hw114_4 :), (cb_ HB hw114_5 :), (cb_ HB hw115_0 :), (cb_ HB hw115_1 :), (cb_ HB hw115_2 :), (cb_ HB hw115_3 :), (cb_ HB hw115_4 :), (cb_ HB hw115_5 :)⟩ (fun hHeld => ?_); refine with_tabW lecternref14_May.tab6 lecternref14_May.bits6 (fun HT_ HW_ => ?_)
              generalize wr.drew = w18 at HB HR106_4 HR108_4 HR110_4 HR112_4 HR114_4 HR115_4 hx106_0 hx106_1 hx106_2 hx106_3 hx106_4 hx106_5 hx108_0 hx108_1 hx108_2 hx108_3 hx108_4 hx108_5 hx110_0 hx110_1 hx110_2 hx110_3 hx110_4 hx110_5 hx112_0 hx112_1 hx112_2 hx112_3 hx112_4 hx112_5 hx114_0 hx114_1 hx114_2 hx114_3 hx114_4 hx114_5 hx115_0 hx115_1 hx115_2 hx115_3 hx115_4 hx115_5 hHeld ⊢
              refine pure_ (i := 0) (N := some 13) (v := ?_) (a' := ?_) fz6_1 rfl rfl (any_of HT_.out (by kernel_rfl)) (fun _ _ _ h => h) (Or.inl ⟨by rfl, ?_⟩) ?_ ?_
              rotate_left
              ·intro w'
               go_simp
               with_reducible rfl
              rotate_left
              ·simp only [Act.put, sA, sB, sC, i64_w, i32_w]
               rfl
              refine pure_ (i := 1) (N := some 14) (v := ?_) (a' := ?_) fz6_2 rfl rfl (any_of HT_.out (by kernel_rfl)) (fun _ _ _ h => h) (Or.inl ⟨by rfl, ?_⟩) ?_ ?_
              rotate_left
              ·intro w'
               go_simp
               with_reducible rfl
              rotate_left
              ·simp only [Act.put, sA, sB, sC, i64_w, i32_w]
               rfl
              refine pure_ (i := 2) (N := some 15) (v := ?_) (a' := ?_) fz6_3 rfl rfl (any_of HT_.out (by kernel_rfl)) (fun _ _ _ h => h) (Or.inl ⟨by rfl, ?_⟩) ?_ ?_
              rotate_left
              ·intro w'
               go_simp
               with_reducible rfl
              rotate_left
              ·simp only [Act.put, sA, sB, sC, i64_w, i32_w]
               rfl
              refine pure_ (i := 3) (N := some 16) (v := ?_) (a' := ?_) fz6_4 rfl rfl (any_of HT_.out (by kernel_rfl)) (fun _ _ _ h => h) (Or.inl ⟨by rfl, ?_⟩) ?_ ?_
              rotate_left
              ·intro w'
               go_simp
               with_reducible rfl
              rotate_left
              ·simp only [Act.put, sA, sB, sC, i64_w, i32_w]
               rfl
              refine take_ (i := 4) (N := some 17) (v := ?_) (a' := ?_) fz6_5 rfl rfl (take_ofW HT_.out HW_.out (by kernel_rfl)) (fun _ _ _ h => h) (Or.inl ⟨by rfl, ?_⟩) hHeld ?_ ?_
              rotate_left
              ·rintro w' ⟨s0, s1, s2, s3, s4, s5, s6, s7, s8, s9, s10, s11, s12, s13, s14, s15, s16, s17, s18, s19, s20, s21, s22, s23, s24, s25, s26, s27, s28, s29, s30, s31, s32, s33, s34, s35⟩
               go_simp
               with_reducible rfl
              rotate_left
              ·simp only [Act.put, sA, sB, sC, i64_w, i32_w]
               rfl
              refine one_ (i := 5) (N := some 18) fz6_6 rfl rfl (one_of HT_.out (by kernel_rfl)) (by decide) (fun K hK => ?_)
              refine goes_ Try.func54 (by kernel_rfl) rfl #[.int .i64 ((rd_T88 l0 x3_1).f0)] (by rfl) rfl rfl (by (try simp only [List.map_toArray, List.map_cons, List.map_nil]); first | done | rfl | (simp only [List.length_drop, List.length_take]; rfl)) ?_
              with_reducible refine (lecternref14_id.calls ((rd_T88 l0 x3_1).f0) true _ A6.out).mono ?_
              rintro e w' ⟨rfl, ⟨nd, rfl⟩⟩
              refine ⟨_, rfl, ?_⟩
              refine hK.out _ _ ⟨(cb_ HB hw106_0 :), (cb_ HB hw106_1 :), (cb_ HB hw106_2 :), (cb_ HB hw106_3 :), (cb_ HB hw106_4 :), (cb_ HB hw106_5 :), (cb_ HB hw108_0 :), (cb_ HB hw108_1 :), (cb_ HB hw108_2 :), (cb_ HB hw108_3 :), (cb_ HB hw108_4 :), (cb_ HB hw108_5 :), (cb_ HB hw110_0 :), (cb_ HB hw110_1 :), (cb_ HB hw110_2 :), (cb_ HB hw110_3 :), (cb_ HB hw110_4 :), (cb_ HB hw110_5 :), (cb_ HB hw112_0 :), (cb_ HB hw112_1 :), (cb_ HB hw112_2 :), (cb_ HB hw112_3 :), (cb_ HB hw112_4 :), (cb_ HB hw112_5 :), (cb_ HB hw114_0 :), (cb_ HB hw114_1 :), (cb_ HB hw114_2 :), (cb_ HB hw114_3 :), (cb_ HB hw114_4 :), (cb_ HB hw114_5 :), (cb_ HB hw115_0 :), (cb_ HB hw115_1 :), (cb_ HB hw115_2 :), (cb_ HB hw115_3 :), (cb_ HB hw115_4 :), (cb_ HB hw115_5 :)⟩ (fun hHeld => ?_)
              clear hK K
              refine norm_ (a' := ?_) ?_ ?_
              rotate_left
              ·show Act.put _ (some 18) _ = _
               simp only [Act.put, sA, sB, sC, i64_w, i32_w]
               rfl
              refine pure_ (i := 6) (N := some 19) (v := ?_) (a' := ?_) fz6_7 rfl rfl (any_of HT_.out (by kernel_rfl)) (fun _ _ _ h => h) (Or.inl ⟨by rfl, ?_⟩) ?_ ?_
              rotate_left
              ·intro w'
               go_simp
               with_reducible rfl
              rotate_left
              ·simp only [Act.put, sA, sB, sC, i64_w, i32_w]
               rfl
              refine pure_ (i := 7) (N := some 20) (v := ?_) (a' := ?_) fz6_8 rfl rfl (any_of HT_.out (by kernel_rfl)) (fun _ _ _ h => h) (Or.inl ⟨by rfl, ?_⟩) ?_ ?_
              rotate_left
              ·intro w'
               go_simp
               with_reducible rfl
              rotate_left
              ·simp only [Act.put, sA, sB, sC, i64_w, i32_w]
               rfl
              refine pure_ (i := 8) (N := some 21) (v := ?_) (a' := ?_) fz6_9 rfl rfl (any_of HT_.out (by kernel_rfl)) (fun _ _ _ h => h) (Or.inl ⟨by rfl, ?_⟩) ?_ ?_
              rotate_left
              ·intro w'
               go_simp
               with_reducible rfl
              rotate_left
              ·simp only [Act.put, sA, sB, sC, i64_w, i32_w]
               rfl
              refine pure_ (i := 9) (N := some 22) (v := ?_) (a' := ?_) fz6_10 rfl rfl (any_of HT_.out (by kernel_rfl)) (fun _ _ _ h => h) (Or.inl ⟨by rfl, ?_⟩) ?_ ?_
              rotate_left
              ·intro w'
               go_simp
               with_reducible rfl
              rotate_left
              ·simp only [Act.put, sA, sB, sC, i64_w, i32_w]
               rfl
              refine pure_ (i := 10) (N := some 23) (v := ?_) (a' := ?_) fz6_11 rfl rfl (any_of HT_.out (by kernel_rfl)) (fun _ _ _ h => h) (Or.inl ⟨by rfl, ?_⟩) ?_ ?_
              rotate_left
              ·intro w'
               go_simp
               with_reducible rfl
              rotate_left
              ·simp only [Act.put, sA, sB, sC, i64_w, i32_w]
               rfl
              refine pure_ (i := 11) (N := some 24) (v := ?_) (a' := ?_) fz6_12 rfl rfl (any_of HT_.out (by kernel_rfl)) (fun _ _ _ h => h) (Or.inl ⟨by rfl, ?_⟩) ?_ ?_
              rotate_left
              ·intro w'
               go_simp
               with_reducible rfl
              rotate_left
              ·simp only [Act.put, sA, sB, sC, i64_w, i32_w]
               rfl
              refine take_ (i := 12) (N := some 25) (v := ?_) (a' := ?_) fz6_13 rfl rfl (take_ofW HT_.out HW_.out (by kernel_rfl)) (fun _ _ _ h => h) (Or.inl ⟨by rfl, ?_⟩) hHeld ?_ ?_
              rotate_left
              ·rintro w' ⟨s0, s1, s2, s3, s4, s5, s6, s7, s8, s9, s10, s11, s12, s13, s14, s15, s16, s17, s18, s19, s20, s21, s22, s23, s24, s25, s26, s27, s28, s29, s30, s31, s32, s33, s34, s35⟩
               go_simp
               with_reducible rfl
              rotate_left
              ·simp only [Act.put, sA, sB, sC, i64_w, i32_w]
               rfl
              refine one_ (i := 13) (N := some 26) fz6_14 rfl rfl (one_of HT_.out (by kernel_rfl)) (by decide) (fun K hK => ?_)
              refine goes_ Try.func55 (by kernel_rfl) rfl #[.int .i64 ((rd_T88 l0 x3_1).f1)] (by rfl) rfl rfl (by (try simp only [List.map_toArray, List.map_cons, List.map_nil]); first | done | rfl | (simp only [List.length_drop, List.length_take]; rfl)) ?_
              with_reducible refine (lecternref0_Num.calls ((rd_T88 l0 x3_1).f1) true _ A8.out).mono ?_
              rintro e w' ⟨rfl, ⟨nd, rfl⟩⟩
              refine ⟨_, rfl, ?_⟩
              refine hK.out _ _ ⟨(cb_ HB hw106_0 :), (cb_ HB hw106_1 :), (cb_ HB hw106_2 :), (cb_ HB hw106_3 :), (cb_ HB hw106_4 :), (cb_ HB hw106_5 :), (cb_ HB hw108_0 :), (cb_ HB hw108_1 :), (cb_ HB hw108_2 :), (cb_ HB hw108_3 :), (cb_ HB hw108_4 :), (cb_ HB hw108_5 :), (cb_ HB hw110_0 :), (cb_ HB hw110_1 :), (cb_ HB hw110_2 :), (cb_ HB hw110_3 :), (cb_ HB hw110_4 :), (cb_ HB hw110_5 :), (cb_ HB hw112_0 :), (cb_ HB hw112_1 :), (cb_ HB hw112_2 :), (cb_ HB hw112_3 :), (cb_ HB hw112_4 :), (cb_ HB hw112_5 :), (cb_ HB hw114_0 :), (cb_ HB hw114_1 :), (cb_ HB hw114_2 :), (cb_ HB hw114_3 :), (cb_ HB hw114_4 :), (cb_ HB hw114_5 :), (cb_ HB hw115_0 :), (cb_ HB hw115_1 :), (cb_ HB hw115_2 :), (cb_ HB hw115_3 :), (cb_ HB hw115_4 :), (cb_ HB hw115_5 :)⟩ (fun hHeld => ?_)
              clear hK K
              refine norm_ (a' := ?_) ?_ ?_
              rotate_left
              ·show Act.put _ (some 26) _ = _
               simp only [Act.put, sA, sB, sC, i64_w, i32_w]
               rfl
              refine pure_ (i := 14) (N := some 27) (v := ?_) (a' := ?_) fz6_15 rfl rfl (any_of HT_.out (by kernel_rfl)) (fun _ _ _ h => h) (Or.inl ⟨by rfl, ?_⟩) ?_ ?_
              rotate_left
              ·intro w'
               go_simp
               with_reducible rfl
              rotate_left
              ·simp only [Act.put, sA, sB, sC, i64_w, i32_w]
               rfl
              refine pure_ (i := 15) (N := some 28) (v := ?_) (a' := ?_) fz6_16 rfl rfl (any_of HT_.out (by kernel_rfl)) (fun _ _ _ h => h) (Or.inl ⟨by rfl, ?_⟩) ?_ ?_
              rotate_left
              ·intro w'
               go_simp
               with_reducible rfl
              rotate_left
              ·simp only [Act.put, sA, sB, sC, i64_w, i32_w]
               rfl
              refine pure_ (i := 16) (N := some 29) (v := ?_) (a' := ?_) fz6_17 rfl rfl (any_of HT_.out (by kernel_rfl)) (fun _ _ _ h => h) (Or.inl ⟨by rfl, ?_⟩) ?_ ?_
              rotate_left
              ·intro w'
               go_simp
               with_reducible rfl
              rotate_left
              ·simp only [Act.put, sA, sB, sC, i64_w, i32_w]
               rfl
              refine pure_ (i := 17) (N := some 30) (v := ?_) (a' := ?_) fz6_18 rfl rfl (any_of HT_.out (by kernel_rfl)) (fun _ _ _ h => h) (Or.inl ⟨by rfl, ?_⟩) ?_ ?_
              rotate_left
              ·intro w'
               go_simp
               with_reducible rfl
              rotate_left
              ·simp only [Act.put, sA, sB, sC, i64_w, i32_w]
               rfl
              refine pure_ (i := 18) (N := some 31) (v := ?_) (a' := ?_) fz6_19 rfl rfl (any_of HT_.out (by kernel_rfl)) (fun _ _ _ h => h) (Or.inl ⟨by rfl, ?_⟩) ?_ ?_
              rotate_left
              ·intro w'
               go_simp
               with_reducible rfl
              rotate_left
              ·simp only [Act.put, sA, sB, sC, i64_w, i32_w]
               rfl
              refine pure_ (i := 19) (N := some 32) (v := ?_) (a' := ?_) fz6_20 rfl rfl (any_of HT_.out (by kernel_rfl)) (fun _ _ _ h => h) (Or.inl ⟨by rfl, ?_⟩) ?_ ?_
              rotate_left
              ·intro w'
               go_simp
               with_reducible rfl
              rotate_left
              ·simp only [Act.put, sA, sB, sC, i64_w, i32_w]
               rfl
              refine pure_ (i := 20) (N := some 33) (v := ?_) (a' := ?_) fz6_21 rfl rfl (any_of HT_.out (by kernel_rfl)) (fun _ _ _ h => h) (Or.inl ⟨by rfl, ?_⟩) ?_ ?_
              rotate_left
              ·intro w'
               go_simp
               with_reducible rfl
              rotate_left
              ·simp only [Act.put, sA, sB, sC, i64_w, i32_w]
               rfl
              refine take_ (i := 21) (N := some 34) (v := ?_) (a' := ?_) fz6_22 rfl rfl (take_ofW HT_.out HW_.out (by kernel_rfl)) (fun _ _ _ h => h) (Or.inl ⟨by rfl, ?_⟩) hHeld ?_ ?_
              rotate_left
              ·rintro w' ⟨s0, s1, s2, s3, s4, s5, s6, s7, s8, s9, s10, s11, s12, s13, s14, s15, s16, s17, s18, s19, s20, s21, s22, s23, s24, s25, s26, s27, s28, s29, s30, s31, s32, s33, s34, s35⟩
               go_simp
               with_reducible rfl
              rotate_left
              ·simp only [Act.put, sA, sB, sC, i64_w, i32_w]
               rfl
              refine one_ (i := 22) (N := some 35) fz6_23 rfl rfl (one_of HT_.out (by kernel_rfl)) (by decide) (fun K hK => ?_)
              refine goes_ Try.func55 (by kernel_rfl) rfl #[.int .i64 ((rd_T88 l0 x3_1).f3)] (by rfl) rfl rfl (by (try simp only [List.map_toArray, List.map_cons, List.map_nil]); first | done | rfl | (simp only [List.length_drop, List.length_take]; rfl)) ?_
              with_reducible refine (lecternref0_Num.calls ((rd_T88 l0 x3_1).f3) true _ A10.out).mono ?_
              rintro e w' ⟨rfl, ⟨nd, rfl⟩⟩
              refine ⟨_, rfl, ?_⟩
              refine hK.out _ _ ⟨(cb_ HB hw106_0 :), (cb_ HB hw106_1 :), (cb_ HB hw106_2 :), (cb_ HB hw106_3 :), (cb_ HB hw106_4 :), (cb_ HB hw106_5 :), (cb_ HB hw108_0 :), (cb_ HB hw108_1 :), (cb_ HB hw108_2 :), (cb_ HB hw108_3 :), (cb_ HB hw108_4 :), (cb_ HB hw108_5 :), (cb_ HB hw110_0 :), (cb_ HB hw110_1 :), (cb_ HB hw110_2 :), (cb_ HB hw110_3 :), (cb_ HB hw110_4 :), (cb_ HB hw110_5 :), (cb_ HB hw112_0 :), (cb_ HB hw112_1 :), (cb_ HB hw112_2 :), (cb_ HB hw112_3 :), (cb_ HB hw112_4 :), (cb_ HB hw112_5 :), (cb_ HB hw114_0 :), (cb_ HB hw114_1 :), (cb_ HB hw114_2 :), (cb_ HB hw114_3 :), (cb_ HB hw114_4 :), (cb_ HB hw114_5 :), (cb_ HB hw115_0 :), (cb_ HB hw115_1 :), (cb_ HB hw115_2 :), (cb_ HB hw115_3 :), (cb_ HB hw115_4 :), (cb_ HB hw115_5 :)⟩ (fun hHeld => ?_)
              clear hK K
              refine norm_ (a' := ?_) ?_ ?_
              rotate_left
              ·show Act.put _ (some 35) _ = _
               simp only [Act.put, sA, sB, sC, i64_w, i32_w]
               rfl
              refine pure_ (i := 23) (N := some 36) (v := ?_) (a' := ?_) fz6_24 rfl rfl (any_of HT_.out (by kernel_rfl)) (fun _ _ _ h => h) (Or.inl ⟨by rfl, ?_⟩) ?_ ?_
              rotate_left
              ·intro w'
               go_simp
               with_reducible rfl
              rotate_left
              ·simp only [Act.put, sA, sB, sC, i64_w, i32_w]
               rfl
              refine pure_ (i := 24) (N := some 37) (v := ?_) (a' := ?_) fz6_25 rfl rfl (any_of HT_.out (by kernel_rfl)) (fun _ _ _ h => h) (Or.inl ⟨by rfl, ?_⟩) ?_ ?_
              rotate_left
              ·intro w'
               go_simp
               with_reducible rfl
              rotate_left
              ·simp only [Act.put, sA, sB, sC, i64_w, i32_w]
               rfl
              refine pure_ (i := 25) (N := some 38) (v := ?_) (a' := ?_) fz6_26 rfl rfl (any_of HT_.out (by kernel_rfl)) (fun _ _ _ h => h) (Or.inl ⟨by rfl, ?_⟩) ?_ ?_
              rotate_left
              ·intro w'
               go_simp
               with_reducible rfl
              rotate_left
              ·simp only [Act.put, sA, sB, sC, i64_w, i32_w]
               rfl
              refine pure_ (i := 26) (N := some 39) (v := ?_) (a' := ?_) fz6_27 rfl rfl (any_of HT_.out (by kernel_rfl)) (fun _ _ _ h => h) (Or.inl ⟨by rfl, ?_⟩) ?_ ?_
              rotate_left
              ·intro w'
               go_simp
               with_reducible rfl
              rotate_left
              ·simp only [Act.put, sA, sB, sC, i64_w, i32_w]
               rfl
              refine pure_ (i := 27) (N := some 40) (v := ?_) (a' := ?_) fz6_28 rfl rfl (any_of HT_.out (by kernel_rfl)) (fun _ _ _ h => h) (Or.inl ⟨by rfl, ?_⟩) ?_ ?_
              rotate_left
              ·intro w'
               go_simp
               with_reducible rfl
              rotate_left
              ·simp only [Act.put, sA, sB, sC, i64_w, i32_w]
               rfl
              refine pure_ (i := 28) (N := some 41) (v := ?_) (a' := ?_) fz6_29 rfl rfl (any_of HT_.out (by kernel_rfl)) (fun _ _ _ h => h) (Or.inl ⟨by rfl, ?_⟩) ?_ ?_
              rotate_left
              ·intro w'
               go_simp
               with_reducible rfl
              rotate_left
              ·simp only [Act.put, sA, sB, sC, i64_w, i32_w]
               rfl
              refine pure_ (i := 29) (N := some 42) (v := ?_) (a' := ?_) fz6_30 rfl rfl (any_of HT_.out (by kernel_rfl)) (fun _ _ _ h => h) (Or.inl ⟨by rfl, ?_⟩) ?_ ?_
              rotate_left
              ·intro w'
               go_simp
               with_reducible rfl
              rotate_left
              ·simp only [Act.put, sA, sB, sC, i64_w, i32_w]
               rfl
              refine take_ (i := 30) (N := some 43) (v := ?_) (a' := ?_) fz6_31 rfl rfl (take_ofW HT_.out HW_.out (by kernel_rfl)) (fun _ _ _ h => h) (Or.inl ⟨by rfl, ?_⟩) hHeld ?_ ?_
              rotate_left
              ·rintro w' ⟨s0, s1, s2, s3, s4, s5, s6, s7, s8, s9, s10, s11, s12, s13, s14, s15, s16, s17, s18, s19, s20, s21, s22, s23, s24, s25, s26, s27, s28, s29, s30, s31, s32, s33, s34, s35⟩
               go_simp
               with_reducible rfl
              rotate_left
              ·simp only [Act.put, sA, sB, sC, i64_w, i32_w]
               rfl
              refine one_ (i := 31) (N := some 44) fz6_32 rfl rfl (one_of HT_.out (by kernel_rfl)) (by decide) (fun K hK => ?_)
              refine goes_ Try.func56 (by kernel_rfl) rfl #[.agg #[.int .i64 ((rd_T88 l0 x3_1).f2.f0), .int .i64 ((rd_T88 l0 x3_1).f2.f1), .slice A106_4 ((rd_T88 l0 x3_1).f2.f2).length c106_4]] (by rfl) rfl rfl (by (try simp only [List.map_toArray, List.map_cons, List.map_nil]); first | done | rfl | (simp only [List.length_drop, List.length_take]; rfl)) ?_
              with_reducible refine (lecternref14_MayReply.calls ((rd_T88 l0 x3_1).f2.f0) ((rd_T88 l0 x3_1).f2.f1) _ _ ((rd_T88 l0 x3_1).f2.f2) true _ ?side1 ?side2 A12.out).mono ?_
              (case side1 => repeat (first | exact (Kd.C_below HR112_4.out (by repeat (first | (with_reducible first | exact HB.out | apply below_alloc | apply pw_below_drewN | apply below_drew1) | exact HB.out))) | (with_reducible refine Kd.C_alloc ?_ _) | (with_reducible refine Kd.C_drewN ?_ _) | (with_reducible refine Kd.C_drew ?_)))
              (case side2 => exact HC112_4.out)
              rintro e w19 ⟨rfl, hb⟩
              refine ⟨_, rfl, ?_⟩
              have n0_ := Aside0.mk (below_step (by repeat (first | (with_reducible first | exact HB.out | apply below_alloc | apply pw_below_drewN | apply below_drew1) | exact HB.out)) hb)
              clear HB
              have HB := n0_
              clear n0_
              (try clear hb)
              (try clear hb2)
              (try clear hk)
              (try clear hi)
              refine hK.out _ _ ⟨(cb_ HB hw106_0 :), (cb_ HB hw106_1 :), (cb_ HB hw106_2 :), (cb_ HB hw106_3 :), (cb_ HB hw106_4 :), (cb_ HB hw106_5 :), (cb_ HB hw108_0 :), (cb_ HB hw108_1 :), (cb_ HB hw108_2 :), (cb_ HB hw108_3 :), (cb_ HB hw108_4 :), (cb_ HB hw108_5 :), (cb_ HB hw110_0 :), (cb_ HB hw110_1 :), (cb_ HB hw110_2 :), (cb_ HB hw110_3 :), (cb_ HB hw110_4 :), (cb_ HB hw110_5 :), (cb_ HB hw112_0 :), (cb_ HB hw112_1 :), (cb_ HB hw112_2 :), (cb_ HB hw112_3 :), (cb_ HB hw112_4 :), (cb_ HB hw112_5 :), (cb_ HB hw114_0 :), (cb_ HB hw114_1 :), (cb_ HB hw114_2 :), (cb_ HB hw114_3 :), (cb_ HB hw114_4 :), (cb_ HB hw114_5 :), (cb_ HB hw115_0 :), (cb_ HB hw115_1 :), (cb_ HB hw115_2 :), (cb_ HB hw115_3 :), (cb_ HB hw115_4 :), (cb_ HB hw115_5 :)⟩ (fun hHeld => ?_)
              clear hK K
              refine norm_ (a' := ?_) ?_ ?_
              rotate_left
              ·show Act.put _ (some 44) _ = _
               simp only [Act.put, sA, sB, sC, i64_w, i32_w]
               rfl
              refine pure_ (i := 32) (N := some 45) (v := ?_) (a' := ?_) fz6_33 rfl rfl (any_of HT_.out (by kernel_rfl)) (fun _ _ _ h => h) (Or.inl ⟨by rfl, ?_⟩) ?_ ?_
              rotate_left
              ·intro w'
               go_simp
               with_reducible rfl
              rotate_left
              ·simp only [Act.put, sA, sB, sC, i64_w, i32_w]
               rfl
              refine pure_ (i := 33) (N := some 46) (v := ?_) (a' := ?_) fz6_34 rfl rfl (any_of HT_.out (by kernel_rfl)) (fun _ _ _ h => h) (Or.inl ⟨by rfl, ?_⟩) ?_ ?_
              rotate_left
              ·intro w'
               go_simp
               with_reducible rfl
              rotate_left
              ·simp only [Act.put, sA, sB, sC, i64_w, i32_w]
               rfl
              refine pure_ (i := 34) (N := some 47) (v := ?_) (a' := ?_) fz6_35 rfl rfl (any_of HT_.out (by kernel_rfl)) (fun _ _ _ h => h) (Or.inl ⟨by rfl, ?_⟩) ?_ ?_
              rotate_left
              ·intro w'
               go_simp
               with_reducible rfl
              rotate_left
              ·simp only [Act.put, sA, sB, sC, i64_w, i32_w]
               rfl
              refine pure_ (i := 35) (N := some 48) (v := ?_) (a' := ?_) fz6_36 rfl rfl (any_of HT_.out (by kernel_rfl)) (fun _ _ _ h => h) (Or.inl ⟨by rfl, ?_⟩) ?_ ?_
              rotate_left
              ·intro w'
               go_simp
               with_reducible rfl
              rotate_left
              ·simp only [Act.put, sA, sB, sC, i64_w, i32_w]
               rfl
              refine pure_ (i := 36) (N := some 49) (v := ?_) (a' := ?_) fz6_37 rfl rfl (any_of HT_.out (by kernel_rfl)) (fun _ _ _ h => h) (Or.inl ⟨by rfl, ?_⟩) ?_ ?_
              rotate_left
              ·intro w'
               go_simp
               with_reducible rfl
              rotate_left
              ·simp only [Act.put, sA, sB, sC, i64_w, i32_w]
               rfl
              refine pure_ (i := 37) (N := some 50) (v := ?_) (a' := ?_) fz6_38 rfl rfl (any_of HT_.out (by kernel_rfl)) (fun _ _ _ h => h) (Or.inl ⟨by rfl, ?_⟩) ?_ ?_
              rotate_left
              ·intro w'
               go_simp
               with_reducible rfl
              rotate_left
              ·simp only [Act.put, sA, sB, sC, i64_w, i32_w]
               rfl
              refine pure_ (i := 38) (N := some 51) (v := ?_) (a' := ?_) fz6_39 rfl rfl (any_of HT_.out (by kernel_rfl)) (fun _ _ _ h => h) (Or.inl ⟨by rfl, ?_⟩) ?_ ?_
              rotate_left
              ·intro w'
               go_simp
               with_reducible rfl
              rotate_left
              ·simp only [Act.put, sA, sB, sC, i64_w, i32_w]
               rfl
              refine pure_ (i := 39) (N := some 52) (v := ?_) (a' := ?_) fz6_40 rfl rfl (any_of HT_.out (by kernel_rfl)) (fun _ _ _ h => h) (Or.inl ⟨by rfl, ?_⟩) ?_ ?_
              rotate_left
              ·intro w'
               go_simp
               with_reducible rfl
              rotate_left
              ·simp only [Act.put, sA, sB, sC, i64_w, i32_w]
               rfl
              refine pure_ (i := 40) (N := some 53) (v := ?_) (a' := ?_) fz6_41 rfl rfl (any_of HT_.out (by kernel_rfl)) (fun _ _ _ h => h) (Or.inl ⟨by rfl, ?_⟩) ?_ ?_
              rotate_left
              ·intro w'
               go_simp
               with_reducible rfl
              rotate_left
              ·simp only [Act.put, sA, sB, sC, i64_w, i32_w]
               rfl
              refine pure_ (i := 41) (N := some 54) (v := ?_) (a' := ?_) fz6_42 rfl rfl (any_of HT_.out (by kernel_rfl)) (fun _ _ _ h => h) (Or.inl ⟨by rfl, ?_⟩) ?_ ?_
              rotate_left
              ·intro w'
               go_simp
               with_reducible rfl
              rotate_left
              ·simp only [Act.put, sA, sB, sC, i64_w, i32_w]
               rfl
              refine pure_ (i := 42) (N := some 55) (v := ?_) (a' := ?_) fz6_43 rfl rfl (any_of HT_.out (by kernel_rfl)) (fun _ _ _ h => h) (Or.inl ⟨by rfl, ?_⟩) ?_ ?_
              rotate_left
              ·intro w'
               go_simp
               with_reducible rfl
              rotate_left
              ·simp only [Act.put, sA, sB, sC, i64_w, i32_w]
               rfl
              refine pure_ (i := 44) (N := some 57) (v := ?_) (a' := ?_) #[true, true, true, true, true, true, true, true, true, true, true, true, true, true, true, true, true, true, true, true, true, true, true, true, true, true, true, true, true, true, true, true, true, true, true, true, true, true, true, true, true, true, true, false, true, false, false, false, false, false, false, false] rfl rfl (any_of HT_.out (by kernel_rfl)) (fun _ _ _ h => h) (Or.inl ⟨by rfl, ?_⟩) ?_ ?_
              rotate_left
              ·intro w'
               go_simp
               with_reducible rfl
              rotate_left
              ·simp only [Act.put, sA, sB, sC, i64_w, i32_w]
               rfl
              refine pure_ (i := 45) (N := some 58) (v := ?_) (a' := ?_) #[true, true, true, true, true, true, true, true, true, true, true, true, true, true, true, true, true, true, true, true, true, true, true, true, true, true, true, true, true, true, true, true, true, true, true, true, true, true, true, true, true, true, true, false, true, true, false, false, false, false, false, false] rfl rfl (any_of HT_.out (by kernel_rfl)) (fun _ _ _ h => h) (Or.inl ⟨by rfl, ?_⟩) ?_ ?_
              rotate_left
              ·intro w'
               go_simp
               with_reducible rfl
              rotate_left
              ·simp only [Act.put, sA, sB, sC, i64_w, i32_w]
               rfl
              refine pure_ (i := 46) (N := some 59) (v := ?_) (a' := ?_) #[true, true, true, true, true, true, true, true, true, true, true, true, true, true, true, true, true, true, true, true, true, true, true, true, true, true, true, true, true, true, true, true, true, true, true, true, true, true, true, true, true, true, true, false, true, true, true, false, false, false, false, false] rfl rfl (any_of HT_.out (by kernel_rfl)) (fun _ _ _ h => h) (Or.inl ⟨by rfl, ?_⟩) ?_ ?_
              rotate_left
              ·intro w'
               go_simp
               with_reducible rfl
              rotate_left
              ·simp only [Act.put, sA, sB, sC, i64_w, i32_w]
               rfl
              refine pure_ (i := 47) (N := some 60) (v := ?_) (a' := ?_) #[true, true, true, true, true, true, true, true, true, true, true, true, true, true, true, true, true, true, true, true, true, true, true, true, true, true, true, true, true, true, true, true, true, true, true, true, true, true, true, true, true, true, true, false, true, true, true, true, false, false, false, false] rfl rfl (any_of HT_.out (by kernel_rfl)) (fun _ _ _ h => h) (Or.inl ⟨by rfl, ?_⟩) ?_ ?_
              rotate_left
              ·intro w'
               go_simp
               with_reducible rfl
              rotate_left
              ·simp only [Act.put, sA, sB, sC, i64_w, i32_w]
               rfl
              refine take_ (i := 43) (N := some 56) (v := ?_) (a' := ?_) fz6_48 rfl rfl (take_ofW HT_.out HW_.out (by kernel_rfl)) (fun _ _ _ h => h) (Or.inl ⟨by rfl, ?_⟩) hHeld ?_ ?_
              rotate_left
              ·rintro w' ⟨s0, s1, s2, s3, s4, s5, s6, s7, s8, s9, s10, s11, s12, s13, s14, s15, s16, s17, s18, s19, s20, s21, s22, s23, s24, s25, s26, s27, s28, s29, s30, s31, s32, s33, s34, s35⟩
               go_simp
               with_reducible rfl
              rotate_left
              ·simp only [Act.put, sA, sB, sC, i64_w, i32_w]
               rfl
              refine take_ (i := 48) (N := some 61) (v := ?_) (a' := ?_) fz6_49 rfl rfl (take_ofW HT_.out HW_.out (by kernel_rfl)) (fun _ _ _ h => h) (Or.inl ⟨by rfl, ?_⟩) hHeld ?_ ?_
              rotate_left
              ·rintro w' ⟨s0, s1, s2, s3, s4, s5, s6, s7, s8, s9, s10, s11, s12, s13, s14, s15, s16, s17, s18, s19, s20, s21, s22, s23, s24, s25, s26, s27, s28, s29, s30, s31, s32, s33, s34, s35⟩
               go_simp
               with_reducible rfl
              rotate_left
              ·simp only [Act.put, sA, sB, sC, i64_w, i32_w]
               rfl
              refine pure_ (i := 49) (N := some 62) (v := ?_) (a' := ?_) fz6_50 rfl rfl (any_of HT_.out (by kernel_rfl)) (fun _ _ _ h => h) (Or.inl ⟨by rfl, ?_⟩) ?_ ?_
              rotate_left
              ·intro w'
               go_simp
               with_reducible rfl
              rotate_left
              ·simp only [Act.put, sA, sB, sC, i64_w, i32_w]
               rfl
              refine pure_ (i := 50) (N := some 63) (v := ?_) (a' := ?_) fz6_51 rfl rfl (any_of HT_.out (by kernel_rfl)) (fun _ _ _ h => h) (Or.inl ⟨by rfl, ?_⟩) ?_ ?_
              rotate_left
              ·intro w'
               go_simp
               with_reducible rfl
              rotate_left
              ·simp only [Act.put, sA, sB, sC, i64_w, i32_w]
               rfl
              refine pure_ (i := 51) (N := some 64) (v := ?_) (a' := ?_) fz6_52 rfl rfl (any_of HT_.out (by kernel_rfl)) (fun _ _ _ h => h) (Or.inl ⟨by rfl, ?_⟩) ?_ ?_
              rotate_left
              ·intro w'
               go_simp
               with_reducible rfl
              rotate_left
              ·simp only [Act.put, sA, sB, sC, i64_w, i32_w]
               rfl
              refine done_ (done_of HT_.out (by kernel_rfl)) ?_
              try go_wp2
              go_meet
              case rel => exact ⟨_, (decide (((rd_T88 l0 (ji15)).f0) ≥ ((rd_T88 l0 x3_1).f0))), (by first | rfl | (simp; done) | (simp only [← hji15] <;> (first | rfl | simp)) | (simp [*]; done)), H', ⟨by have := HK1.out; first | omega | exact Nat.le_refl _⟩, ⟨by repeat (first | (with_reducible first | exact HB.out | apply below_alloc | apply pw_below_drewN | apply below_drew1) | exact HB.out)⟩⟩
             ·rw [if_neg c17] at H
              exact absurd H (by simp)
            ·rw [if_neg c16] at H
             exact absurd H (by simp)
           ·rw [if_neg c14] at H
            have c14b0 : decide (0 < x3_1) = false := decide_eq_false c14
            clear c14
            have H' := Aside0.mk H
            clear H
            try go_wp2
            have n0_ := Aside0.mk (below_drew1 HB.out)
            clear HB
            have HB := n0_
            clear n0_
            have p106 : 0 ≤ (x3_1 : Int) := of_decide_eq_true (by assumption)
            have q106 : x3_1 < (l0.length : Int) := of_decide_eq_true (by assumption)
            obtain ⟨ad106, A106_4, c106_4, e106, hx106_0, hx106_1, hx106_2, hx106_3, hx106_4, hx106_5, hl106_4, hi106_4⟩ := at_T88 HR0.out x3_1 p106 q106
            have hw106_5 := hx106_5
            have hw106_4 := hx106_4
            have hw106_3 := hx106_3
            have hw106_2 := hx106_2
            have hw106_1 := hx106_1
            have hw106_0 := hx106_0
            cases e106
            replace hx106_0 := cb_ HB hx106_0
            replace hx106_1 := cb_ HB hx106_1
            replace hx106_2 := cb_ HB hx106_2
            replace hx106_3 := cb_ HB hx106_3
            replace hx106_4 := cb_ HB hx106_4
            replace hx106_5 := cb_ HB hx106_5
            have HR106_4 := Aside0.mk hi106_4
            have HC106_4 := Aside0.mk hl106_4
            clear hi106_4 hl106_4
            replace p106 := eq_true p106
            replace q106 := eq_true q106
            have p108 : 0 ≤ (x3_1 : Int) := of_decide_eq_true (by assumption)
            have q108 : x3_1 < (l0.length : Int) := of_decide_eq_true (by assumption)
            obtain ⟨ad108, A108_4, c108_4, e108, hx108_0, hx108_1, hx108_2, hx108_3, hx108_4, hx108_5, hl108_4, hi108_4⟩ := at_T88 HR0.out x3_1 p108 q108
            have hw108_5 := hx108_5
            have hw108_4 := hx108_4
            have hw108_3 := hx108_3
            have hw108_2 := hx108_2
            have hw108_1 := hx108_1
            have hw108_0 := hx108_0
            obtain rfl : ad106 = ad108 := (by injection e108)
            replace hx108_0 := cb_ HB hx108_0
            replace hx108_1 := cb_ HB hx108_1
            replace hx108_2 := cb_ HB hx108_2
            replace hx108_3 := cb_ HB hx108_3
            replace hx108_4 := cb_ HB hx108_4
            replace hx108_5 := cb_ HB hx108_5
            have HR108_4 := Aside0.mk hi108_4
            have HC108_4 := Aside0.mk hl108_4
            clear hi108_4 hl108_4
            replace p108 := eq_true p108
            replace q108 := eq_true q108
            have ea_ := Option.some.inj (hx106_4.symm.trans hx108_4)
            injection ea_ with ea_ en_ ec_
            subst ea_
            subst ec_
            clear en_
            have p110 : 0 ≤ (x3_1 : Int) := of_decide_eq_true (by assumption)
            have q110 : x3_1 < (l0.length : Int) := of_decide_eq_true (by assumption)
            obtain ⟨ad110, A110_4, c110_4, e110, hx110_0, hx110_1, hx110_2, hx110_3, hx110_4, hx110_5, hl110_4, hi110_4⟩ := at_T88 HR0.out x3_1 p110 q110
            have hw110_5 := hx110_5
            have hw110_4 := hx110_4
            have hw110_3 := hx110_3
            have hw110_2 := hx110_2
            have hw110_1 := hx110_1
            have hw110_0 := hx110_0
            obtain rfl : ad106 = ad110 := (by injection e110)
            replace hx110_0 := cb_ HB hx110_0
            replace hx110_1 := cb_ HB hx110_1
            replace hx110_2 := cb_ HB hx110_2
            replace hx110_3 := cb_ HB hx110_3
            replace hx110_4 := cb_ HB hx110_4
            replace hx110_5 := cb_ HB hx110_5
            have HR110_4 := Aside0.mk hi110_4
            have HC110_4 := Aside0.mk hl110_4
            clear hi110_4 hl110_4
            replace p110 := eq_true p110
            replace q110 := eq_true q110
            have ea_ := Option.some.inj (hx106_4.symm.trans hx110_4)
            injection ea_ with ea_ en_ ec_
            subst ea_
            subst ec_
            clear en_
            have p112 : 0 ≤ (x3_1 : Int) := of_decide_eq_true (by assumption)
            have q112 : x3_1 < (l0.length : Int) := of_decide_eq_true (by assumption)
            obtain ⟨ad112, A112_4, c112_4, e112, hx112_0, hx112_1, hx112_2, hx112_3, hx112_4, hx112_5, hl112_4, hi112_4⟩ := at_T88 HR0.out x3_1 p112 q112
            have hw112_5 := hx112_5
            have hw112_4 := hx112_4
            have hw112_3 := hx112_3
            have hw112_2 := hx112_2
            have hw112_1 := hx112_1
            have hw112_0 := hx112_0
            obtain rfl : ad106 = ad112 := (by injection e112)
            replace hx112_0 := cb_ HB hx112_0
            replace hx112_1 := cb_ HB hx112_1
            replace hx112_2 := cb_ HB hx112_2
            replace hx112_3 := cb_ HB hx112_3
            replace hx112_4 := cb_ HB hx112_4
            replace hx112_5 := cb_ HB hx112_5
            have HR112_4 := Aside0.mk hi112_4
            have HC112_4 := Aside0.mk hl112_4
            clear hi112_4 hl112_4
            replace p112 := eq_true p112
            replace q112 := eq_true q112
            have ea_ := Option.some.inj (hx106_4.symm.trans hx112_4)
            injection ea_ with ea_ en_ ec_
            subst ea_
            subst ec_
            clear en_
            refine start_ (n := 52) (S := fun w' => w'.cell? (ad106.add ((x3_1).toNat * 6)) = some (.int .i64 ((rd_T88 l0 x3_1).f0)) ∧ w'.cell? ⟨(ad106.add ((x3_1).toNat * 6)).block, (ad106.add ((x3_1).toNat * 6)).off + 1, none⟩ = some (.int .i64 ((rd_T88 l0 x3_1).f1)) ∧ w'.cell? ⟨(ad106.add ((x3_1).toNat * 6)).block, (ad106.add ((x3_1).toNat * 6)).off + 2, none⟩ = some (.int .i64 ((rd_T88 l0 x3_1).f2.f0)) ∧ w'.cell? ⟨(ad106.add ((x3_1).toNat * 6)).block, (ad106.add ((x3_1).toNat * 6)).off + 3, none⟩ = some (.int .i64 ((rd_T88 l0 x3_1).f2.f1)) ∧ w'.cell? ⟨(ad106.add ((x3_1).toNat * 6)).block, (ad106.add ((x3_1).toNat * 6)).off + 4, none⟩ = some (.slice A106_4 ((rd_T88 l0 x3_1).f2.f2).length c106_4) ∧ w'.cell? ⟨(ad106.add ((x3_1).toNat * 6)).block, (ad106.add ((x3_1).toNat * 6)).off + 5, none⟩ = some (.int .i64 ((rd_T88 l0 x3_1).f3)) ∧ w'.cell? (ad106.add ((x3_1).toNat * 6)) = some (.int .i64 ((rd_T88 l0 x3_1).f0)) ∧ w'.cell? ⟨(ad106.add ((x3_1).toNat * 6)).block, (ad106.add ((x3_1).toNat * 6)).off + 1, none⟩ = some (.int .i64 ((rd_T88 l0 x3_1).f1)) ∧ w'.cell? ⟨(ad106.add ((x3_1).toNat * 6)).block, (ad106.add ((x3_1).toNat * 6)).off + 2, none⟩ = some (.int .i64 ((rd_T88 l0 x3_1).f2.f0)) ∧ w'.cell? ⟨(ad106.add ((x3_1).toNat * 6)).block, (ad106.add ((x3_1).toNat * 6)).off + 3, none⟩ = some (.int .i64 ((rd_T88 l0 x3_1).f2.f1)) ∧ w'.cell? ⟨(ad106.add ((x3_1).toNat * 6)).block, (ad106.add ((x3_1).toNat * 6)).off + 4, none⟩ = some (.slice A106_4 ((rd_T88 l0 x3_1).f2.f2).length c106_4) ∧ w'.cell? ⟨(ad106.add ((x3_1).toNat * 6)).block, (ad106.add ((x3_1).toNat * 6)).off + 5, none⟩ = some (.int .i64 ((rd_T88 l0 x3_1).f3)) ∧ w'.cell? (ad106.add ((x3_1).toNat * 6)) = some (.int .i64 ((rd_T88 l0 x3_1).f0)) ∧ w'.cell? ⟨(ad106.add ((x3_1).toNat * 6)).block, (ad106.add ((x3_1).toNat * 6)).off + 1, none⟩ = some (.int .i64 ((rd_T88 l0 x3_1).f1)) ∧ w'.cell? ⟨(ad106.add ((x3_1).toNat * 6)).block, (ad106.add ((x3_1).toNat * 6)).off + 2, none⟩ = some (.int .i64 ((rd_T88 l0 x3_1).f2.f0)) ∧ w'.cell? ⟨(ad106.add ((x3_1).toNat * 6)).block, (ad106.add ((x3_1).toNat * 6)).off + 3, none⟩ = some (.int .i64 ((rd_T88 l0 x3_1).f2.f1)) ∧ w'.cell? ⟨(ad106.add ((x3_1).toNat * 6)).block, (ad106.add ((x3_1).toNat * 6)).off + 4, none⟩ = some (.slice A106_4 ((rd_T88 l0 x3_1).f2.f2).length c106_4) ∧ w'.cell? ⟨(ad106.add ((x3_1).toNat * 6)).block, (ad106.add ((x3_1).toNat * 6)).off + 5, none⟩ = some (.int .i64 ((rd_T88 l0 x3_1).f3)) ∧ w'.cell? (ad106.add ((x3_1).toNat * 6)) = some (.int .i64 ((rd_T88 l0 x3_1).f0)) ∧ w'.cell? ⟨(ad106.add ((x3_1).toNat * 6)).block, (ad106.add ((x3_1).toNat * 6)).off + 1, none⟩ = some (.int .i64 ((rd_T88 l0 x3_1).f1)) ∧ w'.cell? ⟨(ad106.add ((x3_1).toNat * 6)).block, (ad106.add ((x3_1).toNat * 6)).off + 2, none⟩ = some (.int .i64 ((rd_T88 l0 x3_1).f2.f0)) ∧ w'.cell? ⟨(ad106.add ((x3_1).toNat * 6)).block, (ad106.add ((x3_1).toNat * 6)).off + 3, none⟩ = some (.int .i64 ((rd_T88 l0 x3_1).f2.f1)) ∧ w'.cell? ⟨(ad106.add ((x3_1).toNat * 6)).block, (ad106.add ((x3_1).toNat * 6)).off + 4, none⟩ = some (.slice A106_4 ((rd_T88 l0 x3_1).f2.f2).length c106_4) ∧ w'.cell? ⟨(ad106.add ((x3_1).toNat * 6)).block, (ad106.add ((x3_1).toNat * 6)).off + 5, none⟩ = some (.int .i64 ((rd_T88 l0 x3_1).f3))) (ds := []) fz6_0 (by kernel_rfl) rfl rfl ⟨(cb_ HB hw106_0 :), (cb_ HB hw106_1 :), (cb_ HB hw106_2 :), (cb_ HB hw106_3 :), (cb_ HB hw106_4 :), (cb_ HB hw106_5 :), (cb_ HB hw108_0 :), (cb_ HB hw108_1 :), (cb_ HB hw108_2 :), (cb_ HB hw108_3 :), (cb_ HB hw108_4 :), (cb_ HB hw108_5 :), (cb_ HB hw110_0 :), (cb_ HB hw110_1 :), (cb_ HB hw110_2 :), (cb_ HB hw110_3 :), (cb_ HB hw110_4 :), (cb_ HB hw110_5 :), (cb_ HB hw112_0 :), (cb_ HB hw112_1 :), (cb_ HB hw112_2 :), (cb_ HB hw112_3 :), (cb_ HB hw112_4 :), (cb_ HB hw112_5 :)⟩ (fun hHeld => ?_); refine with_tabW lecternref14_May.tab6 lecternref14_May.bits6 (fun HT_ HW_ => ?_)
            generalize wr.drew = w20 at HB HR106_4 HR108_4 HR110_4 HR112_4 hx106_0 hx106_1 hx106_2 hx106_3 hx106_4 hx106_5 hx108_0 hx108_1 hx108_2 hx108_3 hx108_4 hx108_5 hx110_0 hx110_1 hx110_2 hx110_3 hx110_4 hx110_5 hx112_0 hx112_1 hx112_2 hx112_3 hx112_4 hx112_5 hHeld ⊢
            refine pure_ (i := 0) (N := some 13) (v := ?_) (a' := ?_) fz6_1 rfl rfl (any_of HT_.out (by kernel_rfl)) (fun _ _ _ h => h) (Or.inl ⟨by rfl, ?_⟩) ?_ ?_
            rotate_left
            ·intro w'
             go_simp
             with_reducible rfl
            rotate_left
            ·simp only [Act.put, sA, sB, sC, i64_w, i32_w]
             rfl
            refine pure_ (i := 1) (N := some 14) (v := ?_) (a' := ?_) fz6_2 rfl rfl (any_of HT_.out (by kernel_rfl)) (fun _ _ _ h => h) (Or.inl ⟨by rfl, ?_⟩) ?_ ?_
            rotate_left
            ·intro w'
             go_simp
             with_reducible rfl
            rotate_left
            ·simp only [Act.put, sA, sB, sC, i64_w, i32_w]
             rfl
            refine pure_ (i := 2) (N := some 15) (v := ?_) (a' := ?_) fz6_3 rfl rfl (any_of HT_.out (by kernel_rfl)) (fun _ _ _ h => h) (Or.inl ⟨by rfl, ?_⟩) ?_ ?_
            rotate_left
            ·intro w'
             go_simp
             with_reducible rfl
            rotate_left
            ·simp only [Act.put, sA, sB, sC, i64_w, i32_w]
             rfl
            refine pure_ (i := 3) (N := some 16) (v := ?_) (a' := ?_) fz6_4 rfl rfl (any_of HT_.out (by kernel_rfl)) (fun _ _ _ h => h) (Or.inl ⟨by rfl, ?_⟩) ?_ ?_
            rotate_left
            ·intro w'
             go_simp
             with_reducible rfl
            rotate_left
            ·simp only [Act.put, sA, sB, sC, i64_w, i32_w]
             rfl
            refine take_ (i := 4) (N := some 17) (v := ?_) (a' := ?_) fz6_5 rfl rfl (take_ofW HT_.out HW_.out (by kernel_rfl)) (fun _ _ _ h => h) (Or.inl ⟨by rfl, ?_⟩) hHeld ?_ ?_
            rotate_left
            ·rintro w' ⟨s0, s1, s2, s3, s4, s5, s6, s7, s8, s9, s10, s11, s12, s13, s14, s15, s16, s17, s18, s19, s20, s21, s22, s23⟩
             go_simp
             with_reducible rfl
            rotate_left
            ·simp only [Act.put, sA, sB, sC, i64_w, i32_w]
             rfl
            refine one_ (i := 5) (N := some 18) fz6_6 rfl rfl (one_of HT_.out (by kernel_rfl)) (by decide) (fun K hK => ?_)
            refine goes_ Try.func54 (by kernel_rfl) rfl #[.int .i64 ((rd_T88 l0 x3_1).f0)] (by rfl) rfl rfl (by (try simp only [List.map_toArray, List.map_cons, List.map_nil]); first | done | rfl | (simp only [List.length_drop, List.length_take]; rfl)) ?_
            with_reducible refine (lecternref14_id.calls ((rd_T88 l0 x3_1).f0) true _ A6.out).mono ?_
            rintro e w' ⟨rfl, ⟨nd, rfl⟩⟩
            refine ⟨_, rfl, ?_⟩
            refine hK.out _ _ ⟨(cb_ HB hw106_0 :), (cb_ HB hw106_1 :), (cb_ HB hw106_2 :), (cb_ HB hw106_3 :), (cb_ HB hw106_4 :), (cb_ HB hw106_5 :), (cb_ HB hw108_0 :), (cb_ HB hw108_1 :), (cb_ HB hw108_2 :), (cb_ HB hw108_3 :), (cb_ HB hw108_4 :), (cb_ HB hw108_5 :), (cb_ HB hw110_0 :), (cb_ HB hw110_1 :), (cb_ HB hw110_2 :), (cb_ HB hw110_3 :), (cb_ HB hw110_4 :), (cb_ HB hw110_5 :), (cb_ HB hw112_0 :), (cb_ HB hw112_1 :), (cb_ HB hw112_2 :), (cb_ HB hw112_3 :), (cb_ HB hw112_4 :), (cb_ HB hw112_5 :)⟩ (fun hHeld => ?_)
            clear hK K
            refine norm_ (a' := ?_) ?_ ?_
            rotate_left
            ·show Act.put _ (some 18) _ = _
             simp only [Act.put, sA, sB, sC, i64_w, i32_w]
             rfl
            refine pure_ (i := 6) (N := some 19) (v := ?_) (a' := ?_) fz6_7 rfl rfl (any_of HT_.out (by kernel_rfl)) (fun _ _ _ h => h) (Or.inl ⟨by rfl, ?_⟩) ?_ ?_
            rotate_left
            ·intro w'
             go_simp
             with_reducible rfl
            rotate_left
            ·simp only [Act.put, sA, sB, sC, i64_w, i32_w]
             rfl
            refine pure_ (i := 7) (N := some 20) (v := ?_) (a' := ?_) fz6_8 rfl rfl (any_of HT_.out (by kernel_rfl)) (fun _ _ _ h => h) (Or.inl ⟨by rfl, ?_⟩) ?_ ?_
            rotate_left
            ·intro w'
             go_simp
             with_reducible rfl
            rotate_left
            ·simp only [Act.put, sA, sB, sC, i64_w, i32_w]
             rfl
            refine pure_ (i := 8) (N := some 21) (v := ?_) (a' := ?_) fz6_9 rfl rfl (any_of HT_.out (by kernel_rfl)) (fun _ _ _ h => h) (Or.inl ⟨by rfl, ?_⟩) ?_ ?_
            rotate_left
            ·intro w'
             go_simp
             with_reducible rfl
            rotate_left
            ·simp only [Act.put, sA, sB, sC, i64_w, i32_w]
             rfl
            refine pure_ (i := 9) (N := some 22) (v := ?_) (a' := ?_) fz6_10 rfl rfl (any_of HT_.out (by kernel_rfl)) (fun _ _ _ h => h) (Or.inl ⟨by rfl, ?_⟩) ?_ ?_
            rotate_left
            ·intro w'
             go_simp
             with_reducible rfl
            rotate_left
            ·simp only [Act.put, sA, sB, sC, i64_w, i32_w]
             rfl
            refine pure_ (i := 10) (N := some 23) (v := ?_) (a' := ?_) fz6_11 rfl rfl (any_of HT_.out (by kernel_rfl)) (fun _ _ _ h => h) (Or.inl ⟨by rfl, ?_⟩) ?_ ?_
            rotate_left
            ·intro w'
             go_simp
             with_reducible rfl
            rotate_left
            ·simp only [Act.put, sA, sB, sC, i64_w, i32_w]
             rfl
            refine pure_ (i := 11) (N := some 24) (v := ?_) (a' := ?_) fz6_12 rfl rfl (any_of HT_.out (by kernel_rfl)) (fun _ _ _ h => h) (Or.inl ⟨by rfl, ?_⟩) ?_ ?_
            rotate_left
            ·intro w'
             go_simp
             with_reducible rfl
            rotate_left
            ·simp only [Act.put, sA, sB, sC, i64_w, i32_w]
             rfl
            refine take_ (i := 12) (N := some 25) (v := ?_) (a' := ?_) fz6_13 rfl rfl (take_ofW HT_.out HW_.out (by kernel_rfl)) (fun _ _ _ h => h) (Or.inl ⟨by rfl, ?_⟩) hHeld ?_ ?_
            rotate_left
            ·rintro w' ⟨s0, s1, s2, s3, s4, s5, s6, s7, s8, s9, s10, s11, s12, s13, s14, s15, s16, s17, s18, s19, s20, s21, s22, s23⟩
             go_simp
             with_reducible rfl
            rotate_left
            ·simp only [Act.put, sA, sB, sC, i64_w, i32_w]
             rfl
            refine one_ (i := 13) (N := some 26) fz6_14 rfl rfl (one_of HT_.out (by kernel_rfl)) (by decide) (fun K hK => ?_)
            refine goes_ Try.func55 (by kernel_rfl) rfl #[.int .i64 ((rd_T88 l0 x3_1).f1)] (by rfl) rfl rfl (by (try simp only [List.map_toArray, List.map_cons, List.map_nil]); first | done | rfl | (simp only [List.length_drop, List.length_take]; rfl)) ?_
            with_reducible refine (lecternref0_Num.calls ((rd_T88 l0 x3_1).f1) true _ A8.out).mono ?_
            rintro e w' ⟨rfl, ⟨nd, rfl⟩⟩
            refine ⟨_, rfl, ?_⟩
            refine hK.out _ _ ⟨(cb_ HB hw106_0 :), (cb_ HB hw106_1 :), (cb_ HB hw106_2 :), (cb_ HB hw106_3 :), (cb_ HB hw106_4 :), (cb_ HB hw106_5 :), (cb_ HB hw108_0 :), (cb_ HB hw108_1 :), (cb_ HB hw108_2 :), (cb_ HB hw108_3 :), (cb_ HB hw108_4 :), (cb_ HB hw108_5 :), (cb_ HB hw110_0 :), (cb_ HB hw110_1 :), (cb_ HB hw110_2 :), (cb_ HB hw110_3 :), (cb_ HB hw110_4 :), (cb_ HB hw110_5 :), (cb_ HB hw112_0 :), (cb_ HB hw112_1 :), (cb_ HB hw112_2 :), (cb_ HB hw112_3 :), (cb_ HB hw112_4 :), (cb_ HB hw112_5 :)⟩ (fun hHeld => ?_)
            clear hK K
            refine norm_ (a' := ?_) ?_ ?_
            rotate_left
            ·show Act.put _ (some 26) _ = _
             simp only [Act.put, sA, sB, sC, i64_w, i32_w]
             rfl
            refine pure_ (i := 14) (N := some 27) (v := ?_) (a' := ?_) fz6_15 rfl rfl (any_of HT_.out (by kernel_rfl)) (fun _ _ _ h => h) (Or.inl ⟨by rfl, ?_⟩) ?_ ?_
            rotate_left
            ·intro w'
             go_simp
             with_reducible rfl
            rotate_left
            ·simp only [Act.put, sA, sB, sC, i64_w, i32_w]
             rfl
            refine pure_ (i := 15) (N := some 28) (v := ?_) (a' := ?_) fz6_16 rfl rfl (any_of HT_.out (by kernel_rfl)) (fun _ _ _ h => h) (Or.inl ⟨by rfl, ?_⟩) ?_ ?_
            rotate_left
            ·intro w'
             go_simp
             with_reducible rfl
            rotate_left
            ·simp only [Act.put, sA, sB, sC, i64_w, i32_w]
             rfl
            refine pure_ (i := 16) (N := some 29) (v := ?_) (a' := ?_) fz6_17 rfl rfl (any_of HT_.out (by kernel_rfl)) (fun _ _ _ h => h) (Or.inl ⟨by rfl, ?_⟩) ?_ ?_
            rotate_left
            ·intro w'
             go_simp
             with_reducible rfl
            rotate_left
            ·simp only [Act.put, sA, sB, sC, i64_w, i32_w]
             rfl
            refine pure_ (i := 17) (N := some 30) (v := ?_) (a' := ?_) fz6_18 rfl rfl (any_of HT_.out (by kernel_rfl)) (fun _ _ _ h => h) (Or.inl ⟨by rfl, ?_⟩) ?_ ?_
            rotate_left
            ·intro w'
             go_simp
             with_reducible rfl
            rotate_left
            ·simp only [Act.put, sA, sB, sC, i64_w, i32_w]
             rfl
            refine pure_ (i := 18) (N := some 31) (v := ?_) (a' := ?_) fz6_19 rfl rfl (any_of HT_.out (by kernel_rfl)) (fun _ _ _ h => h) (Or.inl ⟨by rfl, ?_⟩) ?_ ?_
            rotate_left
            ·intro w'
             go_simp
             with_reducible rfl
            rotate_left
            ·simp only [Act.put, sA, sB, sC, i64_w, i32_w]
             rfl
            refine pure_ (i := 19) (N := some 32) (v := ?_) (a' := ?_) fz6_20 rfl rfl (any_of HT_.out (by kernel_rfl)) (fun _ _ _ h => h) (Or.inl ⟨by rfl, ?_⟩) ?_ ?_
            rotate_left
            ·intro w'
             go_simp
             with_reducible rfl
            rotate_left
            ·simp only [Act.put, sA, sB, sC, i64_w, i32_w]
             rfl
            refine pure_ (i := 20) (N := some 33) (v := ?_) (a' := ?_) fz6_21 rfl rfl (any_of HT_.out (by kernel_rfl)) (fun _ _ _ h => h) (Or.inl ⟨by rfl, ?_⟩) ?_ ?_
            rotate_left
            ·intro w'
             go_simp
             with_reducible rfl
            rotate_left
            ·simp only [Act.put, sA, sB, sC, i64_w, i32_w]
             rfl
            refine take_ (i := 21) (N := some 34) (v := ?_) (a' := ?_) fz6_22 rfl rfl (take_ofW HT_.out HW_.out (by kernel_rfl)) (fun _ _ _ h => h) (Or.inl ⟨by rfl, ?_⟩) hHeld ?_ ?_
            rotate_left
            ·rintro w' ⟨s0, s1, s2, s3, s4, s5, s6, s7, s8, s9, s10, s11, s12, s13, s14, s15, s16, s17, s18, s19, s20, s21, s22, s23⟩
             go_simp
             with_reducible rfl
            rotate_left
            ·simp only [Act.put, sA, sB, sC, i64_w, i32_w]
             rfl
            refine one_ (i := 22) (N := some 35) fz6_23 rfl rfl (one_of HT_.out (by kernel_rfl)) (by decide) (fun K hK => ?_)
            refine goes_ Try.func55 (by kernel_rfl) rfl #[.int .i64 ((rd_T88 l0 x3_1).f3)] (by rfl) rfl rfl (by (try simp only [List.map_toArray, List.map_cons, List.map_nil]); first | done | rfl | (simp only [List.length_drop, List.length_take]; rfl)) ?_
            with_reducible refine (lecternref0_Num.calls ((rd_T88 l0 x3_1).f3) true _ A10.out).mono ?_
            rintro e w' ⟨rfl, ⟨nd, rfl⟩⟩
            refine ⟨_, rfl, ?_⟩
            refine hK.out _ _ ⟨(cb_ HB hw106_0 :), (cb_ HB hw106_1 :), (cb_ HB hw106_2 :), (cb_ HB hw106_3 :), (cb_ HB hw106_4 :), (cb_ HB hw106_5 :), (cb_ HB hw108_0 :), (cb_ HB hw108_1 :), (cb_ HB hw108_2 :), (cb_ HB hw108_3 :), (cb_ HB hw108_4 :), (cb_ HB hw108_5 :), (cb_ HB hw110_0 :), (cb_ HB hw110_1 :), (cb_ HB hw110_2 :), (cb_ HB hw110_3 :), (cb_ HB hw110_4 :), (cb_ HB hw110_5 :), (cb_ HB hw112_0 :), (cb_ HB hw112_1 :), (cb_ HB hw112_2 :), (cb_ HB hw112_3 :), (cb_ HB hw112_4 :), (cb_ HB hw112_5 :)⟩ (fun hHeld => ?_)
            clear hK K
            refine norm_ (a' := ?_) ?_ ?_
            rotate_left
            ·show Act.put _ (some 35) _ = _
             simp only [Act.put, sA, sB, sC, i64_w, i32_w]
             rfl
            refine pure_ (i := 23) (N := some 36) (v := ?_) (a' := ?_) fz6_24 rfl rfl (any_of HT_.out (by kernel_rfl)) (fun _ _ _ h => h) (Or.inl ⟨by rfl, ?_⟩) ?_ ?_
            rotate_left
            ·intro w'
             go_simp
             with_reducible rfl
            rotate_left
            ·simp only [Act.put, sA, sB, sC, i64_w, i32_w]
             rfl
            refine pure_ (i := 24) (N := some 37) (v := ?_) (a' := ?_) fz6_25 rfl rfl (any_of HT_.out (by kernel_rfl)) (fun _ _ _ h => h) (Or.inl ⟨by rfl, ?_⟩) ?_ ?_
            rotate_left
            ·intro w'
             go_simp
             with_reducible rfl
            rotate_left
            ·simp only [Act.put, sA, sB, sC, i64_w, i32_w]
             rfl
            refine pure_ (i := 25) (N := some 38) (v := ?_) (a' := ?_) fz6_26 rfl rfl (any_of HT_.out (by kernel_rfl)) (fun _ _ _ h => h) (Or.inl ⟨by rfl, ?_⟩) ?_ ?_
            rotate_left
            ·intro w'
             go_simp
             with_reducible rfl
            rotate_left
            ·simp only [Act.put, sA, sB, sC, i64_w, i32_w]
             rfl
            refine pure_ (i := 26) (N := some 39) (v := ?_) (a' := ?_) fz6_27 rfl rfl (any_of HT_.out (by kernel_rfl)) (fun _ _ _ h => h) (Or.inl ⟨by rfl, ?_⟩) ?_ ?_
            rotate_left
            ·intro w'
             go_simp
             with_reducible rfl
            rotate_left
            ·simp only [Act.put, sA, sB, sC, i64_w, i32_w]
             rfl
            refine pure_ (i := 27) (N := some 40) (v := ?_) (a' := ?_) fz6_28 rfl rfl (any_of HT_.out (by kernel_rfl)) (fun _ _ _ h => h) (Or.inl ⟨by rfl, ?_⟩) ?_ ?_
            rotate_left
            ·intro w'
             go_simp
             with_reducible rfl
            rotate_left
            ·simp only [Act.put, sA, sB, sC, i64_w, i32_w]
             rfl
            refine pure_ (i := 28) (N := some 41) (v := ?_) (a' := ?_) fz6_29 rfl rfl (any_of HT_.out (by kernel_rfl)) (fun _ _ _ h => h) (Or.inl ⟨by rfl, ?_⟩) ?_ ?_
            rotate_left
            ·intro w'
             go_simp
             with_reducible rfl
            rotate_left
            ·simp only [Act.put, sA, sB, sC, i64_w, i32_w]
             rfl
            refine pure_ (i := 29) (N := some 42) (v := ?_) (a' := ?_) fz6_30 rfl rfl (any_of HT_.out (by kernel_rfl)) (fun _ _ _ h => h) (Or.inl ⟨by rfl, ?_⟩) ?_ ?_
            rotate_left
            ·intro w'
             go_simp
             with_reducible rfl
            rotate_left
            ·simp only [Act.put, sA, sB, sC, i64_w, i32_w]
             rfl
            refine take_ (i := 30) (N := some 43) (v := ?_) (a' := ?_) fz6_31 rfl rfl (take_ofW HT_.out HW_.out (by kernel_rfl)) (fun _ _ _ h => h) (Or.inl ⟨by rfl, ?_⟩) hHeld ?_ ?_
            rotate_left
            ·rintro w' ⟨s0, s1, s2, s3, s4, s5, s6, s7, s8, s9, s10, s11, s12, s13, s14, s15, s16, s17, s18, s19, s20, s21, s22, s23⟩
             go_simp
             with_reducible rfl
            rotate_left
            ·simp only [Act.put, sA, sB, sC, i64_w, i32_w]
             rfl
            refine one_ (i := 31) (N := some 44) fz6_32 rfl rfl (one_of HT_.out (by kernel_rfl)) (by decide) (fun K hK => ?_)
            refine goes_ Try.func56 (by kernel_rfl) rfl #[.agg #[.int .i64 ((rd_T88 l0 x3_1).f2.f0), .int .i64 ((rd_T88 l0 x3_1).f2.f1), .slice A106_4 ((rd_T88 l0 x3_1).f2.f2).length c106_4]] (by rfl) rfl rfl (by (try simp only [List.map_toArray, List.map_cons, List.map_nil]); first | done | rfl | (simp only [List.length_drop, List.length_take]; rfl)) ?_
            with_reducible refine (lecternref14_MayReply.calls ((rd_T88 l0 x3_1).f2.f0) ((rd_T88 l0 x3_1).f2.f1) _ _ ((rd_T88 l0 x3_1).f2.f2) true _ ?side1 ?side2 A12.out).mono ?_
            (case side1 => repeat (first | exact (Kd.C_below HR112_4.out (by repeat (first | (with_reducible first | exact HB.out | apply below_alloc | apply pw_below_drewN | apply below_drew1) | exact HB.out))) | (with_reducible refine Kd.C_alloc ?_ _) | (with_reducible refine Kd.C_drewN ?_ _) | (with_reducible refine Kd.C_drew ?_)))
            (case side2 => exact HC112_4.out)
            rintro e w21 ⟨rfl, hb⟩
            refine ⟨_, rfl, ?_⟩
            have n0_ := Aside0.mk (below_step (by repeat (first | (with_reducible first | exact HB.out | apply below_alloc | apply pw_below_drewN | apply below_drew1) | exact HB.out)) hb)
            clear HB
            have HB := n0_
            clear n0_
            (try clear hb)
            (try clear hb2)
            (try clear hk)
            (try clear hi)
            refine hK.out _ _ ⟨(cb_ HB hw106_0 :), (cb_ HB hw106_1 :), (cb_ HB hw106_2 :), (cb_ HB hw106_3 :), (cb_ HB hw106_4 :), (cb_ HB hw106_5 :), (cb_ HB hw108_0 :), (cb_ HB hw108_1 :), (cb_ HB hw108_2 :), (cb_ HB hw108_3 :), (cb_ HB hw108_4 :), (cb_ HB hw108_5 :), (cb_ HB hw110_0 :), (cb_ HB hw110_1 :), (cb_ HB hw110_2 :), (cb_ HB hw110_3 :), (cb_ HB hw110_4 :), (cb_ HB hw110_5 :), (cb_ HB hw112_0 :), (cb_ HB hw112_1 :), (cb_ HB hw112_2 :), (cb_ HB hw112_3 :), (cb_ HB hw112_4 :), (cb_ HB hw112_5 :)⟩ (fun hHeld => ?_)
            clear hK K
            refine norm_ (a' := ?_) ?_ ?_
            rotate_left
            ·show Act.put _ (some 44) _ = _
             simp only [Act.put, sA, sB, sC, i64_w, i32_w]
             rfl
            refine pure_ (i := 32) (N := some 45) (v := ?_) (a' := ?_) fz6_33 rfl rfl (any_of HT_.out (by kernel_rfl)) (fun _ _ _ h => h) (Or.inl ⟨by rfl, ?_⟩) ?_ ?_
            rotate_left
            ·intro w'
             go_simp
             with_reducible rfl
            rotate_left
            ·simp only [Act.put, sA, sB, sC, i64_w, i32_w]
             rfl
            refine pure_ (i := 33) (N := some 46) (v := ?_) (a' := ?_) fz6_34 rfl rfl (any_of HT_.out (by kernel_rfl)) (fun _ _ _ h => h) (Or.inl ⟨by rfl, ?_⟩) ?_ ?_
            rotate_left
            ·intro w'
             go_simp
             with_reducible rfl
            rotate_left
            ·simp only [Act.put, sA, sB, sC, i64_w, i32_w]
             rfl
            refine pure_ (i := 34) (N := some 47) (v := ?_) (a' := ?_) fz6_35 rfl rfl (any_of HT_.out (by kernel_rfl)) (fun _ _ _ h => h) (Or.inl ⟨by rfl, ?_⟩) ?_ ?_
            rotate_left
            ·intro w'
             go_simp
             with_reducible rfl
            rotate_left
            ·simp only [Act.put, sA, sB, sC, i64_w, i32_w]
             rfl
            refine pure_ (i := 35) (N := some 48) (v := ?_) (a' := ?_) fz6_36 rfl rfl (any_of HT_.out (by kernel_rfl)) (fun _ _ _ h => h) (Or.inl ⟨by rfl, ?_⟩) ?_ ?_
            rotate_left
            ·intro w'
             go_simp
             with_reducible rfl
            rotate_left
            ·simp only [Act.put, sA, sB, sC, i64_w, i32_w]
             rfl
            refine pure_ (i := 36) (N := some 49) (v := ?_) (a' := ?_) fz6_37 rfl rfl (any_of HT_.out (by kernel_rfl)) (fun _ _ _ h => h) (Or.inl ⟨by rfl, ?_⟩) ?_ ?_
            rotate_left
            ·intro w'
             go_simp
             with_reducible rfl
            rotate_left
            ·simp only [Act.put, sA, sB, sC, i64_w, i32_w]
             rfl
            refine pure_ (i := 37) (N := some 50) (v := ?_) (a' := ?_) fz6_38 rfl rfl (any_of HT_.out (by kernel_rfl)) (fun _ _ _ h => h) (Or.inl ⟨by rfl, ?_⟩) ?_ ?_
            rotate_left
            ·intro w'
             go_simp
             with_reducible rfl
            rotate_left
            ·simp only [Act.put, sA, sB, sC, i64_w, i32_w]
             rfl
            refine pure_ (i := 38) (N := some 51) (v := undef) (a' := ?_) fz6_39 rfl rfl (any_of HT_.out (by kernel_rfl)) (fun _ _ _ h => h) (Or.inr ⟨by rfl, rfl⟩) ?_ ?_
            rotate_left
            ·simp only [Act.put, sA, sB, sC, i64_w, i32_w]
             rfl
            refine pure_ (i := 39) (N := some 52) (v := undef) (a' := ?_) fz6_40 rfl rfl (any_of HT_.out (by kernel_rfl)) (fun _ _ _ h => h) (Or.inr ⟨by rfl, rfl⟩) ?_ ?_
            rotate_left
            ·simp only [Act.put, sA, sB, sC, i64_w, i32_w]
             rfl
            refine pure_ (i := 40) (N := some 53) (v := undef) (a' := ?_) fz6_41 rfl rfl (any_of HT_.out (by kernel_rfl)) (fun _ _ _ h => h) (Or.inr ⟨by rfl, rfl⟩) ?_ ?_
            rotate_left
            ·simp only [Act.put, sA, sB, sC, i64_w, i32_w]
             rfl
            refine pure_ (i := 41) (N := some 54) (v := undef) (a' := ?_) fz6_42 rfl rfl (any_of HT_.out (by kernel_rfl)) (fun _ _ _ h => h) (Or.inr ⟨by rfl, rfl⟩) ?_ ?_
            rotate_left
            ·simp only [Act.put, sA, sB, sC, i64_w, i32_w]
             rfl
            refine pure_ (i := 42) (N := some 55) (v := undef) (a' := ?_) fz6_43 rfl rfl (any_of HT_.out (by kernel_rfl)) (fun _ _ _ h => h) (Or.inr ⟨by rfl, rfl⟩) ?_ ?_
            rotate_left
            ·simp only [Act.put, sA, sB, sC, i64_w, i32_w]
             rfl
            refine pure_ (i := 43) (N := some 56) (v := undef) (a' := ?_) fz6_44 rfl rfl (any_of HT_.out (by kernel_rfl)) (fun _ _ _ h => h) (Or.inr ⟨by rfl, rfl⟩) ?_ ?_
            rotate_left
            ·simp only [Act.put, sA, sB, sC, i64_w, i32_w]
             rfl
            refine pure_ (i := 44) (N := some 57) (v := undef) (a' := ?_) fz6_45 rfl rfl (any_of HT_.out (by kernel_rfl)) (fun _ _ _ h => h) (Or.inr ⟨by rfl, rfl⟩) ?_ ?_
            rotate_left
            ·simp only [Act.put, sA, sB, sC, i64_w, i32_w]
             rfl
            refine pure_ (i := 45) (N := some 58) (v := undef) (a' := ?_) fz6_46 rfl rfl (any_of HT_.out (by kernel_rfl)) (fun _ _ _ h => h) (Or.inr ⟨by rfl, rfl⟩) ?_ ?_
            rotate_left
            ·simp only [Act.put, sA, sB, sC, i64_w, i32_w]
             rfl
            refine pure_ (i := 46) (N := some 59) (v := undef) (a' := ?_) fz6_47 rfl rfl (any_of HT_.out (by kernel_rfl)) (fun _ _ _ h => h) (Or.inr ⟨by rfl, rfl⟩) ?_ ?_
            rotate_left
            ·simp only [Act.put, sA, sB, sC, i64_w, i32_w]
             rfl
            refine pure_ (i := 47) (N := some 60) (v := undef) (a' := ?_) fz6_48 rfl rfl (any_of HT_.out (by kernel_rfl)) (fun _ _ _ h => h) (Or.inr ⟨by rfl, rfl⟩) ?_ ?_
            rotate_left
            ·simp only [Act.put, sA, sB, sC, i64_w, i32_w]
             rfl
            refine pure_ (i := 48) (N := some 61) (v := undef) (a' := ?_) fz6_49 rfl rfl (any_of HT_.out (by kernel_rfl)) (fun _ _ _ h => h) (Or.inr ⟨by rfl, rfl⟩) ?_ ?_
            rotate_left
            ·simp only [Act.put, sA, sB, sC, i64_w, i32_w]
             rfl
            refine pure_ (i := 49) (N := some 62) (v := undef) (a' := ?_) fz6_50 rfl rfl (any_of HT_.out (by kernel_rfl)) (fun _ _ _ h => h) (Or.inr ⟨by rfl, rfl⟩) ?_ ?_
            rotate_left
            ·simp only [Act.put, sA, sB, sC, i64_w, i32_w]
             rfl
            refine pure_ (i := 50) (N := some 63) (v := ?_) (a' := ?_) fz6_51 rfl rfl (any_of HT_.out (by kernel_rfl)) (fun _ _ _ h => h) (Or.inl ⟨by rfl, ?_⟩) ?_ ?_
            rotate_left
            ·intro w'
             go_simp
             with_reducible rfl
            rotate_left
            ·simp only [Act.put, sA, sB, sC, i64_w, i32_w]
             rfl
            refine pure_ (i := 51) (N := some 64) (v := ?_) (a' := ?_) fz6_52 rfl rfl (any_of HT_.out (by kernel_rfl)) (fun _ _ _ h => h) (Or.inl ⟨by rfl, ?_⟩) ?_ ?_
            rotate_left
            ·intro w'
             go_simp
             with_reducible rfl
            rotate_left
            ·simp only [Act.put, sA, sB, sC, i64_w, i32_w]
             rfl
            refine done_ (done_of HT_.out (by kernel_rfl)) ?_
            try go_wp2
            go_meet
            case rel => exact ⟨_, (false), (by first | rfl | (simp; done) | (simp [*]; done)), H', ⟨by have := HK1.out; first | omega | exact Nat.le_refl _⟩, ⟨by repeat (first | (with_reducible first | exact HB.out | apply below_alloc | apply pw_below_drewN | apply below_drew1) | exact HB.out)⟩⟩
          ·replace c13 := Bool.eq_false_iff.mpr c13
           subst c13
           have H1 : (lecternref14_May.j1 k1 l0 x3_1 true) = some r := by rw [if_neg (show ¬ (false = true) by decide)] at H; exact H
           clear H
           have H := H1
           clear H1
           have H' := Aside0.mk H
           clear H
           try go_wp2
           have n0_ := Aside0.mk (below_drew1 HB.out)
           clear HB
           have HB := n0_
           clear n0_
           have p106 : 0 ≤ (x3_1 : Int) := of_decide_eq_true (by assumption)
           have q106 : x3_1 < (l0.length : Int) := of_decide_eq_true (by assumption)
           obtain ⟨ad106, A106_4, c106_4, e106, hx106_0, hx106_1, hx106_2, hx106_3, hx106_4, hx106_5, hl106_4, hi106_4⟩ := at_T88 HR0.out x3_1 p106 q106
           have hw106_5 := hx106_5
           have hw106_4 := hx106_4
           have hw106_3 := hx106_3
           have hw106_2 := hx106_2
           have hw106_1 := hx106_1
           have hw106_0 := hx106_0
           cases e106
           replace hx106_0 := cb_ HB hx106_0
           replace hx106_1 := cb_ HB hx106_1
           replace hx106_2 := cb_ HB hx106_2
           replace hx106_3 := cb_ HB hx106_3
           replace hx106_4 := cb_ HB hx106_4
           replace hx106_5 := cb_ HB hx106_5
           have HR106_4 := Aside0.mk hi106_4
           have HC106_4 := Aside0.mk hl106_4
           clear hi106_4 hl106_4
           replace p106 := eq_true p106
           replace q106 := eq_true q106
           have p108 : 0 ≤ (x3_1 : Int) := of_decide_eq_true (by assumption)
           have q108 : x3_1 < (l0.length : Int) := of_decide_eq_true (by assumption)
           obtain ⟨ad108, A108_4, c108_4, e108, hx108_0, hx108_1, hx108_2, hx108_3, hx108_4, hx108_5, hl108_4, hi108_4⟩ := at_T88 HR0.out x3_1 p108 q108
           have hw108_5 := hx108_5
           have hw108_4 := hx108_4
           have hw108_3 := hx108_3
           have hw108_2 := hx108_2
           have hw108_1 := hx108_1
           have hw108_0 := hx108_0
           obtain rfl : ad106 = ad108 := (by injection e108)
           replace hx108_0 := cb_ HB hx108_0
           replace hx108_1 := cb_ HB hx108_1
           replace hx108_2 := cb_ HB hx108_2
           replace hx108_3 := cb_ HB hx108_3
           replace hx108_4 := cb_ HB hx108_4
           replace hx108_5 := cb_ HB hx108_5
           have HR108_4 := Aside0.mk hi108_4
           have HC108_4 := Aside0.mk hl108_4
           clear hi108_4 hl108_4
           replace p108 := eq_true p108
           replace q108 := eq_true q108
           have ea_ := Option.some.inj (hx106_4.symm.trans hx108_4)
           injection ea_ with ea_ en_ ec_
           subst ea_
           subst ec_
           clear en_
           have p110 : 0 ≤ (x3_1 : Int) := of_decide_eq_true (by assumption)
           have q110 : x3_1 < (l0.length : Int) := of_decide_eq_true (by assumption)
           obtain ⟨ad110, A110_4, c110_4, e110, hx110_0, hx110_1, hx110_2, hx110_3, hx110_4, hx110_5, hl110_4, hi110_4⟩ := at_T88 HR0.out x3_1 p110 q110
           have hw110_5 := hx110_5
           have hw110_4 := hx110_4
           have hw110_3 := hx110_3
           have hw110_2 := hx110_2
           have hw110_1 := hx110_1
           have hw110_0 := hx110_0
           obtain rfl : ad106 = ad110 := (by injection e110)
           replace hx110_0 := cb_ HB hx110_0
           replace hx110_1 := cb_ HB hx110_1
           replace hx110_2 := cb_ HB hx110_2
           replace hx110_3 := cb_ HB hx110_3
           replace hx110_4 := cb_ HB hx110_4
           replace hx110_5 := cb_ HB hx110_5
           have HR110_4 := Aside0.mk hi110_4
           have HC110_4 := Aside0.mk hl110_4
           clear hi110_4 hl110_4
           replace p110 := eq_true p110
           replace q110 := eq_true q110
           have ea_ := Option.some.inj (hx106_4.symm.trans hx110_4)
           injection ea_ with ea_ en_ ec_
           subst ea_
           subst ec_
           clear en_
           have p112 : 0 ≤ (x3_1 : Int) := of_decide_eq_true (by assumption)
           have q112 : x3_1 < (l0.length : Int) := of_decide_eq_true (by assumption)
           obtain ⟨ad112, A112_4, c112_4, e112, hx112_0, hx112_1, hx112_2, hx112_3, hx112_4, hx112_5, hl112_4, hi112_4⟩ := at_T88 HR0.out x3_1 p112 q112
           have hw112_5 := hx112_5
           have hw112_4 := hx112_4
           have hw112_3 := hx112_3
           have hw112_2 := hx112_2
           have hw112_1 := hx112_1
           have hw112_0 := hx112_0
           obtain rfl : ad106 = ad112 := (by injection e112)
           replace hx112_0 := cb_ HB hx112_0
           replace hx112_1 := cb_ HB hx112_1
           replace hx112_2 := cb_ HB hx112_2
           replace hx112_3 := cb_ HB hx112_3
           replace hx112_4 := cb_ HB hx112_4
           replace hx112_5 := cb_ HB hx112_5
           have HR112_4 := Aside0.mk hi112_4
           have HC112_4 := Aside0.mk hl112_4
           clear hi112_4 hl112_4
           replace p112 := eq_true p112
           replace q112 := eq_true q112
           have ea_ := Option.some.inj (hx106_4.symm.trans hx112_4)
           injection ea_ with ea_ en_ ec_
           subst ea_
           subst ec_
           clear en_
           refine start_ (n := 52) (S := fun w' => w'.cell? (ad106.add ((x3_1).toNat * 6)) = some (.int .i64 ((rd_T88 l0 x3_1).f0)) ∧ w'.cell? ⟨(ad106.add ((x3_1).toNat * 6)).block, (ad106.add ((x3_1).toNat * 6)).off + 1, none⟩ = some (.int .i64 ((rd_T88 l0 x3_1).f1)) ∧ w'.cell? ⟨(ad106.add ((x3_1).toNat * 6)).block, (ad106.add ((x3_1).toNat * 6)).off + 2, none⟩ = some (.int .i64 ((rd_T88 l0 x3_1).f2.f0)) ∧ w'.cell? ⟨(ad106.add ((x3_1).toNat * 6)).block, (ad106.add ((x3_1).toNat * 6)).off + 3, none⟩ = some (.int .i64 ((rd_T88 l0 x3_1).f2.f1)) ∧ w'.cell? ⟨(ad106.add ((x3_1).toNat * 6)).block, (ad106.add ((x3_1).toNat * 6)).off + 4, none⟩ = some (.slice A106_4 ((rd_T88 l0 x3_1).f2.f2).length c106_4) ∧ w'.cell? ⟨(ad106.add ((x3_1).toNat * 6)).block, (ad106.add ((x3_1).toNat * 6)).off + 5, none⟩ = some (.int .i64 ((rd_T88 l0 x3_1).f3)) ∧ w'.cell? (ad106.add ((x3_1).toNat * 6)) = some (.int .i64 ((rd_T88 l0 x3_1).f0)) ∧ w'.cell? ⟨(ad106.add ((x3_1).toNat * 6)).block, (ad106.add ((x3_1).toNat * 6)).off + 1, none⟩ = some (.int .i64 ((rd_T88 l0 x3_1).f1)) ∧ w'.cell? ⟨(ad106.add ((x3_1).toNat * 6)).block, (ad106.add ((x3_1).toNat * 6)).off + 2, none⟩ = some (.int .i64 ((rd_T88 l0 x3_1).f2.f0)) ∧ w'.cell? ⟨(ad106.add ((x3_1).toNat * 6)).block, (ad106.add ((x3_1).toNat * 6)).off + 3, none⟩ = some (.int .i64 ((rd_T88 l0 x3_1).f2.f1)) ∧ w'.cell? ⟨(ad106.add ((x3_1).toNat * 6)).block, (ad106.add ((x3_1).toNat * 6)).off + 4, none⟩ = some (.slice A106_4 ((rd_T88 l0 x3_1).f2.f2).length c106_4) ∧ w'.cell? ⟨(ad106.add ((x3_1).toNat * 6)).block, (ad106.add ((x3_1).toNat * 6)).off + 5, none⟩ = some (.int .i64 ((rd_T88 l0 x3_1).f3)) ∧ w'.cell? (ad106.add ((x3_1).toNat * 6)) = some (.int .i64 ((rd_T88 l0 x3_1).f0)) ∧ w'.cell? ⟨(ad106.add ((x3_1).toNat * 6)).block, (ad106.add ((x3_1).toNat * 6)).off + 1, none⟩ = some (.int .i64 ((rd_T88 l0 x3_1).f1)) ∧ w'.cell? ⟨(ad106.add ((x3_1).toNat * 6)).block, (ad106.add ((x3_1).toNat * 6)).off + 2, none⟩ = some (.int .i64 ((rd_T88 l0 x3_1).f2.f0)) ∧ w'.cell? ⟨(ad106.add ((x3_1).toNat * 6)).block, (ad106.add ((x3_1).toNat * 6)).off + 3, none⟩ = some (.int .i64 ((rd_T88 l0 x3_1).f2.f1)) ∧ w'.cell? ⟨(ad106.add ((x3_1).toNat * 6)).block, (ad106.add ((x3_1).toNat * 6)).off + 4, none⟩ = some (.slice A106_4 ((rd_T88 l0 x3_1).f2.f2).length c106_4) ∧ w'.cell? ⟨(ad106.add ((x3_1).toNat * 6)).block, (ad106.add ((x3_1).toNat * 6)).off + 5, none⟩ = some (.int .i64 ((rd_T88 l0 x3_1).f3)) ∧ w'.cell? (ad106.add ((x3_1).toNat * 6)) = some (.int .i64 ((rd_T88 l0 x3_1).f0)) ∧ w'.cell? ⟨(ad106.add ((x3_1).toNat * 6)).block, (ad106.add ((x3_1).toNat * 6)).off + 1, none⟩ = some (.int .i64 ((rd_T88 l0 x3_1).f1)) ∧ w'.cell? ⟨(ad106.add ((x3_1).toNat * 6)).block, (ad106.add ((x3_1).toNat * 6)).off + 2, none⟩ = some (.int .i64 ((rd_T88 l0 x3_1).f2.f0)) ∧ w'.cell? ⟨(ad106.add ((x3_1).toNat * 6)).block, (ad106.add ((x3_1).toNat * 6)).off + 3, none⟩ = some (.int .i64 ((rd_T88 l0 x3_1).f2.f1)) ∧ w'.cell? ⟨(ad106.add ((x3_1).toNat * 6)).block, (ad106.add ((x3_1).toNat * 6)).off + 4, none⟩ = some (.slice A106_4 ((rd_T88 l0 x3_1).f2.f2).length c106_4) ∧ w'.cell? ⟨(ad106.add ((x3_1).toNat * 6)).block, (ad106.add ((x3_1).toNat * 6)).off + 5, none⟩ = some (.int .i64 ((rd_T88 l0 x3_1).f3))) (ds := []) fz6_0 (by kernel_rfl) rfl rfl ⟨(cb_ HB hw106_0 :), (cb_ HB hw106_1 :), (cb_ HB hw106_2 :), (cb_ HB hw106_3 :), (cb_ HB hw106_4 :), (cb_ HB hw106_5 :), (cb_ HB hw108_0 :), (cb_ HB hw108_1 :), (cb_ HB hw108_2 :), (cb_ HB hw108_3 :), (cb_ HB hw108_4 :), (cb_ HB hw108_5 :), (cb_ HB hw110_0 :), (cb_ HB hw110_1 :), (cb_ HB hw110_2 :), (cb_ HB hw110_3 :), (cb_ HB hw110_4 :), (cb_ HB hw110_5 :), (cb_ HB hw112_0 :), (cb_ HB hw112_1 :), (cb_ HB hw112_2 :), (cb_ HB hw112_3 :), (cb_ HB hw112_4 :), (cb_ HB hw112_5 :)⟩ (fun hHeld => ?_); refine with_tabW lecternref14_May.tab6 lecternref14_May.bits6 (fun HT_ HW_ => ?_)
           generalize wr.drew = w22 at HB HR106_4 HR108_4 HR110_4 HR112_4 hx106_0 hx106_1 hx106_2 hx106_3 hx106_4 hx106_5 hx108_0 hx108_1 hx108_2 hx108_3 hx108_4 hx108_5 hx110_0 hx110_1 hx110_2 hx110_3 hx110_4 hx110_5 hx112_0 hx112_1 hx112_2 hx112_3 hx112_4 hx112_5 hHeld ⊢
           refine pure_ (i := 0) (N := some 13) (v := ?_) (a' := ?_) fz6_1 rfl rfl (any_of HT_.out (by kernel_rfl)) (fun _ _ _ h => h) (Or.inl ⟨by rfl, ?_⟩) ?_ ?_
           rotate_left
           ·intro w'
            go_simp
            with_reducible rfl
           rotate_left
           ·simp only [Act.put, sA, sB, sC, i64_w, i32_w]
            rfl
           refine pure_ (i := 1) (N := some 14) (v := ?_) (a' := ?_) fz6_2 rfl rfl (any_of HT_.out (by kernel_rfl)) (fun _ _ _ h => h) (Or.inl ⟨by rfl, ?_⟩) ?_ ?_
           rotate_left
           ·intro w'
            go_simp
            with_reducible rfl
           rotate_left
           ·simp only [Act.put, sA, sB, sC, i64_w, i32_w]
            rfl
           refine pure_ (i := 2) (N := some 15) (v := ?_) (a' := ?_) fz6_3 rfl rfl (any_of HT_.out (by kernel_rfl)) (fun _ _ _ h => h) (Or.inl ⟨by rfl, ?_⟩) ?_ ?_
           rotate_left
           ·intro w'
            go_simp
            with_reducible rfl
           rotate_left
           ·simp only [Act.put, sA, sB, sC, i64_w, i32_w]
            rfl
           refine pure_ (i := 3) (N := some 16) (v := ?_) (a' := ?_) fz6_4 rfl rfl (any_of HT_.out (by kernel_rfl)) (fun _ _ _ h => h) (Or.inl ⟨by rfl, ?_⟩) ?_ ?_
           rotate_left
           ·intro w'
            go_simp
            with_reducible rfl
           rotate_left
           ·simp only [Act.put, sA, sB, sC, i64_w, i32_w]
            rfl
           refine take_ (i := 4) (N := some 17) (v := ?_) (a' := ?_) fz6_5 rfl rfl (take_ofW HT_.out HW_.out (by kernel_rfl)) (fun _ _ _ h => h) (Or.inl ⟨by rfl, ?_⟩) hHeld ?_ ?_
           rotate_left
           ·rintro w' ⟨s0, s1, s2, s3, s4, s5, s6, s7, s8, s9, s10, s11, s12, s13, s14, s15, s16, s17, s18, s19, s20, s21, s22, s23⟩
            go_simp
            with_reducible rfl
           rotate_left
           ·simp only [Act.put, sA, sB, sC, i64_w, i32_w]
            rfl
           refine one_ (i := 5) (N := some 18) fz6_6 rfl rfl (one_of HT_.out (by kernel_rfl)) (by decide) (fun K hK => ?_)
           refine goes_ Try.func54 (by kernel_rfl) rfl #[.int .i64 ((rd_T88 l0 x3_1).f0)] (by rfl) rfl rfl (by (try simp only [List.map_toArray, List.map_cons, List.map_nil]); first | done | rfl | (simp only [List.length_drop, List.length_take]; rfl)) ?_
           with_reducible refine (lecternref14_id.calls ((rd_T88 l0 x3_1).f0) true _ A6.out).mono ?_
           rintro e w' ⟨rfl, ⟨nd, rfl⟩⟩
           refine ⟨_, rfl, ?_⟩
           refine hK.out _ _ ⟨(cb_ HB hw106_0 :), (cb_ HB hw106_1 :), (cb_ HB hw106_2 :), (cb_ HB hw106_3 :), (cb_ HB hw106_4 :), (cb_ HB hw106_5 :), (cb_ HB hw108_0 :), (cb_ HB hw108_1 :), (cb_ HB hw108_2 :), (cb_ HB hw108_3 :), (cb_ HB hw108_4 :), (cb_ HB hw108_5 :), (cb_ HB hw110_0 :), (cb_ HB hw110_1 :), (cb_ HB hw110_2 :), (cb_ HB hw110_3 :), (cb_ HB hw110_4 :), (cb_ HB hw110_5 :), (cb_ HB hw112_0 :), (cb_ HB hw112_1 :), (cb_ HB hw112_2 :), (cb_ HB hw112_3 :), (cb_ HB hw112_4 :), (cb_ HB hw112_5 :)⟩ (fun hHeld => ?_)
           clear hK K
           refine norm_ (a' := ?_) ?_ ?_
           rotate_left
           ·show Act.put _ (some 18) _ = _
            simp only [Act.put, sA, sB, sC, i64_w, i32_w]
            rfl
           refine pure_ (i := 6) (N := some 19) (v := ?_) (a' := ?_) fz6_7 rfl rfl (any_of HT_.out (by kernel_rfl)) (fun _ _ _ h => h) (Or.inl ⟨by rfl, ?_⟩) ?_ ?_
           rotate_left
           ·intro w'
            go_simp
            with_reducible rfl
           rotate_left
           ·simp only [Act.put, sA, sB, sC, i64_w, i32_w]
            rfl
           refine pure_ (i := 7) (N := some 20) (v := ?_) (a' := ?_) fz6_8 rfl rfl (any_of HT_.out (by kernel_rfl)) (fun _ _ _ h => h) (Or.inl ⟨by rfl, ?_⟩) ?_ ?_
           rotate_left
           ·intro w'
            go_simp
            with_reducible rfl
           rotate_left
           ·simp only [Act.put, sA, sB, sC, i64_w, i32_w]
            rfl
           refine pure_ (i := 8) (N := some 21) (v := ?_) (a' := ?_) fz6_9 rfl rfl (any_of HT_.out (by kernel_rfl)) (fun _ _ _ h => h) (Or.inl ⟨by rfl, ?_⟩) ?_ ?_
           rotate_left
           ·intro w'
            go_simp
            with_reducible rfl
           rotate_left
           ·simp only [Act.put, sA, sB, sC, i64_w, i32_w]
            rfl
           refine pure_ (i := 9) (N := some 22) (v := ?_) (a' := ?_) fz6_10 rfl rfl (any_of HT_.out (by kernel_rfl)) (fun _ _ _ h => h) (Or.inl ⟨by rfl, ?_⟩) ?_ ?_
           rotate_left
           ·intro w'
            go_simp
            with_reducible rfl
           rotate_left
           ·simp only [Act.put, sA, sB, sC, i64_w, i32_w]
            rfl
           refine pure_ (i := 10) (N := some 23) (v := ?_) (a' := ?_) fz6_11 rfl rfl (any_of HT_.out (by kernel_rfl)) (fun _ _ _ h => h) (Or.inl ⟨by rfl, ?_⟩) ?_ ?_
           rotate_left
           ·intro w'
            go_simp
            with_reducible rfl
           rotate_left
           ·simp only [Act.put, sA, sB, sC, i64_w, i32_w]
            rfl
           refine pure_ (i := 11) (N := some 24) (v := ?_) (a' := ?_) fz6_12 rfl rfl (any_of HT_.out (by kernel_rfl)) (fun _ _ _ h => h) (Or.inl ⟨by rfl, ?_⟩) ?_ ?_
           rotate_left
           ·intro w'
            go_simp
            with_reducible rfl
           rotate_left
           ·simp only [Act.put, sA, sB, sC, i64_w, i32_w]
            rfl
           refine take_ (i := 12) (N := some 25) (v := ?_) (a' := ?_) fz6_13 rfl rfl (take_ofW HT_.out HW_.out (by kernel_rfl)) (fun _ _ _ h => h) (Or.inl ⟨by rfl, ?_⟩) hHeld ?_ ?_
           rotate_left
           ·rintro w' ⟨s0, s1, s2, s3, s4, s5, s6, s7, s8, s9, s10, s11, s12, s13, s14, s15, s16, s17, s18, s19, s20, s21, s22, s23⟩
            go_simp
            with_reducible rfl
           rotate_left
           ·simp only [Act.put, sA, sB, sC, i64_w, i32_w]
            rfl
           refine one_ (i := 13) (N := some 26) fz6_14 rfl rfl (one_of HT_.out (by kernel_rfl)) (by decide) (fun K hK => ?_)
           refine goes_ Try.func55 (by kernel_rfl) rfl #[.int .i64 ((rd_T88 l0 x3_1).f1)] (by rfl) rfl rfl (by (try simp only [List.map_toArray, List.map_cons, List.map_nil]); first | done | rfl | (simp only [List.length_drop, List.length_take]; rfl)) ?_
           with_reducible refine (lecternref0_Num.calls ((rd_T88 l0 x3_1).f1) true _ A8.out).mono ?_
           rintro e w' ⟨rfl, ⟨nd, rfl⟩⟩
           refine ⟨_, rfl, ?_⟩
           refine hK.out _ _ ⟨(cb_ HB hw106_0 :), (cb_ HB hw106_1 :), (cb_ HB hw106_2 :), (cb_ HB hw106_3 :), (cb_ HB hw106_4 :), (cb_ HB hw106_5 :), (cb_ HB hw108_0 :), (cb_ HB hw108_1 :), (cb_ HB hw108_2 :), (cb_ HB hw108_3 :), (cb_ HB hw108_4 :), (cb_ HB hw108_5 :), (cb_ HB hw110_0 :), (cb_ HB hw110_1 :), (cb_ HB hw110_2 :), (cb_ HB hw110_3 :), (cb_ HB hw110_4 :), (cb_ HB hw110_5 :), (cb_ HB hw112_0 :), (cb_ HB hw112_1 :), (cb_ HB hw112_2 :), (cb_ HB hw112_3 :), (cb_ HB hw112_4 :), (cb_ HB hw112_5 :)⟩ (fun hHeld => ?_)
           clear hK K
           refine norm_ (a' := ?_) ?_ ?_
           rotate_left
           ·show Act.put _ (some 26) _ = _
            simp only [Act.put, sA, sB, sC, i64_w, i32_w]
            rfl
           refine pure_ (i := 14) (N := some 27) (v := ?_) (a' := ?_) fz6_15 rfl rfl (any_of HT_.out (by kernel_rfl)) (fun _ _ _ h => h) (Or.inl ⟨by rfl, ?_⟩) ?_ ?_
           rotate_left
           ·intro w'
            go_simp
            with_reducible rfl
           rotate_left
           ·simp only [Act.put, sA, sB, sC, i64_w, i32_w]
            rfl
           refine pure_ (i := 15) (N := some 28) (v := ?_) (a' := ?_) fz6_16 rfl rfl (any_of HT_.out (by kernel_rfl)) (fun _ _ _ h => h) (Or.inl ⟨by rfl, ?_⟩) ?_ ?_
           rotate_left
           ·intro w'
            go_simp
            with_reducible rfl
           rotate_left
           ·simp only [Act.put, sA, sB, sC, i64_w, i32_w]
            rfl
           refine pure_ (i := 16) (N := some 29) (v := ?_) (a' := ?_) fz6_17 rfl rfl (any_of HT_.out (by kernel_rfl)) (fun _ _ _ h => h) (Or.inl ⟨by rfl, ?_⟩) ?_ ?_
           rotate_left
           ·intro w'
            go_simp
            with_reducible rfl
           rotate_left
           ·simp only [Act.put, sA, sB, sC, i64_w, i32_w]
            rfl
           refine pure_ (i := 17) (N := some 30) (v := ?_) (a' := ?_) fz6_18 rfl rfl (any_of HT_.out (by kernel_rfl)) (fun _ _ _ h => h) (Or.inl ⟨by rfl, ?_⟩) ?_ ?_
           rotate_left
           ·intro w'
            go_simp
            with_reducible rfl
           rotate_left
           ·simp only [Act.put, sA, sB, sC, i64_w, i32_w]
            rfl
           refine pure_ (i := 18) (N := some 31) (v := ?_) (a' := ?_) fz6_19 rfl rfl (any_of HT_.out (by kernel_rfl)) (fun _ _ _ h => h) (Or.inl ⟨by rfl, ?_⟩) ?_ ?_
           rotate_left
           ·intro w'
            go_simp
            with_reducible rfl
           rotate_left
           ·simp only [Act.put, sA, sB, sC, i64_w, i32_w]
            rfl
           refine pure_ (i := 19) (N := some 32) (v := ?_) (a' := ?_) fz6_20 rfl rfl (any_of HT_.out (by kernel_rfl)) (fun _ _ _ h => h) (Or.inl ⟨by rfl, ?_⟩) ?_ ?_
           rotate_left
           ·intro w'
            go_simp
            with_reducible rfl
           rotate_left
           ·simp only [Act.put, sA, sB, sC, i64_w, i32_w]
            rfl
           refine pure_ (i := 20) (N := some 33) (v := ?_) (a' := ?_) fz6_21 rfl rfl (any_of HT_.out (by kernel_rfl)) (fun _ _ _ h => h) (Or.inl ⟨by rfl, ?_⟩) ?_ ?_
           rotate_left
           ·intro w'
            go_simp
            with_reducible rfl
           rotate_left
           ·simp only [Act.put, sA, sB, sC, i64_w, i32_w]
            rfl
           refine take_ (i := 21) (N := some 34) (v := ?_) (a' := ?_) fz6_22 rfl rfl (take_ofW HT_.out HW_.out (by kernel_rfl)) (fun _ _ _ h => h) (Or.inl ⟨by rfl, ?_⟩) hHeld ?_ ?_
           rotate_left
           ·rintro w' ⟨s0, s1, s2, s3, s4, s5, s6, s7, s8, s9, s10, s11, s12, s13, s14, s15, s16, s17, s18, s19, s20, s21, s22, s23⟩
            go_simp
            with_reducible rfl
           rotate_left
           ·simp only [Act.put, sA, sB, sC, i64_w, i32_w]
            rfl
           refine one_ (i := 22) (N := some 35) fz6_23 rfl rfl (one_of HT_.out (by kernel_rfl)) (by decide) (fun K hK => ?_)
           refine goes_ Try.func55 (by kernel_rfl) rfl #[.int .i64 ((rd_T88 l0 x3_1).f3)] (by rfl) rfl rfl (by (try simp only [List.map_toArray, List.map_cons, List.map_nil]); first | done | rfl | (simp only [List.length_drop, List.length_take]; rfl)) ?_
           with_reducible refine (lecternref0_Num.calls ((rd_T88 l0 x3_1).f3) true _ A10.out).mono ?_
           rintro e w' ⟨rfl, ⟨nd, rfl⟩⟩
           refine ⟨_, rfl, ?_⟩
           refine hK.out _ _ ⟨(cb_ HB hw106_0 :), (cb_ HB hw106_1 :), (cb_ HB hw106_2 :), (cb_ HB hw106_3 :), (cb_ HB hw106_4 :), (cb_ HB hw106_5 :), (cb_ HB hw108_0 :), (cb_ HB hw108_1 :), (cb_ HB hw108_2 :), (cb_ HB hw108_3 :), (cb_ HB hw108_4 :), (cb_ HB hw108_5 :), (cb_ HB hw110_0 :), (cb_ HB hw110_1 :), (cb_ HB hw110_2 :), (cb_ HB hw110_3 :), (cb_ HB hw110_4 :), (cb_ HB hw110_5 :), (cb_ HB hw112_0 :), (cb_ HB hw112_1 :), (cb_ HB hw112_2 :), (cb_ HB hw112_3 :), (cb_ HB hw112_4 :), (cb_ HB hw112_5 :)⟩ (fun hHeld => ?_)
           clear hK K
           refine norm_ (a' := ?_) ?_ ?_
           rotate_left
           ·show Act.put _ (some 35) _ = _
            simp only [Act.put, sA, sB, sC, i64_w, i32_w]
            rfl
           refine pure_ (i := 23) (N := some 36) (v := ?_) (a' := ?_) fz6_24 rfl rfl (any_of HT_.out (by kernel_rfl)) (fun _ _ _ h => h) (Or.inl ⟨by rfl, ?_⟩) ?_ ?_
           rotate_left
           ·intro w'
            go_simp
            with_reducible rfl
           rotate_left
           ·simp only [Act.put, sA, sB, sC, i64_w, i32_w]
            rfl
           refine pure_ (i := 24) (N := some 37) (v := ?_) (a' := ?_) fz6_25 rfl rfl (any_of HT_.out (by kernel_rfl)) (fun _ _ _ h => h) (Or.inl ⟨by rfl, ?_⟩) ?_ ?_
           rotate_left
           ·intro w'
            go_simp
            with_reducible rfl
           rotate_left
           ·simp only [Act.put, sA, sB, sC, i64_w, i32_w]
            rfl
           refine pure_ (i := 25) (N := some 38) (v := ?_) (a' := ?_) fz6_26 rfl rfl (any_of HT_.out (by kernel_rfl)) (fun _ _ _ h => h) (Or.inl ⟨by rfl, ?_⟩) ?_ ?_
           rotate_left
           ·intro w'
            go_simp
            with_reducible rfl
           rotate_left
           ·simp only [Act.put, sA, sB, sC, i64_w, i32_w]
            rfl
           refine pure_ (i := 26) (N := some 39) (v := ?_) (a' := ?_) fz6_27 rfl rfl (any_of HT_.out (by kernel_rfl)) (fun _ _ _ h => h) (Or.inl ⟨by rfl, ?_⟩) ?_ ?_
           rotate_left
           ·intro w'
            go_simp
            with_reducible rfl
           rotate_left
           ·simp only [Act.put, sA, sB, sC, i64_w, i32_w]
            rfl
           refine pure_ (i := 27) (N := some 40) (v := ?_) (a' := ?_) fz6_28 rfl rfl (any_of HT_.out (by kernel_rfl)) (fun _ _ _ h => h) (Or.inl ⟨by rfl, ?_⟩) ?_ ?_
           rotate_left
           ·intro w'
            go_simp
            with_reducible rfl
           rotate_left
           ·simp only [Act.put, sA, sB, sC, i64_w, i32_w]
            rfl
           refine pure_ (i := 28) (N := some 41) (v := ?_) (a' := ?_) fz6_29 rfl rfl (any_of HT_.out (by kernel_rfl)) (fun _ _ _ h => h) (Or.inl ⟨by rfl, ?_⟩) ?_ ?_
           rotate_left
           ·intro w'
            go_simp
            with_reducible rfl
           rotate_left
           ·simp only [Act.put, sA, sB, sC, i64_w, i32_w]
            rfl
           refine pure_ (i := 29) (N := some 42) (v := ?_) (a' := ?_) fz6_30 rfl rfl (any_of HT_.out (by kernel_rfl)) (fun _ _ _ h => h) (Or.inl ⟨by rfl, ?_⟩) ?_ ?_
           rotate_left
           ·intro w'
            go_simp
            with_reducible rfl
           rotate_left
           ·simp only [Act.put, sA, sB, sC, i64_w, i32_w]
            rfl
           refine take_ (i := 30) (N := some 43) (v := ?_) (a' := ?_) fz6_31 rfl rfl (take_ofW HT_.out HW_.out (by kernel_rfl)) (fun _ _ _ h => h) (Or.inl ⟨by rfl, ?_⟩) hHeld ?_ ?_
           rotate_left
           ·rintro w' ⟨s0, s1, s2, s3, s4, s5, s6, s7, s8, s9, s10, s11, s12, s13, s14, s15, s16, s17, s18, s19, s20, s21, s22, s23⟩
            go_simp
            with_reducible rfl
           rotate_left
           ·simp only [Act.put, sA, sB, sC, i64_w, i32_w]
            rfl
           refine one_ (i := 31) (N := some 44) fz6_32 rfl rfl (one_of HT_.out (by kernel_rfl)) (by decide) (fun K hK => ?_)
           refine goes_ Try.func56 (by kernel_rfl) rfl #[.agg #[.int .i64 ((rd_T88 l0 x3_1).f2.f0), .int .i64 ((rd_T88 l0 x3_1).f2.f1), .slice A106_4 ((rd_T88 l0 x3_1).f2.f2).length c106_4]] (by rfl) rfl rfl (by (try simp only [List.map_toArray, List.map_cons, List.map_nil]); first | done | rfl | (simp only [List.length_drop, List.length_take]; rfl)) ?_
           with_reducible refine (lecternref14_MayReply.calls ((rd_T88 l0 x3_1).f2.f0) ((rd_T88 l0 x3_1).f2.f1) _ _ ((rd_T88 l0 x3_1).f2.f2) false _ ?side1 ?side2 A12.out).mono ?_
           (case side1 => repeat (first | exact (Kd.C_below HR112_4.out (by repeat (first | (with_reducible first | exact HB.out | apply below_alloc | apply pw_below_drewN | apply below_drew1) | exact HB.out))) | (with_reducible refine Kd.C_alloc ?_ _) | (with_reducible refine Kd.C_drewN ?_ _) | (with_reducible refine Kd.C_drew ?_)))
           (case side2 => exact HC112_4.out)
           rintro e w23 ⟨rfl, hb⟩
           refine ⟨_, rfl, ?_⟩
           have n0_ := Aside0.mk (below_step (by repeat (first | (with_reducible first | exact HB.out | apply below_alloc | apply pw_below_drewN | apply below_drew1) | exact HB.out)) hb)
           clear HB
           have HB := n0_
           clear n0_
           (try clear hb)
           (try clear hb2)
           (try clear hk)
           (try clear hi)
           refine hK.out _ _ ⟨(cb_ HB hw106_0 :), (cb_ HB hw106_1 :), (cb_ HB hw106_2 :), (cb_ HB hw106_3 :), (cb_ HB hw106_4 :), (cb_ HB hw106_5 :), (cb_ HB hw108_0 :), (cb_ HB hw108_1 :), (cb_ HB hw108_2 :), (cb_ HB hw108_3 :), (cb_ HB hw108_4 :), (cb_ HB hw108_5 :), (cb_ HB hw110_0 :), (cb_ HB hw110_1 :), (cb_ HB hw110_2 :), (cb_ HB hw110_3 :), (cb_ HB hw110_4 :), (cb_ HB hw110_5 :), (cb_ HB hw112_0 :), (cb_ HB hw112_1 :), (cb_ HB hw112_2 :), (cb_ HB hw112_3 :), (cb_ HB hw112_4 :), (cb_ HB hw112_5 :)⟩ (fun hHeld => ?_)
           clear hK K
           refine norm_ (a' := ?_) ?_ ?_
           rotate_left
           ·show Act.put _ (some 44) _ = _
            simp only [Act.put, sA, sB, sC, i64_w, i32_w]
            rfl
           refine pure_ (i := 32) (N := some 45) (v := ?_) (a' := ?_) fz6_33 rfl rfl (any_of HT_.out (by kernel_rfl)) (fun _ _ _ h => h) (Or.inl ⟨by rfl, ?_⟩) ?_ ?_
           rotate_left
           ·intro w'
            go_simp
            with_reducible rfl
           rotate_left
           ·simp only [Act.put, sA, sB, sC, i64_w, i32_w]
            rfl
           refine pure_ (i := 33) (N := some 46) (v := ?_) (a' := ?_) fz6_34 rfl rfl (any_of HT_.out (by kernel_rfl)) (fun _ _ _ h => h) (Or.inl ⟨by rfl, ?_⟩) ?_ ?_
           rotate_left
           ·intro w'
            go_simp
            with_reducible rfl
           rotate_left
           ·simp only [Act.put, sA, sB, sC, i64_w, i32_w]
            rfl
           refine pure_ (i := 34) (N := some 47) (v := ?_) (a' := ?_) fz6_35 rfl rfl (any_of HT_.out (by kernel_rfl)) (fun _ _ _ h => h) (Or.inl ⟨by rfl, ?_⟩) ?_ ?_
           rotate_left
           ·intro w'
            go_simp
            with_reducible rfl
           rotate_left
           ·simp only [Act.put, sA, sB, sC, i64_w, i32_w]
            rfl
           refine pure_ (i := 35) (N := some 48) (v := undef) (a' := ?_) fz6_36 rfl rfl (any_of HT_.out (by kernel_rfl)) (fun _ _ _ h => h) (Or.inr ⟨by rfl, rfl⟩) ?_ ?_
           rotate_left
           ·simp only [Act.put, sA, sB, sC, i64_w, i32_w]
            rfl
           refine pure_ (i := 36) (N := some 49) (v := undef) (a' := ?_) fz6_37 rfl rfl (any_of HT_.out (by kernel_rfl)) (fun _ _ _ h => h) (Or.inr ⟨by rfl, rfl⟩) ?_ ?_
           rotate_left
           ·simp only [Act.put, sA, sB, sC, i64_w, i32_w]
            rfl
           refine pure_ (i := 37) (N := some 50) (v := undef) (a' := ?_) fz6_38 rfl rfl (any_of HT_.out (by kernel_rfl)) (fun _ _ _ h => h) (Or.inr ⟨by rfl, rfl⟩) ?_ ?_
           rotate_left
           ·simp only [Act.put, sA, sB, sC, i64_w, i32_w]
            rfl
           refine pure_ (i := 38) (N := some 51) (v := undef) (a' := ?_) fz6_39 rfl rfl (any_of HT_.out (by kernel_rfl)) (fun _ _ _ h => h) (Or.inr ⟨by rfl, rfl⟩) ?_ ?_
           rotate_left
           ·simp only [Act.put, sA, sB, sC, i64_w, i32_w]
            rfl
           refine pure_ (i := 39) (N := some 52) (v := undef) (a' := ?_) fz6_40 rfl rfl (any_of HT_.out (by kernel_rfl)) (fun _ _ _ h => h) (Or.inr ⟨by rfl, rfl⟩) ?_ ?_
           rotate_left
           ·simp only [Act.put, sA, sB, sC, i64_w, i32_w]
            rfl
           refine pure_ (i := 40) (N := some 53) (v := undef) (a' := ?_) fz6_41 rfl rfl (any_of HT_.out (by kernel_rfl)) (fun _ _ _ h => h) (Or.inr ⟨by rfl, rfl⟩) ?_ ?_
           rotate_left
           ·simp only [Act.put, sA, sB, sC, i64_w, i32_w]
            rfl
           refine pure_ (i := 41) (N := some 54) (v := undef) (a' := ?_) fz6_42 rfl rfl (any_of HT_.out (by kernel_rfl)) (fun _ _ _ h => h) (Or.inr ⟨by rfl, rfl⟩) ?_ ?_
           rotate_left
           ·simp only [Act.put, sA, sB, sC, i64_w, i32_w]
            rfl
           refine pure_ (i := 42) (N := some 55) (v := undef) (a' := ?_) fz6_43 rfl rfl (any_of HT_.out (by kernel_rfl)) (fun _ _ _ h => h) (Or.inr ⟨by rfl, rfl⟩) ?_ ?_
           rotate_left
           ·simp only [Act.put, sA, sB, sC, i64_w, i32_w]
            rfl
           refine pure_ (i := 43) (N := some 56) (v := undef) (a' := ?_) fz6_44 rfl rfl (any_of HT_.out (by kernel_rfl)) (fun _ _ _ h => h) (Or.inr ⟨by rfl, rfl⟩) ?_ ?_
           rotate_left
           ·simp only [Act.put, sA, sB, sC, i64_w, i32_w]
            rfl
           refine pure_ (i := 44) (N := some 57) (v := undef) (a' := ?_) fz6_45 rfl rfl (any_of HT_.out (by kernel_rfl)) (fun _ _ _ h => h) (Or.inr ⟨by rfl, rfl⟩) ?_ ?_
           rotate_left
           ·simp only [Act.put, sA, sB, sC, i64_w, i32_w]
            rfl
           refine pure_ (i := 45) (N := some 58) (v := undef) (a' := ?_) fz6_46 rfl rfl (any_of HT_.out (by kernel_rfl)) (fun _ _ _ h => h) (Or.inr ⟨by rfl, rfl⟩) ?_ ?_
           rotate_left
           ·simp only [Act.put, sA, sB, sC, i64_w, i32_w]
            rfl
           refine pure_ (i := 46) (N := some 59) (v := undef) (a' := ?_) fz6_47 rfl rfl (any_of HT_.out (by kernel_rfl)) (fun _ _ _ h => h) (Or.inr ⟨by rfl, rfl⟩) ?_ ?_
           rotate_left
           ·simp only [Act.put, sA, sB, sC, i64_w, i32_w]
            rfl
           refine pure_ (i := 47) (N := some 60) (v := undef) (a' := ?_) fz6_48 rfl rfl (any_of HT_.out (by kernel_rfl)) (fun _ _ _ h => h) (Or.inr ⟨by rfl, rfl⟩) ?_ ?_
           rotate_left
           ·simp only [Act.put, sA, sB, sC, i64_w, i32_w]
            rfl
           refine pure_ (i := 48) (N := some 61) (v := undef) (a' := ?_) fz6_49 rfl rfl (any_of HT_.out (by kernel_rfl)) (fun _ _ _ h => h) (Or.inr ⟨by rfl, rfl⟩) ?_ ?_
           rotate_left
           ·simp only [Act.put, sA, sB, sC, i64_w, i32_w]
            rfl
           refine pure_ (i := 49) (N := some 62) (v := undef) (a' := ?_) fz6_50 rfl rfl (any_of HT_.out (by kernel_rfl)) (fun _ _ _ h => h) (Or.inr ⟨by rfl, rfl⟩) ?_ ?_
           rotate_left
           ·simp only [Act.put, sA, sB, sC, i64_w, i32_w]
            rfl
           refine pure_ (i := 50) (N := some 63) (v := undef) (a' := ?_) fz6_51 rfl rfl (any_of HT_.out (by kernel_rfl)) (fun _ _ _ h => h) (Or.inr ⟨by rfl, rfl⟩) ?_ ?_
           rotate_left
           ·simp only [Act.put, sA, sB, sC, i64_w, i32_w]
            rfl
           refine pure_ (i := 51) (N := some 64) (v := ?_) (a' := ?_) fz6_52 rfl rfl (any_of HT_.out (by kernel_rfl)) (fun _ _ _ h => h) (Or.inl ⟨by rfl, ?_⟩) ?_ ?_
           rotate_left
           ·intro w'
            go_simp
            with_reducible rfl
           rotate_left
           ·simp only [Act.put, sA, sB, sC, i64_w, i32_w]
            rfl
           refine done_ (done_of HT_.out (by kernel_rfl)) ?_
           try go_wp2
           go_meet
           case rel => exact ⟨_, (true), (by first | rfl | (simp; done) | (simp [*]; done)), H', ⟨by have := HK1.out; first | omega | exact Nat.le_refl _⟩, ⟨by repeat (first | (with_reducible first | exact HB.out | apply below_alloc | apply pw_below_drewN | apply below_drew1) | exact HB.out)⟩⟩
         ·replace c11 := Bool.eq_false_iff.mpr c11
          subst c11
          have H1 : (lecternref14_May.j1 k1 l0 x3_1 true) = some r := by rw [if_neg (show ¬ (false = true) by decide)] at H; exact H
          clear H
          have H := H1
          clear H1
          have H' := Aside0.mk H
          clear H
          try go_wp2
          have n0_ := Aside0.mk (below_drew1 HB.out)
          clear HB
          have HB := n0_
          clear n0_
          have p106 : 0 ≤ (x3_1 : Int) := of_decide_eq_true (by assumption)
          have q106 : x3_1 < (l0.length : Int) := of_decide_eq_true (by assumption)
          obtain ⟨ad106, A106_4, c106_4, e106, hx106_0, hx106_1, hx106_2, hx106_3, hx106_4, hx106_5, hl106_4, hi106_4⟩ := at_T88 HR0.out x3_1 p106 q106
          have hw106_5 := hx106_5
          have hw106_4 := hx106_4
          have hw106_3 := hx106_3
          have hw106_2 := hx106_2
          have hw106_1 := hx106_1
          have hw106_0 := hx106_0
          cases e106
          replace hx106_0 := cb_ HB hx106_0
          replace hx106_1 := cb_ HB hx106_1
          replace hx106_2 := cb_ HB hx106_2
          replace hx106_3 := cb_ HB hx106_3
          replace hx106_4 := cb_ HB hx106_4
          replace hx106_5 := cb_ HB hx106_5
          have HR106_4 := Aside0.mk hi106_4
          have HC106_4 := Aside0.mk hl106_4
          clear hi106_4 hl106_4
          replace p106 := eq_true p106
          replace q106 := eq_true q106
          have p108 : 0 ≤ (x3_1 : Int) := of_decide_eq_true (by assumption)
          have q108 : x3_1 < (l0.length : Int) := of_decide_eq_true (by assumption)
          obtain ⟨ad108, A108_4, c108_4, e108, hx108_0, hx108_1, hx108_2, hx108_3, hx108_4, hx108_5, hl108_4, hi108_4⟩ := at_T88 HR0.out x3_1 p108 q108
          have hw108_5 := hx108_5
          have hw108_4 := hx108_4
          have hw108_3 := hx108_3
          have hw108_2 := hx108_2
          have hw108_1 := hx108_1
          have hw108_0 := hx108_0
          obtain rfl : ad106 = ad108 := (by injection e108)
          replace hx108_0 := cb_ HB hx108_0
          replace hx108_1 := cb_ HB hx108_1
          replace hx108_2 := cb_ HB hx108_2
          replace hx108_3 := cb_ HB hx108_3
          replace hx108_4 := cb_ HB hx108_4
          replace hx108_5 := cb_ HB hx108_5
          have HR108_4 := Aside0.mk hi108_4
          have HC108_4 := Aside0.mk hl108_4
          clear hi108_4 hl108_4
          replace p108 := eq_true p108
          replace q108 := eq_true q108
          have ea_ := Option.some.inj (hx106_4.symm.trans hx108_4)
          injection ea_ with ea_ en_ ec_
          subst ea_
          subst ec_
          clear en_
          have p110 : 0 ≤ (x3_1 : Int) := of_decide_eq_true (by assumption)
          have q110 : x3_1 < (l0.length : Int) := of_decide_eq_true (by assumption)
          obtain ⟨ad110, A110_4, c110_4, e110, hx110_0, hx110_1, hx110_2, hx110_3, hx110_4, hx110_5, hl110_4, hi110_4⟩ := at_T88 HR0.out x3_1 p110 q110
          have hw110_5 := hx110_5
          have hw110_4 := hx110_4
          have hw110_3 := hx110_3
          have hw110_2 := hx110_2
          have hw110_1 := hx110_1
          have hw110_0 := hx110_0
          obtain rfl : ad106 = ad110 := (by injection e110)
          replace hx110_0 := cb_ HB hx110_0
          replace hx110_1 := cb_ HB hx110_1
          replace hx110_2 := cb_ HB hx110_2
          replace hx110_3 := cb_ HB hx110_3
          replace hx110_4 := cb_ HB hx110_4
          replace hx110_5 := cb_ HB hx110_5
          have HR110_4 := Aside0.mk hi110_4
          have HC110_4 := Aside0.mk hl110_4
          clear hi110_4 hl110_4
          replace p110 := eq_true p110
          replace q110 := eq_true q110
          have ea_ := Option.some.inj (hx106_4.symm.trans hx110_4)
          injection ea_ with ea_ en_ ec_
          subst ea_
          subst ec_
          clear en_
          refine start_ (n := 52) (S := fun w' => w'.cell? (ad106.add ((x3_1).toNat * 6)) = some (.int .i64 ((rd_T88 l0 x3_1).f0)) ∧ w'.cell? ⟨(ad106.add ((x3_1).toNat * 6)).block, (ad106.add ((x3_1).toNat * 6)).off + 1, none⟩ = some (.int .i64 ((rd_T88 l0 x3_1).f1)) ∧ w'.cell? ⟨(ad106.add ((x3_1).toNat * 6)).block, (ad106.add ((x3_1).toNat * 6)).off + 2, none⟩ = some (.int .i64 ((rd_T88 l0 x3_1).f2.f0)) ∧ w'.cell? ⟨(ad106.add ((x3_1).toNat * 6)).block, (ad106.add ((x3_1).toNat * 6)).off + 3, none⟩ = some (.int .i64 ((rd_T88 l0 x3_1).f2.f1)) ∧ w'.cell? ⟨(ad106.add ((x3_1).toNat * 6)).block, (ad106.add ((x3_1).toNat * 6)).off + 4, none⟩ = some (.slice A106_4 ((rd_T88 l0 x3_1).f2.f2).length c106_4) ∧ w'.cell? ⟨(ad106.add ((x3_1).toNat * 6)).block, (ad106.add ((x3_1).toNat * 6)).off + 5, none⟩ = some (.int .i64 ((rd_T88 l0 x3_1).f3)) ∧ w'.cell? (ad106.add ((x3_1).toNat * 6)) = some (.int .i64 ((rd_T88 l0 x3_1).f0)) ∧ w'.cell? ⟨(ad106.add ((x3_1).toNat * 6)).block, (ad106.add ((x3_1).toNat * 6)).off + 1, none⟩ = some (.int .i64 ((rd_T88 l0 x3_1).f1)) ∧ w'.cell? ⟨(ad106.add ((x3_1).toNat * 6)).block, (ad106.add ((x3_1).toNat * 6)).off + 2, none⟩ = some (.int .i64 ((rd_T88 l0 x3_1).f2.f0)) ∧ w'.cell? ⟨(ad106.add ((x3_1).toNat * 6)).block, (ad106.add ((x3_1).toNat * 6)).off + 3, none⟩ = some (.int .i64 ((rd_T88 l0 x3_1).f2.f1)) ∧ w'.cell? ⟨(ad106.add ((x3_1).toNat * 6)).block, (ad106.add ((x3_1).toNat * 6)).off + 4, none⟩ = some (.slice A106_4 ((rd_T88 l0 x3_1).f2.f2).length c106_4) ∧ w'.cell? ⟨(ad106.add ((x3_1).toNat * 6)).block, (ad106.add ((x3_1).toNat * 6)).off + 5, none⟩ = some (.int .i64 ((rd_T88 l0 x3_1).f3)) ∧ w'.cell? (ad106.add ((x3_1).toNat * 6)) = some (.int .i64 ((rd_T88 l0 x3_1).f0)) ∧ w'.cell? ⟨(ad106.add ((x3_1).toNat * 6)).block, (ad106.add ((x3_1).toNat * 6)).off + 1, none⟩ = some (.int .i64 ((rd_T88 l0 x3_1).f1)) ∧ w'.cell? ⟨(ad106.add ((x3_1).toNat * 6)).block, (ad106.add ((x3_1).toNat * 6)).off + 2, none⟩ = some (.int .i64 ((rd_T88 l0 x3_1).f2.f0)) ∧ w'.cell? ⟨(ad106.add ((x3_1).toNat * 6)).block, (ad106.add ((x3_1).toNat * 6)).off + 3, none⟩ = some (.int .i64 ((rd_T88 l0 x3_1).f2.f1)) ∧ w'.cell? ⟨(ad106.add ((x3_1).toNat * 6)).block, (ad106.add ((x3_1).toNat * 6)).off + 4, none⟩ = some (.slice A106_4 ((rd_T88 l0 x3_1).f2.f2).length c106_4) ∧ w'.cell? ⟨(ad106.add ((x3_1).toNat * 6)).block, (ad106.add ((x3_1).toNat * 6)).off + 5, none⟩ = some (.int .i64 ((rd_T88 l0 x3_1).f3))) (ds := []) fz6_0 (by kernel_rfl) rfl rfl ⟨(cb_ HB hw106_0 :), (cb_ HB hw106_1 :), (cb_ HB hw106_2 :), (cb_ HB hw106_3 :), (cb_ HB hw106_4 :), (cb_ HB hw106_5 :), (cb_ HB hw108_0 :), (cb_ HB hw108_1 :), (cb_ HB hw108_2 :), (cb_ HB hw108_3 :), (cb_ HB hw108_4 :), (cb_ HB hw108_5 :), (cb_ HB hw110_0 :), (cb_ HB hw110_1 :), (cb_ HB hw110_2 :), (cb_ HB hw110_3 :), (cb_ HB hw110_4 :), (cb_ HB hw110_5 :)⟩ (fun hHeld => ?_); refine with_tabW lecternref14_May.tab6 lecternref14_May.bits6 (fun HT_ HW_ => ?_)
          generalize wr.drew = w24 at HB HR106_4 HR108_4 HR110_4 hx106_0 hx106_1 hx106_2 hx106_3 hx106_4 hx106_5 hx108_0 hx108_1 hx108_2 hx108_3 hx108_4 hx108_5 hx110_0 hx110_1 hx110_2 hx110_3 hx110_4 hx110_5 hHeld ⊢
          refine pure_ (i := 0) (N := some 13) (v := ?_) (a' := ?_) fz6_1 rfl rfl (any_of HT_.out (by kernel_rfl)) (fun _ _ _ h => h) (Or.inl ⟨by rfl, ?_⟩) ?_ ?_
          rotate_left
          ·intro w'
           go_simp
           with_reducible rfl
          rotate_left
          ·simp only [Act.put, sA, sB, sC, i64_w, i32_w]
           rfl
          refine pure_ (i := 1) (N := some 14) (v := ?_) (a' := ?_) fz6_2 rfl rfl (any_of HT_.out (by kernel_rfl)) (fun _ _ _ h => h) (Or.inl ⟨by rfl, ?_⟩) ?_ ?_
          rotate_left
          ·intro w'
           go_simp
           with_reducible rfl
          rotate_left
          ·simp only [Act.put, sA, sB, sC, i64_w, i32_w]
           rfl
          refine pure_ (i := 2) (N := some 15) (v := ?_) (a' := ?_) fz6_3 rfl rfl (any_of HT_.out (by kernel_rfl)) (fun _ _ _ h => h) (Or.inl ⟨by rfl, ?_⟩) ?_ ?_
          rotate_left
          ·intro w'
           go_simp
           with_reducible rfl
          rotate_left
          ·simp only [Act.put, sA, sB, sC, i64_w, i32_w]
           rfl
          refine pure_ (i := 3) (N := some 16) (v := ?_) (a' := ?_) fz6_4 rfl rfl (any_of HT_.out (by kernel_rfl)) (fun _ _ _ h => h) (Or.inl ⟨by rfl, ?_⟩) ?_ ?_
          rotate_left
          ·intro w'
           go_simp
           with_reducible rfl
          rotate_left
          ·simp only [Act.put, sA, sB, sC, i64_w, i32_w]
           rfl
          refine take_ (i := 4) (N := some 17) (v := ?_) (a' := ?_) fz6_5 rfl rfl (take_ofW HT_.out HW_.out (by kernel_rfl)) (fun _ _ _ h => h) (Or.inl ⟨by rfl, ?_⟩) hHeld ?_ ?_
          rotate_left
          ·rintro w' ⟨s0, s1, s2, s3, s4, s5, s6, s7, s8, s9, s10, s11, s12, s13, s14, s15, s16, s17⟩
           go_simp
           with_reducible rfl
          rotate_left
          ·simp only [Act.put, sA, sB, sC, i64_w, i32_w]
           rfl
          refine one_ (i := 5) (N := some 18) fz6_6 rfl rfl (one_of HT_.out (by kernel_rfl)) (by decide) (fun K hK => ?_)
          refine goes_ Try.func54 (by kernel_rfl) rfl #[.int .i64 ((rd_T88 l0 x3_1).f0)] (by rfl) rfl rfl (by (try simp only [List.map_toArray, List.map_cons, List.map_nil]); first | done | rfl | (simp only [List.length_drop, List.length_take]; rfl)) ?_
          with_reducible refine (lecternref14_id.calls ((rd_T88 l0 x3_1).f0) true _ A6.out).mono ?_
          rintro e w' ⟨rfl, ⟨nd, rfl⟩⟩
          refine ⟨_, rfl, ?_⟩
          refine hK.out _ _ ⟨(cb_ HB hw106_0 :), (cb_ HB hw106_1 :), (cb_ HB hw106_2 :), (cb_ HB hw106_3 :), (cb_ HB hw106_4 :), (cb_ HB hw106_5 :), (cb_ HB hw108_0 :), (cb_ HB hw108_1 :), (cb_ HB hw108_2 :), (cb_ HB hw108_3 :), (cb_ HB hw108_4 :), (cb_ HB hw108_5 :), (cb_ HB hw110_0 :), (cb_ HB hw110_1 :), (cb_ HB hw110_2 :), (cb_ HB hw110_3 :), (cb_ HB hw110_4 :), (cb_ HB hw110_5 :)⟩ (fun hHeld => ?_)
          clear hK K
          refine norm_ (a' := ?_) ?_ ?_
          rotate_left
          ·show Act.put _ (some 18) _ = _
           simp only [Act.put, sA, sB, sC, i64_w, i32_w]
           rfl
          refine pure_ (i := 6) (N := some 19) (v := ?_) (a' := ?_) fz6_7 rfl rfl (any_of HT_.out (by kernel_rfl)) (fun _ _ _ h => h) (Or.inl ⟨by rfl, ?_⟩) ?_ ?_
          rotate_left
          ·intro w'
           go_simp
           with_reducible rfl
          rotate_left
          ·simp only [Act.put, sA, sB, sC, i64_w, i32_w]
           rfl
          refine pure_ (i := 7) (N := some 20) (v := ?_) (a' := ?_) fz6_8 rfl rfl (any_of HT_.out (by kernel_rfl)) (fun _ _ _ h => h) (Or.inl ⟨by rfl, ?_⟩) ?_ ?_
          rotate_left
          ·intro w'
           go_simp
           with_reducible rfl
          rotate_left
          ·simp only [Act.put, sA, sB, sC, i64_w, i32_w]
           rfl
          refine pure_ (i := 8) (N := some 21) (v := ?_) (a' := ?_) fz6_9 rfl rfl (any_of HT_.out (by kernel_rfl)) (fun _ _ _ h => h) (Or.inl ⟨by rfl, ?_⟩) ?_ ?_
          rotate_left
          ·intro w'
           go_simp
           with_reducible rfl
          rotate_left
          ·simp only [Act.put, sA, sB, sC, i64_w, i32_w]
           rfl
          refine pure_ (i := 9) (N := some 22) (v := ?_) (a' := ?_) fz6_10 rfl rfl (any_of HT_.out (by kernel_rfl)) (fun _ _ _ h => h) (Or.inl ⟨by rfl, ?_⟩) ?_ ?_
          rotate_left
          ·intro w'
           go_simp
           with_reducible rfl
          rotate_left
          ·simp only [Act.put, sA, sB, sC, i64_w, i32_w]
           rfl
          refine pure_ (i := 10) (N := some 23) (v := ?_) (a' := ?_) fz6_11 rfl rfl (any_of HT_.out (by kernel_rfl)) (fun _ _ _ h => h) (Or.inl ⟨by rfl, ?_⟩) ?_ ?_
          rotate_left
          ·intro w'
           go_simp
           with_reducible rfl
          rotate_left
          ·simp only [Act.put, sA, sB, sC, i64_w, i32_w]
           rfl
          refine pure_ (i := 11) (N := some 24) (v := ?_) (a' := ?_) fz6_12 rfl rfl (any_of HT_.out (by kernel_rfl)) (fun _ _ _ h => h) (Or.inl ⟨by rfl, ?_⟩) ?_ ?_
          rotate_left
          ·intro w'
           go_simp
           with_reducible rfl
          rotate_left
          ·simp only [Act.put, sA, sB, sC, i64_w, i32_w]
           rfl
          refine take_ (i := 12) (N := some 25) (v := ?_) (a' := ?_) fz6_13 rfl rfl (take_ofW HT_.out HW_.out (by kernel_rfl)) (fun _ _ _ h => h) (Or.inl ⟨by rfl, ?_⟩) hHeld ?_ ?_
          rotate_left
          ·rintro w' ⟨s0, s1, s2, s3, s4, s5, s6, s7, s8, s9, s10, s11, s12, s13, s14, s15, s16, s17⟩
           go_simp
           with_reducible rfl
          rotate_left
          ·simp only [Act.put, sA, sB, sC, i64_w, i32_w]
           rfl
          refine one_ (i := 13) (N := some 26) fz6_14 rfl rfl (one_of HT_.out (by kernel_rfl)) (by decide) (fun K hK => ?_)
          refine goes_ Try.func55 (by kernel_rfl) rfl #[.int .i64 ((rd_T88 l0 x3_1).f1)] (by rfl) rfl rfl (by (try simp only [List.map_toArray, List.map_cons, List.map_nil]); first | done | rfl | (simp only [List.length_drop, List.length_take]; rfl)) ?_
          with_reducible refine (lecternref0_Num.calls ((rd_T88 l0 x3_1).f1) true _ A8.out).mono ?_
          rintro e w' ⟨rfl, ⟨nd, rfl⟩⟩
          refine ⟨_, rfl, ?_⟩
          refine hK.out _ _ ⟨(cb_ HB hw106_0 :), (cb_ HB hw106_1 :), (cb_ HB hw106_2 :), (cb_ HB hw106_3 :), (cb_ HB hw106_4 :), (cb_ HB hw106_5 :), (cb_ HB hw108_0 :), (cb_ HB hw108_1 :), (cb_ HB hw108_2 :), (cb_ HB hw108_3 :), (cb_ HB hw108_4 :), (cb_ HB hw108_5 :), (cb_ HB hw110_0 :), (cb_ HB hw110_1 :), (cb_ HB hw110_2 :), (cb_ HB hw110_3 :), (cb_ HB hw110_4 :), (cb_ HB hw110_5 :)⟩ (fun hHeld => ?_)
          clear hK K
          refine norm_ (a' := ?_) ?_ ?_
          rotate_left
          ·show Act.put _ (some 26) _ = _
           simp only [Act.put, sA, sB, sC, i64_w, i32_w]
           rfl
          refine pure_ (i := 14) (N := some 27) (v := ?_) (a' := ?_) fz6_15 rfl rfl (any_of HT_.out (by kernel_rfl)) (fun _ _ _ h => h) (Or.inl ⟨by rfl, ?_⟩) ?_ ?_
          rotate_left
          ·intro w'
           go_simp
           with_reducible rfl
          rotate_left
          ·simp only [Act.put, sA, sB, sC, i64_w, i32_w]
           rfl
          refine pure_ (i := 15) (N := some 28) (v := ?_) (a' := ?_) fz6_16 rfl rfl (any_of HT_.out (by kernel_rfl)) (fun _ _ _ h => h) (Or.inl ⟨by rfl, ?_⟩) ?_ ?_
          rotate_left
          ·intro w'
           go_simp
           with_reducible rfl
          rotate_left
          ·simp only [Act.put, sA, sB, sC, i64_w, i32_w]
           rfl
          refine pure_ (i := 16) (N := some 29) (v := ?_) (a' := ?_) fz6_17 rfl rfl (any_of HT_.out (by kernel_rfl)) (fun _ _ _ h => h) (Or.inl ⟨by rfl, ?_⟩) ?_ ?_
          rotate_left
          ·intro w'
           go_simp
           with_reducible rfl
          rotate_left
          ·simp only [Act.put, sA, sB, sC, i64_w, i32_w]
           rfl
          refine pure_ (i := 17) (N := some 30) (v := ?_) (a' := ?_) fz6_18 rfl rfl (any_of HT_.out (by kernel_rfl)) (fun _ _ _ h => h) (Or.inl ⟨by rfl, ?_⟩) ?_ ?_
          rotate_left
          ·intro w'
           go_simp
           with_reducible rfl
          rotate_left
          ·simp only [Act.put, sA, sB, sC, i64_w, i32_w]
           rfl
          refine pure_ (i := 18) (N := some 31) (v := ?_) (a' := ?_) fz6_19 rfl rfl (any_of HT_.out (by kernel_rfl)) (fun _ _ _ h => h) (Or.inl ⟨by rfl, ?_⟩) ?_ ?_
          rotate_left
          ·intro w'
           go_simp
           with_reducible rfl
          rotate_left
          ·simp only [Act.put, sA, sB, sC, i64_w, i32_w]
           rfl
          refine pure_ (i := 19) (N := some 32) (v := ?_) (a' := ?_) fz6_20 rfl rfl (any_of HT_.out (by kernel_rfl)) (fun _ _ _ h => h) (Or.inl ⟨by rfl, ?_⟩) ?_ ?_
          rotate_left
          ·intro w'
           go_simp
           with_reducible rfl
          rotate_left
          ·simp only [Act.put, sA, sB, sC, i64_w, i32_w]
           rfl
          refine pure_ (i := 20) (N := some 33) (v := ?_) (a' := ?_) fz6_21 rfl rfl (any_of HT_.out (by kernel_rfl)) (fun _ _ _ h => h) (Or.inl ⟨by rfl, ?_⟩) ?_ ?_
          rotate_left
          ·intro w'
           go_simp
           with_reducible rfl
          rotate_left
          ·simp only [Act.put, sA, sB, sC, i64_w, i32_w]
           rfl
          refine take_ (i := 21) (N := some 34) (v := ?_) (a' := ?_) fz6_22 rfl rfl (take_ofW HT_.out HW_.out (by kernel_rfl)) (fun _ _ _ h => h) (Or.inl ⟨by rfl, ?_⟩) hHeld ?_ ?_
          rotate_left
          ·rintro w' ⟨s0, s1, s2, s3, s4, s5, s6, s7, s8, s9, s10, s11, s12, s13, s14, s15, s16, s17⟩
           go_simp
           with_reducible rfl
          rotate_left
          ·simp only [Act.put, sA, sB, sC, i64_w, i32_w]
           rfl
          refine one_ (i := 22) (N := some 35) fz6_23 rfl rfl (one_of HT_.out (by kernel_rfl)) (by decide) (fun K hK => ?_)
          refine goes_ Try.func55 (by kernel_rfl) rfl #[.int .i64 ((rd_T88 l0 x3_1).f3)] (by rfl) rfl rfl (by (try simp only [List.map_toArray, List.map_cons, List.map_nil]); first | done | rfl | (simp only [List.length_drop, List.length_take]; rfl)) ?_
          with_reducible refine (lecternref0_Num.calls ((rd_T88 l0 x3_1).f3) false _ A10.out).mono ?_
          rintro e w' ⟨rfl, ⟨nd, rfl⟩⟩
          refine ⟨_, rfl, ?_⟩
          refine hK.out _ _ ⟨(cb_ HB hw106_0 :), (cb_ HB hw106_1 :), (cb_ HB hw106_2 :), (cb_ HB hw106_3 :), (cb_ HB hw106_4 :), (cb_ HB hw106_5 :), (cb_ HB hw108_0 :), (cb_ HB hw108_1 :), (cb_ HB hw108_2 :), (cb_ HB hw108_3 :), (cb_ HB hw108_4 :), (cb_ HB hw108_5 :), (cb_ HB hw110_0 :), (cb_ HB hw110_1 :), (cb_ HB hw110_2 :), (cb_ HB hw110_3 :), (cb_ HB hw110_4 :), (cb_ HB hw110_5 :)⟩ (fun hHeld => ?_)
          clear hK K
          refine norm_ (a' := ?_) ?_ ?_
          rotate_left
          ·show Act.put _ (some 35) _ = _
           simp only [Act.put, sA, sB, sC, i64_w, i32_w]
           rfl
          refine pure_ (i := 23) (N := some 36) (v := ?_) (a' := ?_) fz6_24 rfl rfl (any_of HT_.out (by kernel_rfl)) (fun _ _ _ h => h) (Or.inl ⟨by rfl, ?_⟩) ?_ ?_
          rotate_left
          ·intro w'
           go_simp
           with_reducible rfl
          rotate_left
          ·simp only [Act.put, sA, sB, sC, i64_w, i32_w]
           rfl
          refine pure_ (i := 24) (N := some 37) (v := ?_) (a' := ?_) fz6_25 rfl rfl (any_of HT_.out (by kernel_rfl)) (fun _ _ _ h => h) (Or.inl ⟨by rfl, ?_⟩) ?_ ?_
          rotate_left
          ·intro w'
           go_simp
           with_reducible rfl
          rotate_left
          ·simp only [Act.put, sA, sB, sC, i64_w, i32_w]
           rfl
          refine pure_ (i := 25) (N := some 38) (v := ?_) (a' := ?_) fz6_26 rfl rfl (any_of HT_.out (by kernel_rfl)) (fun _ _ _ h => h) (Or.inl ⟨by rfl, ?_⟩) ?_ ?_
          rotate_left
          ·intro w'
           go_simp
           with_reducible rfl
          rotate_left
          ·simp only [Act.put, sA, sB, sC, i64_w, i32_w]
           rfl
          refine pure_ (i := 26) (N := some 39) (v := undef) (a' := ?_) fz6_27 rfl rfl (any_of HT_.out (by kernel_rfl)) (fun _ _ _ h => h) (Or.inr ⟨by rfl, rfl⟩) ?_ ?_
          rotate_left
          ·simp only [Act.put, sA, sB, sC, i64_w, i32_w]
           rfl
          refine pure_ (i := 27) (N := some 40) (v := undef) (a' := ?_) fz6_28 rfl rfl (any_of HT_.out (by kernel_rfl)) (fun _ _ _ h => h) (Or.inr ⟨by rfl, rfl⟩) ?_ ?_
          rotate_left
          ·simp only [Act.put, sA, sB, sC, i64_w, i32_w]
           rfl
          refine pure_ (i := 28) (N := some 41) (v := undef) (a' := ?_) fz6_29 rfl rfl (any_of HT_.out (by kernel_rfl)) (fun _ _ _ h => h) (Or.inr ⟨by rfl, rfl⟩) ?_ ?_
          rotate_left
          ·simp only [Act.put, sA, sB, sC, i64_w, i32_w]
           rfl
          refine pure_ (i := 29) (N := some 42) (v := undef) (a' := ?_) fz6_30 rfl rfl (any_of HT_.out (by kernel_rfl)) (fun _ _ _ h => h) (Or.inr ⟨by rfl, rfl⟩) ?_ ?_
          rotate_left
          ·simp only [Act.put, sA, sB, sC, i64_w, i32_w]
           rfl
          refine pure_ (i := 30) (N := some 43) (v := undef) (a' := ?_) fz6_31 rfl rfl (any_of HT_.out (by kernel_rfl)) (fun _ _ _ h => h) (Or.inr ⟨by rfl, rfl⟩) ?_ ?_
          rotate_left
          ·simp only [Act.put, sA, sB, sC, i64_w, i32_w]
           rfl
          refine pure_ (i := 31) (N := some 44) (v := undef) (a' := ?_) fz6_32 rfl rfl (any_of HT_.out (by kernel_rfl)) (fun _ _ _ h => h) (Or.inr ⟨by rfl, rfl⟩) ?_ ?_
          rotate_left
          ·simp only [Act.put, sA, sB, sC, i64_w, i32_w]
           rfl
          refine pure_ (i := 32) (N := some 45) (v := undef) (a' := ?_) fz6_33 rfl rfl (any_of HT_.out (by kernel_rfl)) (fun _ _ _ h => h) (Or.inr ⟨by rfl, rfl⟩) ?_ ?_
          rotate_left
          ·simp only [Act.put, sA, sB, sC, i64_w, i32_w]
           rfl
          refine pure_ (i := 33) (N := some 46) (v := ?_) (a' := ?_) fz6_34 rfl rfl (any_of HT_.out (by kernel_rfl)) (fun _ _ _ h => h) (Or.inl ⟨by rfl, ?_⟩) ?_ ?_
          rotate_left
          ·intro w'
           go_simp
           with_reducible rfl
          rotate_left
          ·simp only [Act.put, sA, sB, sC, i64_w, i32_w]
           rfl
          refine pure_ (i := 34) (N := some 47) (v := ?_) (a' := ?_) fz6_35 rfl rfl (any_of HT_.out (by kernel_rfl)) (fun _ _ _ h => h) (Or.inl ⟨by rfl, ?_⟩) ?_ ?_
          rotate_left
          ·intro w'
           go_simp
           with_reducible rfl
          rotate_left
          ·simp only [Act.put, sA, sB, sC, i64_w, i32_w]
           rfl
          refine pure_ (i := 35) (N := some 48) (v := undef) (a' := ?_) fz6_36 rfl rfl (any_of HT_.out (by kernel_rfl)) (fun _ _ _ h => h) (Or.inr ⟨by rfl, rfl⟩) ?_ ?_
          rotate_left
          ·simp only [Act.put, sA, sB, sC, i64_w, i32_w]
           rfl
          refine pure_ (i := 36) (N := some 49) (v := undef) (a' := ?_) fz6_37 rfl rfl (any_of HT_.out (by kernel_rfl)) (fun _ _ _ h => h) (Or.inr ⟨by rfl, rfl⟩) ?_ ?_
          rotate_left
          ·simp only [Act.put, sA, sB, sC, i64_w, i32_w]
           rfl
          refine pure_ (i := 37) (N := some 50) (v := undef) (a' := ?_) fz6_38 rfl rfl (any_of HT_.out (by kernel_rfl)) (fun _ _ _ h => h) (Or.inr ⟨by rfl, rfl⟩) ?_ ?_
          rotate_left
          ·simp only [Act.put, sA, sB, sC, i64_w, i32_w]
           rfl
          refine pure_ (i := 38) (N := some 51) (v := undef) (a' := ?_) fz6_39 rfl rfl (any_of HT_.out (by kernel_rfl)) (fun _ _ _ h => h) (Or.inr ⟨by rfl, rfl⟩) ?_ ?_
          rotate_left
          ·simp only [Act.put, sA, sB, sC, i64_w, i32_w]
           rfl
          refine pure_ (i := 39) (N := some 52) (v := undef) (a' := ?_) fz6_40 rfl rfl (any_of HT_.out (by kernel_rfl)) (fun _ _ _ h => h) (Or.inr ⟨by rfl, rfl⟩) ?_ ?_
          rotate_left
          ·simp only [Act.put, sA, sB, sC, i64_w, i32_w]
           rfl
          refine pure_ (i := 40) (N := some 53) (v := undef) (a' := ?_) fz6_41 rfl rfl (any_of HT_.out (by kernel_rfl)) (fun _ _ _ h => h) (Or.inr ⟨by rfl, rfl⟩) ?_ ?_
          rotate_left
          ·simp only [Act.put, sA, sB, sC, i64_w, i32_w]
           rfl
          refine pure_ (i := 41) (N := some 54) (v := undef) (a' := ?_) fz6_42 rfl rfl (any_of HT_.out (by kernel_rfl)) (fun _ _ _ h => h) (Or.inr ⟨by rfl, rfl⟩) ?_ ?_
          rotate_left
          ·simp only [Act.put, sA, sB, sC, i64_w, i32_w]
           rfl
          refine pure_ (i := 42) (N := some 55) (v := undef) (a' := ?_) fz6_43 rfl rfl (any_of HT_.out (by kernel_rfl)) (fun _ _ _ h => h) (Or.inr ⟨by rfl, rfl⟩) ?_ ?_
          rotate_left
          ·simp only [Act.put, sA, sB, sC, i64_w, i32_w]
           rfl
          refine pure_ (i := 43) (N := some 56) (v := undef) (a' := ?_) fz6_44 rfl rfl (any_of HT_.out (by kernel_rfl)) (fun _ _ _ h => h) (Or.inr ⟨by rfl, rfl⟩) ?_ ?_
          rotate_left
          ·simp only [Act.put, sA, sB, sC, i64_w, i32_w]
           rfl
          refine pure_ (i := 44) (N := some 57) (v := undef) (a' := ?_) fz6_45 rfl rfl (any_of HT_.out (by kernel_rfl)) (fun _ _ _ h => h) (Or.inr ⟨by rfl, rfl⟩) ?_ ?_
          rotate_left
          ·simp only [Act.put, sA, sB, sC, i64_w, i32_w]
           rfl
          refine pure_ (i := 45) (N := some 58) (v := undef) (a' := ?_) fz6_46 rfl rfl (any_of HT_.out (by kernel_rfl)) (fun _ _ _ h => h) (Or.inr ⟨by rfl, rfl⟩) ?_ ?_
          rotate_left
          ·simp only [Act.put, sA, sB, sC, i64_w, i32_w]
           rfl
          refine pure_ (i := 46) (N := some 59) (v := undef) (a' := ?_) fz6_47 rfl rfl (any_of HT_.out (by kernel_rfl)) (fun _ _ _ h => h) (Or.inr ⟨by rfl, rfl⟩) ?_ ?_
          rotate_left
          ·simp only [Act.put, sA, sB, sC, i64_w, i32_w]
           rfl
          refine pure_ (i := 47) (N := some 60) (v := undef) (a' := ?_) fz6_48 rfl rfl (any_of HT_.out (by kernel_rfl)) (fun _ _ _ h => h) (Or.inr ⟨by rfl, rfl⟩) ?_ ?_
          rotate_left
          ·simp only [Act.put, sA, sB, sC, i64_w, i32_w]
           rfl
          refine pure_ (i := 48) (N := some 61) (v := undef) (a' := ?_) fz6_49 rfl rfl (any_of HT_.out (by kernel_rfl)) (fun _ _ _ h => h) (Or.inr ⟨by rfl, rfl⟩) ?_ ?_
          rotate_left
          ·simp only [Act.put, sA, sB, sC, i64_w, i32_w]
           rfl
          refine pure_ (i := 49) (N := some 62) (v := undef) (a' := ?_) fz6_50 rfl rfl (any_of HT_.out (by kernel_rfl)) (fun _ _ _ h => h) (Or.inr ⟨by rfl, rfl⟩) ?_ ?_
          rotate_left
          ·simp only [Act.put, sA, sB, sC, i64_w, i32_w]
           rfl
          refine pure_ (i := 50) (N := some 63) (v := undef) (a' := ?_) fz6_51 rfl rfl (any_of HT_.out (by kernel_rfl)) (fun _ _ _ h => h) (Or.inr ⟨by rfl, rfl⟩) ?_ ?_
          rotate_left
          ·simp only [Act.put, sA, sB, sC, i64_w, i32_w]
           rfl
          refine pure_ (i := 51) (N := some 64) (v := ?_) (a' := ?_) fz6_52 rfl rfl (any_of HT_.out (by kernel_rfl)) (fun _ _ _ h => h) (Or.inl ⟨by rfl, ?_⟩) ?_ ?_
          rotate_left
          ·intro w'
           go_simp
           with_reducible rfl
          rotate_left
          ·simp only [Act.put, sA, sB, sC, i64_w, i32_w]
           rfl
          refine done_ (done_of HT_.out (by kernel_rfl)) ?_
          try go_wp2
          go_meet
          case rel => exact ⟨_, (true), (by first | rfl | (simp; done) | (simp [*]; done)), H', ⟨by have := HK1.out; first | omega | exact Nat.le_refl _⟩, ⟨by repeat (first | (with_reducible first | exact HB.out | apply below_alloc | apply pw_below_drewN | apply below_drew1) | exact HB.out)⟩⟩
        ·replace c9 := Bool.eq_false_iff.mpr c9
         subst c9
         have H1 : (lecternref14_May.j1 k1 l0 x3_1 true) = some r := by rw [if_neg (show ¬ (false = true) by decide)] at H; exact H
         clear H
         have H := H1
         clear H1
         have H' := Aside0.mk H
         clear H
         try go_wp2
         have n0_ := Aside0.mk (below_drew1 HB.out)
         clear HB
         have HB := n0_
         clear n0_
         have p106 : 0 ≤ (x3_1 : Int) := of_decide_eq_true (by assumption)
         have q106 : x3_1 < (l0.length : Int) := of_decide_eq_true (by assumption)
         obtain ⟨ad106, A106_4, c106_4, e106, hx106_0, hx106_1, hx106_2, hx106_3, hx106_4, hx106_5, hl106_4, hi106_4⟩ := at_T88 HR0.out x3_1 p106 q106
         have hw106_5 := hx106_5
         have hw106_4 := hx106_4
         have hw106_3 := hx106_3
         have hw106_2 := hx106_2
         have hw106_1 := hx106_1
         have hw106_0 := hx106_0
         cases e106
         replace hx106_0 := cb_ HB hx106_0
         replace hx106_1 := cb_ HB hx106_1
         replace hx106_2 := cb_ HB hx106_2
         replace hx106_3 := cb_ HB hx106_3
         replace hx106_4 := cb_ HB hx106_4
         replace hx106_5 := cb_ HB hx106_5
         have HR106_4 := Aside0.mk hi106_4
         have HC106_4 := Aside0.mk hl106_4
         clear hi106_4 hl106_4
         replace p106 := eq_true p106
         replace q106 := eq_true q106
         have p108 : 0 ≤ (x3_1 : Int) := of_decide_eq_true (by assumption)
         have q108 : x3_1 < (l0.length : Int) := of_decide_eq_true (by assumption)
         obtain ⟨ad108, A108_4, c108_4, e108, hx108_0, hx108_1, hx108_2, hx108_3, hx108_4, hx108_5, hl108_4, hi108_4⟩ := at_T88 HR0.out x3_1 p108 q108
         have hw108_5 := hx108_5
         have hw108_4 := hx108_4
         have hw108_3 := hx108_3
         have hw108_2 := hx108_2
         have hw108_1 := hx108_1
         have hw108_0 := hx108_0
         obtain rfl : ad106 = ad108 := (by injection e108)
         replace hx108_0 := cb_ HB hx108_0
         replace hx108_1 := cb_ HB hx108_1
         replace hx108_2 := cb_ HB hx108_2
         replace hx108_3 := cb_ HB hx108_3
         replace hx108_4 := cb_ HB hx108_4
         replace hx108_5 := cb_ HB hx108_5
         have HR108_4 := Aside0.mk hi108_4
         have HC108_4 := Aside0.mk hl108_4
         clear hi108_4 hl108_4
         replace p108 := eq_true p108
         replace q108 := eq_true q108
         have ea_ := Option.some.inj (hx106_4.symm.trans hx108_4)
         injection ea_ with ea_ en_ ec_
         subst ea_
         subst ec_
         clear en_
         refine start_ (n := 52) (S := fun w' => w'.cell? (ad106.add ((x3_1).toNat * 6)) = some (.int .i64 ((rd_T88 l0 x3_1).f0)) ∧ w'.cell? ⟨(ad106.add ((x3_1).toNat * 6)).block, (ad106.add ((x3_1).toNat * 6)).off + 1, none⟩ = some (.int .i64 ((rd_T88 l0 x3_1).f1)) ∧ w'.cell? ⟨(ad106.add ((x3_1).toNat * 6)).block, (ad106.add ((x3_1).toNat * 6)).off + 2, none⟩ = some (.int .i64 ((rd_T88 l0 x3_1).f2.f0)) ∧ w'.cell? ⟨(ad106.add ((x3_1).toNat * 6)).block, (ad106.add ((x3_1).toNat * 6)).off + 3, none⟩ = some (.int .i64 ((rd_T88 l0 x3_1).f2.f1)) ∧ w'.cell? ⟨(ad106.add ((x3_1).toNat * 6)).block, (ad106.add ((x3_1).toNat * 6)).off + 4, none⟩ = some (.slice A106_4 ((rd_T88 l0 x3_1).f2.f2).length c106_4) ∧ w'.cell? ⟨(ad106.add ((x3_1).toNat * 6)).block, (ad106.add ((x3_1).toNat * 6)).off + 5, none⟩ = some (.int .i64 ((rd_T88 l0 x3_1).f3)) ∧ w'.cell? (ad106.add ((x3_1).toNat * 6)) = some (.int .i64 ((rd_T88 l0 x3_1).f0)) ∧ w'.cell? ⟨(ad106.add ((x3_1).toNat * 6)).block, (ad106.add ((x3_1).toNat * 6)).off + 1, none⟩ = some (.int .i64 ((rd_T88 l0 x3_1).f1)) ∧ w'.cell? ⟨(ad106.add ((x3_1).toNat * 6)).block, (ad106.add ((x3_1).toNat * 6)).off + 2, none⟩ = some (.int .i64 ((rd_T88 l0 x3_1).f2.f0)) ∧ w'.cell? ⟨(ad106.add ((x3_1).toNat * 6)).block, (ad106.add ((x3_1).toNat * 6)).off + 3, none⟩ = some (.int .i64 ((rd_T88 l0 x3_1).f2.f1)) ∧ w'.cell? ⟨(ad106.add ((x3_1).toNat * 6)).block, (ad106.add ((x3_1).toNat * 6)).off + 4, none⟩ = some (.slice A106_4 ((rd_T88 l0 x3_1).f2.f2).length c106_4) ∧ w'.cell? ⟨(ad106.add ((x3_1).toNat * 6)).block, (ad106.add ((x3_1).toNat * 6)).off + 5, none⟩ = some (.int .i64 ((rd_T88 l0 x3_1).f3))) (ds := []) fz6_0 (by kernel_rfl) rfl rfl ⟨(cb_ HB hw106_0 :), (cb_ HB hw106_1 :), (cb_ HB hw106_2 :), (cb_ HB hw106_3 :), (cb_ HB hw106_4 :), (cb_ HB hw106_5 :), (cb_ HB hw108_0 :), (cb_ HB hw108_1 :), (cb_ HB hw108_2 :), (cb_ HB hw108_3 :), (cb_ HB hw108_4 :), (cb_ HB hw108_5 :)⟩ (fun hHeld => ?_); refine with_tabW lecternref14_May.tab6 lecternref14_May.bits6 (fun HT_ HW_ => ?_)
         generalize wr.drew = w25 at HB HR106_4 HR108_4 hx106_0 hx106_1 hx106_2 hx106_3 hx106_4 hx106_5 hx108_0 hx108_1 hx108_2 hx108_3 hx108_4 hx108_5 hHeld ⊢
         refine pure_ (i := 0) (N := some 13) (v := ?_) (a' := ?_) fz6_1 rfl rfl (any_of HT_.out (by kernel_rfl)) (fun _ _ _ h => h) (Or.inl ⟨by rfl, ?_⟩) ?_ ?_
         rotate_left
         ·intro w'
          go_simp
          with_reducible rfl
         rotate_left
         ·simp only [Act.put, sA, sB, sC, i64_w, i32_w]
          rfl
         refine pure_ (i := 1) (N := some 14) (v := ?_) (a' := ?_) fz6_2 rfl rfl (any_of HT_.out (by kernel_rfl)) (fun _ _ _ h => h) (Or.inl ⟨by rfl, ?_⟩) ?_ ?_
         rotate_left
         ·intro w'
          go_simp
          with_reducible rfl
         rotate_left
         ·simp only [Act.put, sA, sB, sC, i64_w, i32_w]
          rfl
         refine pure_ (i := 2) (N := some 15) (v := ?_) (a' := ?_) fz6_3 rfl rfl (any_of HT_.out (by kernel_rfl)) (fun _ _ _ h => h) (Or.inl ⟨by rfl, ?_⟩) ?_ ?_
         rotate_left
         ·intro w'
          go_simp
          with_reducible rfl
         rotate_left
         ·simp only [Act.put, sA, sB, sC, i64_w, i32_w]
          rfl
         refine pure_ (i := 3) (N := some 16) (v := ?_) (a' := ?_) fz6_4 rfl rfl (any_of HT_.out (by kernel_rfl)) (fun _ _ _ h => h) (Or.inl ⟨by rfl, ?_⟩) ?_ ?_
         rotate_left
         ·intro w'
          go_simp
          with_reducible rfl
         rotate_left
         ·simp only [Act.put, sA, sB, sC, i64_w, i32_w]
          rfl
         refine take_ (i := 4) (N := some 17) (v := ?_) (a' := ?_) fz6_5 rfl rfl (take_ofW HT_.out HW_.out (by kernel_rfl)) (fun _ _ _ h => h) (Or.inl ⟨by rfl, ?_⟩) hHeld ?_ ?_
         rotate_left
         ·rintro w' ⟨s0, s1, s2, s3, s4, s5, s6, s7, s8, s9, s10, s11⟩
          go_simp
          with_reducible rfl
         rotate_left
         ·simp only [Act.put, sA, sB, sC, i64_w, i32_w]
          rfl
         refine one_ (i := 5) (N := some 18) fz6_6 rfl rfl (one_of HT_.out (by kernel_rfl)) (by decide) (fun K hK => ?_)
         refine goes_ Try.func54 (by kernel_rfl) rfl #[.int .i64 ((rd_T88 l0 x3_1).f0)] (by rfl) rfl rfl (by (try simp only [List.map_toArray, List.map_cons, List.map_nil]); first | done | rfl | (simp only [List.length_drop, List.length_take]; rfl)) ?_
         with_reducible refine (lecternref14_id.calls ((rd_T88 l0 x3_1).f0) true _ A6.out).mono ?_
         rintro e w' ⟨rfl, ⟨nd, rfl⟩⟩
         refine ⟨_, rfl, ?_⟩
         refine hK.out _ _ ⟨(cb_ HB hw106_0 :), (cb_ HB hw106_1 :), (cb_ HB hw106_2 :), (cb_ HB hw106_3 :), (cb_ HB hw106_4 :), (cb_ HB hw106_5 :), (cb_ HB hw108_0 :), (cb_ HB hw108_1 :), (cb_ HB hw108_2 :), (cb_ HB hw108_3 :), (cb_ HB hw108_4 :), (cb_ HB hw108_5 :)⟩ (fun hHeld => ?_)
         clear hK K
         refine norm_ (a' := ?_) ?_ ?_
         rotate_left
         ·show Act.put _ (some 18) _ = _
          simp only [Act.put, sA, sB, sC, i64_w, i32_w]
          rfl
         refine pure_ (i := 6) (N := some 19) (v := ?_) (a' := ?_) fz6_7 rfl rfl (any_of HT_.out (by kernel_rfl)) (fun _ _ _ h => h) (Or.inl ⟨by rfl, ?_⟩) ?_ ?_
         rotate_left
         ·intro w'
          go_simp
          with_reducible rfl
         rotate_left
         ·simp only [Act.put, sA, sB, sC, i64_w, i32_w]
          rfl
         refine pure_ (i := 7) (N := some 20) (v := ?_) (a' := ?_) fz6_8 rfl rfl (any_of HT_.out (by kernel_rfl)) (fun _ _ _ h => h) (Or.inl ⟨by rfl, ?_⟩) ?_ ?_
         rotate_left
         ·intro w'
          go_simp
          with_reducible rfl
         rotate_left
         ·simp only [Act.put, sA, sB, sC, i64_w, i32_w]
          rfl
         refine pure_ (i := 8) (N := some 21) (v := ?_) (a' := ?_) fz6_9 rfl rfl (any_of HT_.out (by kernel_rfl)) (fun _ _ _ h => h) (Or.inl ⟨by rfl, ?_⟩) ?_ ?_
         rotate_left
         ·intro w'
          go_simp
          with_reducible rfl
         rotate_left
         ·simp only [Act.put, sA, sB, sC, i64_w, i32_w]
          rfl
         refine pure_ (i := 9) (N := some 22) (v := ?_) (a' := ?_) fz6_10 rfl rfl (any_of HT_.out (by kernel_rfl)) (fun _ _ _ h => h) (Or.inl ⟨by rfl, ?_⟩) ?_ ?_
         rotate_left
         ·intro w'
          go_simp
          with_reducible rfl
         rotate_left
         ·simp only [Act.put, sA, sB, sC, i64_w, i32_w]
          rfl
         refine pure_ (i := 10) (N := some 23) (v := ?_) (a' := ?_) fz6_11 rfl rfl (any_of HT_.out (by kernel_rfl)) (fun _ _ _ h => h) (Or.inl ⟨by rfl, ?_⟩) ?_ ?_
         rotate_left
         ·intro w'
          go_simp
          with_reducible rfl
         rotate_left
         ·simp only [Act.put, sA, sB, sC, i64_w, i32_w]
          rfl
         refine pure_ (i := 11) (N := some 24) (v := ?_) (a' := ?_) fz6_12 rfl rfl (any_of HT_.out (by kernel_rfl)) (fun _ _ _ h => h) (Or.inl ⟨by rfl, ?_⟩) ?_ ?_
         rotate_left
         ·intro w'
          go_simp
          with_reducible rfl
         rotate_left
         ·simp only [Act.put, sA, sB, sC, i64_w, i32_w]
          rfl
         refine take_ (i := 12) (N := some 25) (v := ?_) (a' := ?_) fz6_13 rfl rfl (take_ofW HT_.out HW_.out (by kernel_rfl)) (fun _ _ _ h => h) (Or.inl ⟨by rfl, ?_⟩) hHeld ?_ ?_
         rotate_left
         ·rintro w' ⟨s0, s1, s2, s3, s4, s5, s6, s7, s8, s9, s10, s11⟩
          go_simp
          with_reducible rfl
         rotate_left
         ·simp only [Act.put, sA, sB, sC, i64_w, i32_w]
          rfl
         refine one_ (i := 13) (N := some 26) fz6_14 rfl rfl (one_of HT_.out (by kernel_rfl)) (by decide) (fun K hK => ?_)
         refine goes_ Try.func55 (by kernel_rfl) rfl #[.int .i64 ((rd_T88 l0 x3_1).f1)] (by rfl) rfl rfl (by (try simp only [List.map_toArray, List.map_cons, List.map_nil]); first | done | rfl | (simp only [List.length_drop, List.length_take]; rfl)) ?_
         with_reducible refine (lecternref0_Num.calls ((rd_T88 l0 x3_1).f1) false _ A8.out).mono ?_
         rintro e w' ⟨rfl, ⟨nd, rfl⟩⟩
         refine ⟨_, rfl, ?_⟩
         refine hK.out _ _ ⟨(cb_ HB hw106_0 :), (cb_ HB hw106_1 :), (cb_ HB hw106_2 :), (cb_ HB hw106_3 :), (cb_ HB hw106_4 :), (cb_ HB hw106_5 :), (cb_ HB hw108_0 :), (cb_ HB hw108_1 :), (cb_ HB hw108_2 :), (cb_ HB hw108_3 :), (cb_ HB hw108_4 :), (cb_ HB hw108_5 :)⟩ (fun hHeld => ?_)
         clear hK K
         refine norm_ (a' := ?_) ?_ ?_
         rotate_left
         ·show Act.put _ (some 26) _ = _
          simp only [Act.put, sA, sB, sC, i64_w, i32_w]
          rfl
         refine pure_ (i := 14) (N := some 27) (v := ?_) (a' := ?_) fz6_15 rfl rfl (any_of HT_.out (by kernel_rfl)) (fun _ _ _ h => h) (Or.inl ⟨by rfl, ?_⟩) ?_ ?_
         rotate_left
         ·intro w'
          go_simp
          with_reducible rfl
         rotate_left
         ·simp only [Act.put, sA, sB, sC, i64_w, i32_w]
          rfl
         refine pure_ (i := 15) (N := some 28) (v := ?_) (a' := ?_) fz6_16 rfl rfl (any_of HT_.out (by kernel_rfl)) (fun _ _ _ h => h) (Or.inl ⟨by rfl, ?_⟩) ?_ ?_
         rotate_left
         ·intro w'
          go_simp
          with_reducible rfl
         rotate_left
         ·simp only [Act.put, sA, sB, sC, i64_w, i32_w]
          rfl
         refine pure_ (i := 16) (N := some 29) (v := ?_) (a' := ?_) fz6_17 rfl rfl (any_of HT_.out (by kernel_rfl)) (fun _ _ _ h => h) (Or.inl ⟨by rfl, ?_⟩) ?_ ?_
         rotate_left
         ·intro w'
          go_simp
          with_reducible rfl
         rotate_left
         ·simp only [Act.put, sA, sB, sC, i64_w, i32_w]
          rfl
         refine pure_ (i := 17) (N := some 30) (v := undef) (a' := ?_) fz6_18 rfl rfl (any_of HT_.out (by kernel_rfl)) (fun _ _ _ h => h) (Or.inr ⟨by rfl, rfl⟩) ?_ ?_
         rotate_left
         ·simp only [Act.put, sA, sB, sC, i64_w, i32_w]
          rfl
         refine pure_ (i := 18) (N := some 31) (v := undef) (a' := ?_) fz6_19 rfl rfl (any_of HT_.out (by kernel_rfl)) (fun _ _ _ h => h) (Or.inr ⟨by rfl, rfl⟩) ?_ ?_
         rotate_left
         ·simp only [Act.put, sA, sB, sC, i64_w, i32_w]
          rfl
         refine pure_ (i := 19) (N := some 32) (v := undef) (a' := ?_) fz6_20 rfl rfl (any_of HT_.out (by kernel_rfl)) (fun _ _ _ h => h) (Or.inr ⟨by rfl, rfl⟩) ?_ ?_
         rotate_left
         ·simp only [Act.put, sA, sB, sC, i64_w, i32_w]
          rfl
         refine pure_ (i := 20) (N := some 33) (v := undef) (a' := ?_) fz6_21 rfl rfl (any_of HT_.out (by kernel_rfl)) (fun _ _ _ h => h) (Or.inr ⟨by rfl, rfl⟩) ?_ ?_
         rotate_left
         ·simp only [Act.put, sA, sB, sC, i64_w, i32_w]
          rfl
         refine pure_ (i := 21) (N := some 34) (v := undef) (a' := ?_) fz6_22 rfl rfl (any_of HT_.out (by kernel_rfl)) (fun _ _ _ h => h) (Or.inr ⟨by rfl, rfl⟩) ?_ ?_
         rotate_left
         ·simp only [Act.put, sA, sB, sC, i64_w, i32_w]
          rfl
         refine pure_ (i := 22) (N := some 35) (v := undef) (a' := ?_) fz6_23 rfl rfl (any_of HT_.out (by kernel_rfl)) (fun _ _ _ h => h) (Or.inr ⟨by rfl, rfl⟩) ?_ ?_
         rotate_left
         ·simp only [Act.put, sA, sB, sC, i64_w, i32_w]
          rfl
         refine pure_ (i := 23) (N := some 36) (v := undef) (a' := ?_) fz6_24 rfl rfl (any_of HT_.out (by kernel_rfl)) (fun _ _ _ h => h) (Or.inr ⟨by rfl, rfl⟩) ?_ ?_
         rotate_left
         ·simp only [Act.put, sA, sB, sC, i64_w, i32_w]
          rfl
         refine pure_ (i := 24) (N := some 37) (v := ?_) (a' := ?_) fz6_25 rfl rfl (any_of HT_.out (by kernel_rfl)) (fun _ _ _ h => h) (Or.inl ⟨by rfl, ?_⟩) ?_ ?_
         rotate_left
         ·intro w'
          go_simp
          with_reducible rfl
         rotate_left
         ·simp only [Act.put, sA, sB, sC, i64_w, i32_w]
          rfl
         refine pure_ (i := 25) (N := some 38) (v := ?_) (a' := ?_) fz6_26 rfl rfl (any_of HT_.out (by kernel_rfl)) (fun _ _ _ h => h) (Or.inl ⟨by rfl, ?_⟩) ?_ ?_
         rotate_left
         ·intro w'
          go_simp
          with_reducible rfl
         rotate_left
         ·simp only [Act.put, sA, sB, sC, i64_w, i32_w]
          rfl
         refine pure_ (i := 26) (N := some 39) (v := undef) (a' := ?_) fz6_27 rfl rfl (any_of HT_.out (by kernel_rfl)) (fun _ _ _ h => h) (Or.inr ⟨by rfl, rfl⟩) ?_ ?_
         rotate_left
         ·simp only [Act.put, sA, sB, sC, i64_w, i32_w]
          rfl
         refine pure_ (i := 27) (N := some 40) (v := undef) (a' := ?_) fz6_28 rfl rfl (any_of HT_.out (by kernel_rfl)) (fun _ _ _ h => h) (Or.inr ⟨by rfl, rfl⟩) ?_ ?_
         rotate_left
         ·simp only [Act.put, sA, sB, sC, i64_w, i32_w]
          rfl
         refine pure_ (i := 28) (N := some 41) (v := undef) (a' := ?_) fz6_29 rfl rfl (any_of HT_.out (by kernel_rfl)) (fun _ _ _ h => h) (Or.inr ⟨by rfl, rfl⟩) ?_ ?_
         rotate_left
         ·simp only [Act.put, sA, sB, sC, i64_w, i32_w]
          rfl
         refine pure_ (i := 29) (N := some 42) (v := undef) (a' := ?_) fz6_30 rfl rfl (any_of HT_.out (by kernel_rfl)) (fun _ _ _ h => h) (Or.inr ⟨by rfl, rfl⟩) ?_ ?_
         rotate_left
         ·simp only [Act.put, sA, sB, sC, i64_w, i32_w]
          rfl
         refine pure_ (i := 30) (N := some 43) (v := undef) (a' := ?_) fz6_31 rfl rfl (any_of HT_.out (by kernel_rfl)) (fun _ _ _ h => h) (Or.inr ⟨by rfl, rfl⟩) ?_ ?_
         rotate_left
         ·simp only [Act.put, sA, sB, sC, i64_w, i32_w]
          rfl
         refine pure_ (i := 31) (N := some 44) (v := undef) (a' := ?_) fz6_32 rfl rfl (any_of HT_.out (by kernel_rfl)) (fun _ _ _ h => h) (Or.inr ⟨by rfl, rfl⟩) ?_ ?_
         rotate_left
         ·simp only [Act.put, sA, sB, sC, i64_w, i32_w]
          rfl
         refine pure_ (i := 32) (N := some 45) (v := undef) (a' := ?_) fz6_33 rfl rfl (any_of HT_.out (by kernel_rfl)) (fun _ _ _ h => h) (Or.inr ⟨by rfl, rfl⟩) ?_ ?_
         rotate_left
         ·simp only [Act.put, sA, sB, sC, i64_w, i32_w]
          rfl
         refine pure_ (i := 33) (N := some 46) (v := ?_) (a' := ?_) fz6_34 rfl rfl (any_of HT_.out (by kernel_rfl)) (fun _ _ _ h => h) (Or.inl ⟨by rfl, ?_⟩) ?_ ?_
         rotate_left
         ·intro w'
          go_simp
          with_reducible rfl
         rotate_left
         ·simp only [Act.put, sA, sB, sC, i64_w, i32_w]
          rfl
         refine pure_ (i := 34) (N := some 47) (v := ?_) (a' := ?_) fz6_35 rfl rfl (any_of HT_.out (by kernel_rfl)) (fun _ _ _ h => h) (Or.inl ⟨by rfl, ?_⟩) ?_ ?_
         rotate_left
         ·intro w'
          go_simp
          with_reducible rfl
         rotate_left
         ·simp only [Act.put, sA, sB, sC, i64_w, i32_w]
          rfl
         refine pure_ (i := 35) (N := some 48) (v := undef) (a' := ?_) fz6_36 rfl rfl (any_of HT_.out (by kernel_rfl)) (fun _ _ _ h => h) (Or.inr ⟨by rfl, rfl⟩) ?_ ?_
         rotate_left
         ·simp only [Act.put, sA, sB, sC, i64_w, i32_w]
          rfl
         refine pure_ (i := 36) (N := some 49) (v := undef) (a' := ?_) fz6_37 rfl rfl (any_of HT_.out (by kernel_rfl)) (fun _ _ _ h => h) (Or.inr ⟨by rfl, rfl⟩) ?_ ?_
         rotate_left
         ·simp only [Act.put, sA, sB, sC, i64_w, i32_w]
          rfl
         refine pure_ (i := 37) (N := some 50) (v := undef) (a' := ?_) fz6_38 rfl rfl (any_of HT_.out (by kernel_rfl)) (fun _ _ _ h => h) (Or.inr ⟨by rfl, rfl⟩) ?_ ?_
         rotate_left
         ·simp only [Act.put, sA, sB, sC, i64_w, i32_w]
          rfl
         refine pure_ (i := 38) (N := some 51) (v := undef) (a' := ?_) fz6_39 rfl rfl (any_of HT_.out (by kernel_rfl)) (fun _ _ _ h => h) (Or.inr ⟨by rfl, rfl⟩) ?_ ?_
         rotate_left
         ·simp only [Act.put, sA, sB, sC, i64_w, i32_w]
          rfl
         refine pure_ (i := 39) (N := some 52) (v := undef) (a' := ?_) fz6_40 rfl rfl (any_of HT_.out (by kernel_rfl)) (fun _ _ _ h => h) (Or.inr ⟨by rfl, rfl⟩) ?_ ?_
         rotate_left
         ·simp only [Act.put, sA, sB, sC, i64_w, i32_w]
          rfl
         refine pure_ (i := 40) (N := some 53) (v := undef) (a' := ?_) fz6_41 rfl rfl (any_of HT_.out (by kernel_rfl)) (fun _ _ _ h => h) (Or.inr ⟨by rfl, rfl⟩) ?_ ?_
         rotate_left
         ·simp only [Act.put, sA, sB, sC, i64_w, i32_w]
          rfl
         refine pure_ (i := 41) (N := some 54) (v := undef) (a' := ?_) fz6_42 rfl rfl (any_of HT_.out (by kernel_rfl)) (fun _ _ _ h => h) (Or.inr ⟨by rfl, rfl⟩) ?_ ?_
         rotate_left
         ·simp only [Act.put, sA, sB, sC, i64_w, i32_w]
          rfl
         refine pure_ (i := 42) (N := some 55) (v := undef) (a' := ?_) fz6_43 rfl rfl (any_of HT_.out (by kernel_rfl)) (fun _ _ _ h => h) (Or.inr ⟨by rfl, rfl⟩) ?_ ?_
         rotate_left
         ·simp only [Act.put, sA, sB, sC, i64_w, i32_w]
          rfl
         refine pure_ (i := 43) (N := some 56) (v := undef) (a' := ?_) fz6_44 rfl rfl (any_of HT_.out (by kernel_rfl)) (fun _ _ _ h => h) (Or.inr ⟨by rfl, rfl⟩) ?_ ?_
         rotate_left
         ·simp only [Act.put, sA, sB, sC, i64_w, i32_w]
          rfl
         refine pure_ (i := 44) (N := some 57) (v := undef) (a' := ?_) fz6_45 rfl rfl (any_of HT_.out (by kernel_rfl)) (fun _ _ _ h => h) (Or.inr ⟨by rfl, rfl⟩) ?_ ?_
         rotate_left
         ·simp only [Act.put, sA, sB, sC, i64_w, i32_w]
          rfl
         refine pure_ (i := 45) (N := some 58) (v := undef) (a' := ?_) fz6_46 rfl rfl (any_of HT_.out (by kernel_rfl)) (fun _ _ _ h => h) (Or.inr ⟨by rfl, rfl⟩) ?_ ?_
         rotate_left
         ·simp only [Act.put, sA, sB, sC, i64_w, i32_w]
          rfl
         refine pure_ (i := 46) (N := some 59) (v := undef) (a' := ?_) fz6_47 rfl rfl (any_of HT_.out (by kernel_rfl)) (fun _ _ _ h => h) (Or.inr ⟨by rfl, rfl⟩) ?_ ?_
         rotate_left
         ·simp only [Act.put, sA, sB, sC, i64_w, i32_w]
          rfl
         refine pure_ (i := 47) (N := some 60) (v := undef) (a' := ?_) fz6_48 rfl rfl (any_of HT_.out (by kernel_rfl)) (fun _ _ _ h => h) (Or.inr ⟨by rfl, rfl⟩) ?_ ?_
         rotate_left
         ·simp only [Act.put, sA, sB, sC, i64_w, i32_w]
          rfl
         refine pure_ (i := 48) (N := some 61) (v := undef) (a' := ?_) fz6_49 rfl rfl (any_of HT_.out (by kernel_rfl)) (fun _ _ _ h => h) (Or.inr ⟨by rfl, rfl⟩) ?_ ?_
         rotate_left
         ·simp only [Act.put, sA, sB, sC, i64_w, i32_w]
          rfl
         refine pure_ (i := 49) (N := some 62) (v := undef) (a' := ?_) fz6_50 rfl rfl (any_of HT_.out (by kernel_rfl)) (fun _ _ _ h => h) (Or.inr ⟨by rfl, rfl⟩) ?_ ?_
         rotate_left
         ·simp only [Act.put, sA, sB, sC, i64_w, i32_w]
          rfl
         refine pure_ (i := 50) (N := some 63) (v := undef) (a' := ?_) fz6_51 rfl rfl (any_of HT_.out (by kernel_rfl)) (fun _ _ _ h => h) (Or.inr ⟨by rfl, rfl⟩) ?_ ?_
         rotate_left
         ·simp only [Act.put, sA, sB, sC, i64_w, i32_w]
          rfl
         refine pure_ (i := 51) (N := some 64) (v := ?_) (a' := ?_) fz6_52 rfl rfl (any_of HT_.out (by kernel_rfl)) (fun _ _ _ h => h) (Or.inl ⟨by rfl, ?_⟩) ?_ ?_
         rotate_left
         ·intro w'
          go_simp
          with_reducible rfl
         rotate_left
         ·simp only [Act.put, sA, sB, sC, i64_w, i32_w]
          rfl
         refine done_ (done_of HT_.out (by kernel_rfl)) ?_
         try go_wp2
         go_meet
         case rel => exact ⟨_, (true), (by first | rfl | (simp; done) | (simp [*]; done)), H', ⟨by have := HK1.out; first | omega | exact Nat.le_refl _⟩, ⟨by repeat (first | (with_reducible first | exact HB.out | apply below_alloc | apply pw_below_drewN | apply below_drew1) | exact HB.out)⟩⟩
       ·replace c7 := Bool.eq_false_iff.mpr c7
        subst c7
        have H1 : (lecternref14_May.j1 k1 l0 x3_1 true) = some r := by rw [if_neg (show ¬ (false = true) by decide)] at H; exact H
        clear H
        have H := H1
        clear H1
        have H' := Aside0.mk H
        clear H
        try go_wp2
        have n0_ := Aside0.mk (below_drew1 HB.out)
        clear HB
        have HB := n0_
        clear n0_
        have p106 : 0 ≤ (x3_1 : Int) := of_decide_eq_true (by assumption)
        have q106 : x3_1 < (l0.length : Int) := of_decide_eq_true (by assumption)
        obtain ⟨ad106, A106_4, c106_4, e106, hx106_0, hx106_1, hx106_2, hx106_3, hx106_4, hx106_5, hl106_4, hi106_4⟩ := at_T88 HR0.out x3_1 p106 q106
        have hw106_5 := hx106_5
        have hw106_4 := hx106_4
        have hw106_3 := hx106_3
        have hw106_2 := hx106_2
        have hw106_1 := hx106_1
        have hw106_0 := hx106_0
        cases e106
        replace hx106_0 := cb_ HB hx106_0
        replace hx106_1 := cb_ HB hx106_1
        replace hx106_2 := cb_ HB hx106_2
        replace hx106_3 := cb_ HB hx106_3
        replace hx106_4 := cb_ HB hx106_4
        replace hx106_5 := cb_ HB hx106_5
        have HR106_4 := Aside0.mk hi106_4
        have HC106_4 := Aside0.mk hl106_4
        clear hi106_4 hl106_4
        replace p106 := eq_true p106
        replace q106 := eq_true q106
        refine start_ (n := 52) (S := fun w' => w'.cell? (ad106.add ((x3_1).toNat * 6)) = some (.int .i64 ((rd_T88 l0 x3_1).f0)) ∧ w'.cell? ⟨(ad106.add ((x3_1).toNat * 6)).block, (ad106.add ((x3_1).toNat * 6)).off + 1, none⟩ = some (.int .i64 ((rd_T88 l0 x3_1).f1)) ∧ w'.cell? ⟨(ad106.add ((x3_1).toNat * 6)).block, (ad106.add ((x3_1).toNat * 6)).off + 2, none⟩ = some (.int .i64 ((rd_T88 l0 x3_1).f2.f0)) ∧ w'.cell? ⟨(ad106.add ((x3_1).toNat * 6)).block, (ad106.add ((x3_1).toNat * 6)).off + 3, none⟩ = some (.int .i64 ((rd_T88 l0 x3_1).f2.f1)) ∧ w'.cell? ⟨(ad106.add ((x3_1).toNat * 6)).block, (ad106.add ((x3_1).toNat * 6)).off + 4, none⟩ = some (.slice A106_4 ((rd_T88 l0 x3_1).f2.f2).length c106_4) ∧ w'.cell? ⟨(ad106.add ((x3_1).toNat * 6)).block, (ad106.add ((x3_1).toNat * 6)).off + 5, none⟩ = some (.int .i64 ((rd_T88 l0 x3_1).f3))) (ds := []) fz6_0 (by kernel_rfl) rfl rfl ⟨(cb_ HB hw106_0 :), (cb_ HB hw106_1 :), (cb_ HB hw106_2 :), (cb_ HB hw106_3 :), (cb_ HB hw106_4 :), (cb_ HB hw106_5 :)⟩ (fun hHeld => ?_); refine with_tabW lecternref14_May.tab6 lecternref14_May.bits6 (fun HT_ HW_ => ?_)
        generalize wr.drew = w26 at HB HR106_4 hx106_0 hx106_1 hx106_2 hx106_3 hx106_4 hx106_5 hHeld ⊢
        refine pure_ (i := 0) (N := some 13) (v := ?_) (a' := ?_) fz6_1 rfl rfl (any_of HT_.out (by kernel_rfl)) (fun _ _ _ h => h) (Or.inl ⟨by rfl, ?_⟩) ?_ ?_
        rotate_left
        ·intro w'
         go_simp
         with_reducible rfl
        rotate_left
        ·simp only [Act.put, sA, sB, sC, i64_w, i32_w]
         rfl
        refine pure_ (i := 1) (N := some 14) (v := ?_) (a' := ?_) fz6_2 rfl rfl (any_of HT_.out (by kernel_rfl)) (fun _ _ _ h => h) (Or.inl ⟨by rfl, ?_⟩) ?_ ?_
        rotate_left
        ·intro w'
         go_simp
         with_reducible rfl
        rotate_left
        ·simp only [Act.put, sA, sB, sC, i64_w, i32_w]
         rfl
        refine pure_ (i := 2) (N := some 15) (v := ?_) (a' := ?_) fz6_3 rfl rfl (any_of HT_.out (by kernel_rfl)) (fun _ _ _ h => h) (Or.inl ⟨by rfl, ?_⟩) ?_ ?_
        rotate_left
        ·intro w'
         go_simp
         with_reducible rfl
        rotate_left
        ·simp only [Act.put, sA, sB, sC, i64_w, i32_w]
         rfl
        refine pure_ (i := 3) (N := some 16) (v := ?_) (a' := ?_) fz6_4 rfl rfl (any_of HT_.out (by kernel_rfl)) (fun _ _ _ h => h) (Or.inl ⟨by rfl, ?_⟩) ?_ ?_
        rotate_left
        ·intro w'
         go_simp
         with_reducible rfl
        rotate_left
        ·simp only [Act.put, sA, sB, sC, i64_w, i32_w]
         rfl
        refine take_ (i := 4) (N := some 17) (v := ?_) (a' := ?_) fz6_5 rfl rfl (take_ofW HT_.out HW_.out (by kernel_rfl)) (fun _ _ _ h => h) (Or.inl ⟨by rfl, ?_⟩) hHeld ?_ ?_
        rotate_left
        ·rintro w' ⟨s0, s1, s2, s3, s4, s5⟩
         go_simp
         with_reducible rfl
        rotate_left
        ·simp only [Act.put, sA, sB, sC, i64_w, i32_w]
         rfl
        refine one_ (i := 5) (N := some 18) fz6_6 rfl rfl (one_of HT_.out (by kernel_rfl)) (by decide) (fun K hK => ?_)
        refine goes_ Try.func54 (by kernel_rfl) rfl #[.int .i64 ((rd_T88 l0 x3_1).f0)] (by rfl) rfl rfl (by (try simp only [List.map_toArray, List.map_cons, List.map_nil]); first | done | rfl | (simp only [List.length_drop, List.length_take]; rfl)) ?_
        with_reducible refine (lecternref14_id.calls ((rd_T88 l0 x3_1).f0) false _ A6.out).mono ?_
        rintro e w' ⟨rfl, ⟨nd, rfl⟩⟩
        refine ⟨_, rfl, ?_⟩
        refine hK.out _ _ ⟨(cb_ HB hw106_0 :), (cb_ HB hw106_1 :), (cb_ HB hw106_2 :), (cb_ HB hw106_3 :), (cb_ HB hw106_4 :), (cb_ HB hw106_5 :)⟩ (fun hHeld => ?_)
        clear hK K
        refine norm_ (a' := ?_) ?_ ?_
        rotate_left
        ·show Act.put _ (some 18) _ = _
         simp only [Act.put, sA, sB, sC, i64_w, i32_w]
         rfl
        refine pure_ (i := 6) (N := some 19) (v := ?_) (a' := ?_) fz6_7 rfl rfl (any_of HT_.out (by kernel_rfl)) (fun _ _ _ h => h) (Or.inl ⟨by rfl, ?_⟩) ?_ ?_
        rotate_left
        ·intro w'
         go_simp
         with_reducible rfl
        rotate_left
        ·simp only [Act.put, sA, sB, sC, i64_w, i32_w]
         rfl
        refine pure_ (i := 7) (N := some 20) (v := ?_) (a' := ?_) fz6_8 rfl rfl (any_of HT_.out (by kernel_rfl)) (fun _ _ _ h => h) (Or.inl ⟨by rfl, ?_⟩) ?_ ?_
        rotate_left
        ·intro w'
         go_simp
         with_reducible rfl
        rotate_left
        ·simp only [Act.put, sA, sB, sC, i64_w, i32_w]
         rfl
        refine pure_ (i := 8) (N := some 21) (v := undef) (a' := ?_) fz6_9 rfl rfl (any_of HT_.out (by kernel_rfl)) (fun _ _ _ h => h) (Or.inr ⟨by rfl, rfl⟩) ?_ ?_
        rotate_left
        ·simp only [Act.put, sA, sB, sC, i64_w, i32_w]
         rfl
        refine pure_ (i := 9) (N := some 22) (v := undef) (a' := ?_) fz6_10 rfl rfl (any_of HT_.out (by kernel_rfl)) (fun _ _ _ h => h) (Or.inr ⟨by rfl, rfl⟩) ?_ ?_
        rotate_left
        ·simp only [Act.put, sA, sB, sC, i64_w, i32_w]
         rfl
        refine pure_ (i := 10) (N := some 23) (v := undef) (a' := ?_) fz6_11 rfl rfl (any_of HT_.out (by kernel_rfl)) (fun _ _ _ h => h) (Or.inr ⟨by rfl, rfl⟩) ?_ ?_
        rotate_left
        ·simp only [Act.put, sA, sB, sC, i64_w, i32_w]
         rfl
        refine pure_ (i := 11) (N := some 24) (v := undef) (a' := ?_) fz6_12 rfl rfl (any_of HT_.out (by kernel_rfl)) (fun _ _ _ h => h) (Or.inr ⟨by rfl, rfl⟩) ?_ ?_
        rotate_left
        ·simp only [Act.put, sA, sB, sC, i64_w, i32_w]
         rfl
        refine pure_ (i := 12) (N := some 25) (v := undef) (a' := ?_) fz6_13 rfl rfl (any_of HT_.out (by kernel_rfl)) (fun _ _ _ h => h) (Or.inr ⟨by rfl, rfl⟩) ?_ ?_
        rotate_left
        ·simp only [Act.put, sA, sB, sC, i64_w, i32_w]
         rfl
        refine pure_ (i := 13) (N := some 26) (v := undef) (a' := ?_) fz6_14 rfl rfl (any_of HT_.out (by kernel_rfl)) (fun _ _ _ h => h) (Or.inr ⟨by rfl, rfl⟩) ?_ ?_
        rotate_left
        ·simp only [Act.put, sA, sB, sC, i64_w, i32_w]
         rfl
        refine pure_ (i := 14) (N := some 27) (v := undef) (a' := ?_) fz6_15 rfl rfl (any_of HT_.out (by kernel_rfl)) (fun _ _ _ h => h) (Or.inr ⟨by rfl, rfl⟩) ?_ ?_
        rotate_left
        ·simp only [Act.put, sA, sB, sC, i64_w, i32_w]
         rfl
        refine pure_ (i := 15) (N := some 28) (v := ?_) (a' := ?_) fz6_16 rfl rfl (any_of HT_.out (by kernel_rfl)) (fun _ _ _ h => h) (Or.inl ⟨by rfl, ?_⟩) ?_ ?_
        rotate_left
        ·intro w'
         go_simp
         with_reducible rfl
        rotate_left
        ·simp only [Act.put, sA, sB, sC, i64_w, i32_w]
         rfl
        refine pure_ (i := 16) (N := some 29) (v := ?_) (a' := ?_) fz6_17 rfl rfl (any_of HT_.out (by kernel_rfl)) (fun _ _ _ h => h) (Or.inl ⟨by rfl, ?_⟩) ?_ ?_
        rotate_left
        ·intro w'
         go_simp
         with_reducible rfl
        rotate_left
        ·simp only [Act.put, sA, sB, sC, i64_w, i32_w]
         rfl
        refine pure_ (i := 17) (N := some 30) (v := undef) (a' := ?_) fz6_18 rfl rfl (any_of HT_.out (by kernel_rfl)) (fun _ _ _ h => h) (Or.inr ⟨by rfl, rfl⟩) ?_ ?_
        rotate_left
        ·simp only [Act.put, sA, sB, sC, i64_w, i32_w]
         rfl
        refine pure_ (i := 18) (N := some 31) (v := undef) (a' := ?_) fz6_19 rfl rfl (any_of HT_.out (by kernel_rfl)) (fun _ _ _ h => h) (Or.inr ⟨by rfl, rfl⟩) ?_ ?_
        rotate_left
        ·simp only [Act.put, sA, sB, sC, i64_w, i32_w]
         rfl
        refine pure_ (i := 19) (N := some 32) (v := undef) (a' := ?_) fz6_20 rfl rfl (any_of HT_.out (by kernel_rfl)) (fun _ _ _ h => h) (Or.inr ⟨by rfl, rfl⟩) ?_ ?_
        rotate_left
        ·simp only [Act.put, sA, sB, sC, i64_w, i32_w]
         rfl
        refine pure_ (i := 20) (N := some 33) (v := undef) (a' := ?_) fz6_21 rfl rfl (any_of HT_.out (by kernel_rfl)) (fun _ _ _ h => h) (Or.inr ⟨by rfl, rfl⟩) ?_ ?_
        rotate_left
        ·simp only [Act.put, sA, sB, sC, i64_w, i32_w]
         rfl
        refine pure_ (i := 21) (N := some 34) (v := undef) (a' := ?_) fz6_22 rfl rfl (any_of HT_.out (by kernel_rfl)) (fun _ _ _ h => h) (Or.inr ⟨by rfl, rfl⟩) ?_ ?_
        rotate_left
        ·simp only [Act.put, sA, sB, sC, i64_w, i32_w]
         rfl
        refine pure_ (i := 22) (N := some 35) (v := undef) (a' := ?_) fz6_23 rfl rfl (any_of HT_.out (by kernel_rfl)) (fun _ _ _ h => h) (Or.inr ⟨by rfl, rfl⟩) ?_ ?_
        rotate_left
        ·simp only [Act.put, sA, sB, sC, i64_w, i32_w]
         rfl
        refine pure_ (i := 23) (N := some 36) (v := undef) (a' := ?_) fz6_24 rfl rfl (any_of HT_.out (by kernel_rfl)) (fun _ _ _ h => h) (Or.inr ⟨by rfl, rfl⟩) ?_ ?_
        rotate_left
        ·simp only [Act.put, sA, sB, sC, i64_w, i32_w]
         rfl
        refine pure_ (i := 24) (N := some 37) (v := ?_) (a' := ?_) fz6_25 rfl rfl (any_of HT_.out (by kernel_rfl)) (fun _ _ _ h => h) (Or.inl ⟨by rfl, ?_⟩) ?_ ?_
        rotate_left
        ·intro w'
         go_simp
         with_reducible rfl
        rotate_left
        ·simp only [Act.put, sA, sB, sC, i64_w, i32_w]
         rfl
        refine pure_ (i := 25) (N := some 38) (v := ?_) (a' := ?_) fz6_26 rfl rfl (any_of HT_.out (by kernel_rfl)) (fun _ _ _ h => h) (Or.inl ⟨by rfl, ?_⟩) ?_ ?_
        rotate_left
        ·intro w'
         go_simp
         with_reducible rfl
        rotate_left
        ·simp only [Act.put, sA, sB, sC, i64_w, i32_w]
         rfl
        refine pure_ (i := 26) (N := some 39) (v := undef) (a' := ?_) fz6_27 rfl rfl (any_of HT_.out (by kernel_rfl)) (fun _ _ _ h => h) (Or.inr ⟨by rfl, rfl⟩) ?_ ?_
        rotate_left
        ·simp only [Act.put, sA, sB, sC, i64_w, i32_w]
         rfl
        refine pure_ (i := 27) (N := some 40) (v := undef) (a' := ?_) fz6_28 rfl rfl (any_of HT_.out (by kernel_rfl)) (fun _ _ _ h => h) (Or.inr ⟨by rfl, rfl⟩) ?_ ?_
        rotate_left
        ·simp only [Act.put, sA, sB, sC, i64_w, i32_w]
         rfl
        refine pure_ (i := 28) (N := some 41) (v := undef) (a' := ?_) fz6_29 rfl rfl (any_of HT_.out (by kernel_rfl)) (fun _ _ _ h => h) (Or.inr ⟨by rfl, rfl⟩) ?_ ?_
        rotate_left
        ·simp only [Act.put, sA, sB, sC, i64_w, i32_w]
         rfl
        refine pure_ (i := 29) (N := some 42) (v := undef) (a' := ?_) fz6_30 rfl rfl (any_of HT_.out (by kernel_rfl)) (fun _ _ _ h => h) (Or.inr ⟨by rfl, rfl⟩) ?_ ?_
        rotate_left
        ·simp only [Act.put, sA, sB, sC, i64_w, i32_w]
         rfl
        refine pure_ (i := 30) (N := some 43) (v := undef) (a' := ?_) fz6_31 rfl rfl (any_of HT_.out (by kernel_rfl)) (fun _ _ _ h => h) (Or.inr ⟨by rfl, rfl⟩) ?_ ?_
        rotate_left
        ·simp only [Act.put, sA, sB, sC, i64_w, i32_w]
         rfl
        refine pure_ (i := 31) (N := some 44) (v := undef) (a' := ?_) fz6_32 rfl rfl (any_of HT_.out (by kernel_rfl)) (fun _ _ _ h => h) (Or.inr ⟨by rfl, rfl⟩) ?_ ?_
        rotate_left
        ·simp only [Act.put, sA, sB, sC, i64_w, i32_w]
         rfl
        refine pure_ (i := 32) (N := some 45) (v := undef) (a' := ?_) fz6_33 rfl rfl (any_of HT_.out (by kernel_rfl)) (fun _ _ _ h => h) (Or.inr ⟨by rfl, rfl⟩) ?_ ?_
        rotate_left
        ·simp only [Act.put, sA, sB, sC, i64_w, i32_w]
         rfl
        refine pure_ (i := 33) (N := some 46) (v := ?_) (a' := ?_) fz6_34 rfl rfl (any_of HT_.out (by kernel_rfl)) (fun _ _ _ h => h) (Or.inl ⟨by rfl, ?_⟩) ?_ ?_
        rotate_left
        ·intro w'
         go_simp
         with_reducible rfl
        rotate_left
        ·simp only [Act.put, sA, sB, sC, i64_w, i32_w]
         rfl
        refine pure_ (i := 34) (N := some 47) (v := ?_) (a' := ?_) fz6_35 rfl rfl (any_of HT_.out (by kernel_rfl)) (fun _ _ _ h => h) (Or.inl ⟨by rfl, ?_⟩) ?_ ?_
        rotate_left
        ·intro w'
         go_simp
         with_reducible rfl
        rotate_left
        ·simp only [Act.put, sA, sB, sC, i64_w, i32_w]
         rfl
        refine pure_ (i := 35) (N := some 48) (v := undef) (a' := ?_) fz6_36 rfl rfl (any_of HT_.out (by kernel_rfl)) (fun _ _ _ h => h) (Or.inr ⟨by rfl, rfl⟩) ?_ ?_
        rotate_left
        ·simp only [Act.put, sA, sB, sC, i64_w, i32_w]
         rfl
        refine pure_ (i := 36) (N := some 49) (v := undef) (a' := ?_) fz6_37 rfl rfl (any_of HT_.out (by kernel_rfl)) (fun _ _ _ h => h) (Or.inr ⟨by rfl, rfl⟩) ?_ ?_
        rotate_left
        ·simp only [Act.put, sA, sB, sC, i64_w, i32_w]
         rfl
        refine pure_ (i := 37) (N := some 50) (v := undef) (a' := ?_) fz6_38 rfl rfl (any_of HT_.out (by kernel_rfl)) (fun _ _ _ h => h) (Or.inr ⟨by rfl, rfl⟩) ?_ ?_
        rotate_left
        ·simp only [Act.put, sA, sB, sC, i64_w, i32_w]
         rfl
        refine pure_ (i := 38) (N := some 51) (v := undef) (a' := ?_) fz6_39 rfl rfl (any_of HT_.out (by kernel_rfl)) (fun _ _ _ h => h) (Or.inr ⟨by rfl, rfl⟩) ?_ ?_
        rotate_left
        ·simp only [Act.put, sA, sB, sC, i64_w, i32_w]
         rfl
        refine pure_ (i := 39) (N := some 52) (v := undef) (a' := ?_) fz6_40 rfl rfl (any_of HT_.out (by kernel_rfl)) (fun _ _ _ h => h) (Or.inr ⟨by rfl, rfl⟩) ?_ ?_
        rotate_left
        ·simp only [Act.put, sA, sB, sC, i64_w, i32_w]
         rfl
        refine pure_ (i := 40) (N := some 53) (v := undef) (a' := ?_) fz6_41 rfl rfl (any_of HT_.out (by kernel_rfl)) (fun _ _ _ h => h) (Or.inr ⟨by rfl, rfl⟩) ?_ ?_
        rotate_left
        ·simp only [Act.put, sA, sB, sC, i64_w, i32_w]
         rfl
        refine pure_ (i := 41) (N := some 54) (v := undef) (a' := ?_) fz6_42 rfl rfl (any_of HT_.out (by kernel_rfl)) (fun _ _ _ h => h) (Or.inr ⟨by rfl, rfl⟩) ?_ ?_
        rotate_left
        ·simp only [Act.put, sA, sB, sC, i64_w, i32_w]
         rfl
        refine pure_ (i := 42) (N := some 55) (v := undef) (a' := ?_) fz6_43 rfl rfl (any_of HT_.out (by kernel_rfl)) (fun _ _ _ h => h) (Or.inr ⟨by rfl, rfl⟩) ?_ ?_
        rotate_left
        ·simp only [Act.put, sA, sB, sC, i64_w, i32_w]
         rfl
        refine pure_ (i := 43) (N := some 56) (v := undef) (a' := ?_) fz6_44 rfl rfl (any_of HT_.out (by kernel_rfl)) (fun _ _ _ h => h) (Or.inr ⟨by rfl, rfl⟩) ?_ ?_
        rotate_left
        ·simp only [Act.put, sA, sB, sC, i64_w, i32_w]
         rfl
        refine pure_ (i := 44) (N := some 57) (v := undef) (a' := ?_) fz6_45 rfl rfl (any_of HT_.out (by kernel_rfl)) (fun _ _ _ h => h) (Or.inr ⟨by rfl, rfl⟩) ?_ ?_
        rotate_left
        ·simp only [Act.put, sA, sB, sC, i64_w, i32_w]
         rfl
        refine pure_ (i := 45) (N := some 58) (v := undef) (a' := ?_) fz6_46 rfl rfl (any_of HT_.out (by kernel_rfl)) (fun _ _ _ h => h) (Or.inr ⟨by rfl, rfl⟩) ?_ ?_
        rotate_left
        ·simp only [Act.put, sA, sB, sC, i64_w, i32_w]
         rfl
        refine pure_ (i := 46) (N := some 59) (v := undef) (a' := ?_) fz6_47 rfl rfl (any_of HT_.out (by kernel_rfl)) (fun _ _ _ h => h) (Or.inr ⟨by rfl, rfl⟩) ?_ ?_
        rotate_left
        ·simp only [Act.put, sA, sB, sC, i64_w, i32_w]
         rfl
        refine pure_ (i := 47) (N := some 60) (v := undef) (a' := ?_) fz6_48 rfl rfl (any_of HT_.out (by kernel_rfl)) (fun _ _ _ h => h) (Or.inr ⟨by rfl, rfl⟩) ?_ ?_
        rotate_left
        ·simp only [Act.put, sA, sB, sC, i64_w, i32_w]
         rfl
        refine pure_ (i := 48) (N := some 61) (v := undef) (a' := ?_) fz6_49 rfl rfl (any_of HT_.out (by kernel_rfl)) (fun _ _ _ h => h) (Or.inr ⟨by rfl, rfl⟩) ?_ ?_
        rotate_left
        ·simp only [Act.put, sA, sB, sC, i64_w, i32_w]
         rfl
        refine pure_ (i := 49) (N := some 62) (v := undef) (a' := ?_) fz6_50 rfl rfl (any_of HT_.out (by kernel_rfl)) (fun _ _ _ h => h) (Or.inr ⟨by rfl, rfl⟩) ?_ ?_
        rotate_left
        ·simp only [Act.put, sA, sB, sC, i64_w, i32_w]
         rfl
        refine pure_ (i := 50) (N := some 63) (v := undef) (a' := ?_) fz6_51 rfl rfl (any_of HT_.out (by kernel_rfl)) (fun _ _ _ h => h) (Or.inr ⟨by rfl, rfl⟩) ?_ ?_
        rotate_left
        ·simp only [Act.put, sA, sB, sC, i64_w, i32_w]
         rfl
        refine pure_ (i := 51) (N := some 64) (v := ?_) (a' := ?_) fz6_52 rfl rfl (any_of HT_.out (by kernel_rfl)) (fun _ _ _ h => h) (Or.inl ⟨by rfl, ?_⟩) ?_ ?_
        rotate_left
        ·intro w'
         go_simp
         with_reducible rfl
        rotate_left
        ·simp only [Act.put, sA, sB, sC, i64_w, i32_w]
         rfl
        refine done_ (done_of HT_.out (by kernel_rfl)) ?_
        try go_wp2
        go_meet
        case rel => exact ⟨_, (true), (by first | rfl | (simp; done) | (simp [*]; done)), H', ⟨by have := HK1.out; first | omega | exact Nat.le_refl _⟩, ⟨by repeat (first | (with_reducible first | exact HB.out | apply below_alloc | apply pw_below_drewN | apply below_drew1) | exact HB.out)⟩⟩
      ·rw [if_neg c5] at H
       exact absurd H (by simp)
     case rest =>
      clear HC4
      try clear c1
      try clear p1
      try clear q1
      try clear hx1
      try clear p2
      try clear c5
      try clear c7
      try clear c10
      try clear p10
      try clear q10
      try clear hx10
      try clear hx106_0
      try clear hx106_1
      try clear hx106_2
      try clear hx106_3
      try clear hx106_4
      try clear hx106_5
      try clear p106
      try clear q106
      obtain ⟨kq, x64_3, rfl, HA, HJ3, HB⟩ := hcut
      cases kq with
      | zero => exact absurd HA.out (by simp [lecternref14_May.j1])
      | succ kj3 =>
       have H := HA.out
       clear HA
       simp only [lecternref14_May.j1] at H
       by_cases c27 : x64_3 = true
       ·subst c27
        have H1 : (some false) = some r := by rw [if_pos rfl] at H; exact H
        clear H
        have H := H1
        clear H1
        obtain rfl := Option.some.inj H
        go_wp2
        go_ret
        exact ⟨by first | rfl | (simp [errW_none, errW_some] <;> rfl) | (simp [*, errW_none, errW_some] <;> rfl), by repeat (first | (with_reducible first | exact HB.out | apply below_alloc | apply pw_below_drewN | apply below_drew1) | exact HB.out)⟩
       ·replace c27 := Bool.eq_false_iff.mpr c27
        subst c27
        have H1 : (lecternref14_May.l0 kj3 l0 (wrap64 (x3_1 + 1))) = some r := by rw [if_neg (show ¬ (false = true) by decide)] at H; exact H
        clear H
        have H := H1
        clear H1
        have H' := Aside0.mk H
        clear H
        go_wp2
        go_roundg kj3
        case measure => have := HK1.out; have := HJ3.out; omega
        case rel => exact ⟨(wrap64 (x3_1 + 1)), (by first | rfl | (simp; done) | (simp [*]; done)), H', ⟨by have := HK1.out; have := HJ3.out; omega⟩, ⟨by repeat (first | (with_reducible first | exact HB.out | apply below_alloc | apply pw_below_drewN | apply below_drew1) | exact HB.out)⟩⟩
    ·rw [if_neg c3] at H
     have c3b0 : decide (x3_1 < (l0.length : Int)) = false := decide_eq_false c3
     clear c3
     obtain rfl := Option.some.inj H
     go_wp2
     go_ret
     exact ⟨by first | rfl | (simp [errW_none, errW_some] <;> rfl) | (simp [*, errW_none, errW_some] <;> rfl), by repeat (first | (with_reducible first | exact HB.out | apply below_alloc | apply pw_below_drewN | apply below_drew1) | exact HB.out)⟩

end Go.Proofs.Ytcacckaonjnmjaa.S
