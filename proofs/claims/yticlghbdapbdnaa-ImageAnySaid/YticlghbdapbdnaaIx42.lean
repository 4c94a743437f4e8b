-- Written by a program: the kit's printer with changes of this session (NOTES.md).
import Derived.Test.YticlghbdapbdnaaSShort
import Derived.Test.YticlghbdapbdnaaIx0
import Derived.Test.YticlghbdapbdnaaIp3
namespace Go.Proofs.Yticlghbdapbdnaa.I
open Go.RowKit Go.Proofs.YticlghbdapbdnaaW.PrintWords Go.Proofs.YticlghbdapbdnaaW.PrintLast Go.Proofs.YticlghbdapbdnaaW.PrintMore
attribute [local go_sem] max2_int min2_int max_two min_two max_three min_three max_four min_four   -- for this text's walks alone
set_option linter.unusedVariables false
set_option linter.unusedSimpArgs false

-- shrunk
@[reducible] def fz42_0 : Array Bool := #[false, false, false, false, false, false, false, false, false, false, false, false, false, false, false, false, false, false, false, false, false, false, false, false, false, false, false, false, false, false, false, false, false, false, false, false, false, false, false, false, false, false, false, false, false, false, false, false, false, false, false, false]
@[reducible] def fz42_1 : Array Bool := #[true, false, false, false, false, false, false, false, false, false, false, false, false, false, false, false, false, false, false, false, false, false, false, false, false, false, false, false, false, false, false, false, false, false, false, false, false, false, false, false, false, false, false, false, false, false, false, false, false, false, false, false]
@[reducible] def fz42_2 : Array Bool := #[true, true, false, false, false, false, false, false, false, false, false, false, false, false, false, false, false, false, false, false, false, false, false, false, false, false, false, false, false, false, false, false, false, false, false, false, false, false, false, false, false, false, false, false, false, false, false, false, false, false, false, false]
@[reducible] def fz42_3 : Array Bool := #[true, true, true, false, false, false, false, false, false, false, false, false, false, false, false, false, false, false, false, false, false, false, false, false, false, false, false, false, false, false, false, false, false, false, false, false, false, false, false, false, false, false, false, false, false, false, false, false, false, false, false, false]
@[reducible] def fz42_4 : Array Bool := #[true, true, true, true, false, false, false, false, false, false, false, false, false, false, false, false, false, false, false, false, false, false, false, false, false, false, false, false, false, false, false, false, false, false, false, false, false, false, false, false, false, false, false, false, false, false, false, false, false, false, false, false]
@[reducible] def fz42_5 : Array Bool := #[true, true, true, true, true, false, false, false, false, false, false, false, false, false, false, false, false, false, false, false, false, false, false, false, false, false, false, false, false, false, false, false, false, false, false, false, false, false, false, false, false, false, false, false, false, false, false, false, false, false, false, false]
@[reducible] def fz42_6 : Array Bool := #[true, true, true, true, true, true, false, false, false, false, false, false, false, false, false, false, false, false, false, false, false, false, false, false, false, false, false, false, false, false, false, false, false, false, false, false, false, false, false, false, false, false, false, false, false, false, false, false, false, false, false, false]
@[reducible] def fz42_7 : Array Bool := #[true, true, true, true, true, true, true, false, false, false, false, false, false, false, false, false, false, false, false, false, false, false, false, false, false, false, false, false, false, false, false, false, false, false, false, false, false, false, false, false, false, false, false, false, false, false, false, false, false, false, false, false]
@[reducible] def fz42_8 : Array Bool := #[true, true, true, true, true, true, true, true, false, false, false, false, false, false, false, false, false, false, false, false, false, false, false, false, false, false, false, false, false, false, false, false, false, false, false, false, false, false, false, false, false, false, false, false, false, false, false, false, false, false, false, false]
@[reducible] def fz42_9 : Array Bool := #[true, true, true, true, true, true, true, true, true, false, false, false, false, false, false, false, false, false, false, false, false, false, false, false, false, false, false, false, false, false, false, false, false, false, false, false, false, false, false, false, false, false, false, false, false, false, false, false, false, false, false, false]
@[reducible] def fz42_10 : Array Bool := #[true, true, true, true, true, true, true, true, true, true, false, false, false, false, false, false, false, false, false, false, false, false, false, false, false, false, false, false, false, false, false, false, false, false, false, false, false, false, false, false, false, false, false, false, false, false, false, false, false, false, false, false]
@[reducible] def fz42_11 : Array Bool := #[true, true, true, true, true, true, true, true, true, true, true, false, false, false, false, false, false, false, false, false, false, false, false, false, false, false, false, false, false, false, false, false, false, false, false, false, false, false, false, false, false, false, false, false, false, false, false, false, false, false, false, false]
@[reducible] def fz42_12 : Array Bool := #[true, true, true, true, true, true, true, true, true, true, true, true, false, false, false, false, false, false, false, false, false, false, false, false, false, false, false, false, false, false, false, false, false, false, false, false, false, false, false, false, false, false, false, false, false, false, false, false, false, false, false, false]
@[reducible] def fz42_13 : Array Bool := #[true, true, true, true, true, true, true, true, true, true, true, true, true, false, false, false, false, false, false, false, false, false, false, false, false, false, false, false, false, false, false, false, false, false, false, false, false, false, false, false, false, false, false, false, false, false, false, false, false, false, false, false]
@[reducible] def fz42_14 : Array Bool := #[true, true, true, true, true, true, true, true, true, true, true, true, true, true, false, false, false, false, false, false, false, false, false, false, false, false, false, false, false, false, false, false, false, false, false, false, false, false, false, false, false, false, false, false, false, false, false, false, false, false, false, false]
@[reducible] def fz42_15 : Array Bool := #[true, true, true, true, true, true, true, true, true, true, true, true, true, true, true, false, false, false, false, false, false, false, false, false, false, false, false, false, false, false, false, false, false, false, false, false, false, false, false, false, false, false, false, false, false, false, false, false, false, false, false, false]
@[reducible] def fz42_16 : Array Bool := #[true, true, true, true, true, true, true, true, true, true, true, true, true, true, true, true, false, false, false, false, false, false, false, false, false, false, false, false, false, false, false, false, false, false, false, false, false, false, false, false, false, false, false, false, false, false, false, false, false, false, false, false]
@[reducible] def fz42_17 : Array Bool := #[true, true, true, true, true, true, true, true, true, true, true, true, true, true, true, true, true, false, false, false, false, false, false, false, false, false, false, false, false, false, false, false, false, false, false, false, false, false, false, false, false, false, false, false, false, false, false, false, false, false, false, false]
@[reducible] def fz42_18 : Array Bool := #[true, true, true, true, true, true, true, true, true, true, true, true, true, true, true, true, true, true, false, false, false, false, false, false, false, false, false, false, false, false, false, false, false, false, false, false, false, false, false, false, false, false, false, false, false, false, false, false, false, false, false, false]
@[reducible] def fz42_19 : Array Bool := #[true, true, true, true, true, true, true, true, true, true, true, true, true, true, true, true, true, true, true, false, false, false, false, false, false, false, false, false, false, false, false, false, false, false, false, false, false, false, false, false, false, false, false, false, false, false, false, false, false, false, false, false]
@[reducible] def fz42_20 : Array Bool := #[true, true, true, true, true, true, true, true, true, true, true, true, true, true, true, true, true, true, true, true, false, false, false, false, false, false, false, false, false, false, false, false, false, false, false, false, false, false, false, false, false, false, false, false, false, false, false, false, false, false, false, false]
@[reducible] def fz42_21 : Array Bool := #[true, true, true, true, true, true, true, true, true, true, true, true, true, true, true, true, true, true, true, true, true, false, false, false, false, false, false, false, false, false, false, false, false, false, false, false, false, false, false, false, false, false, false, false, false, false, false, false, false, false, false, false]
@[reducible] def fz42_22 : Array Bool := #[true, true, true, true, true, true, true, true, true, true, true, true, true, true, true, true, true, true, true, true, true, true, false, false, false, false, false, false, false, false, false, false, false, false, false, false, false, false, false, false, false, false, false, false, false, false, false, false, false, false, false, false]
@[reducible] def fz42_23 : Array Bool := #[true, true, true, true, true, true, true, true, true, true, true, true, true, true, true, true, true, true, true, true, true, true, true, false, false, false, false, false, false, false, false, false, false, false, false, false, false, false, false, false, false, false, false, false, false, false, false, false, false, false, false, false]
@[reducible] def fz42_24 : Array Bool := #[true, true, true, true, true, true, true, true, true, true, true, true, true, true, true, true, true, true, true, true, true, true, true, true, false, false, false, false, false, false, false, false, false, false, false, false, false, false, false, false, false, false, false, false, false, false, false, false, false, false, false, false]
@[reducible] def fz42_25 : Array Bool := #[true, true, true, true, true, true, true, true, true, true, true, true, true, true, true, true, true, true, true, true, true, true, true, true, true, false, false, false, false, false, false, false, false, false, false, false, false, false, false, false, false, false, false, false, false, false, false, false, false, false, false, false]
@[reducible] def fz42_26 : Array Bool := #[true, true, true, true, true, true, true, true, true, true, true, true, true, true, true, true, true, true, true, true, true, true, true, true, true, true, false, false, false, false, false, false, false, false, false, false, false, false, false, false, false, false, false, false, false, false, false, false, false, false, false, false]
@[reducible] def fz42_27 : Array Bool := #[true, true, true, true, true, true, true, true, true, true, true, true, true, true, true, true, true, true, true, true, true, true, true, true, true, true, true, false, false, false, false, false, false, false, false, false, false, false, false, false, false, false, false, false, false, false, false, false, false, false, false, false]
@[reducible] def fz42_28 : Array Bool := #[true, true, true, true, true, true, true, true, true, true, true, true, true, true, true, true, true, true, true, true, true, true, true, true, true, true, true, true, false, false, false, false, false, false, false, false, false, false, false, false, false, false, false, false, false, false, false, false, false, false, false, false]
@[reducible] def fz42_29 : Array Bool := #[true, true, true, true, true, true, true, true, true, true, true, true, true, true, true, true, true, true, true, true, true, true, true, true, true, true, true, true, true, false, false, false, false, false, false, false, false, false, false, false, false, false, false, false, false, false, false, false, false, false, false, false]
@[reducible] def fz42_30 : Array Bool := #[true, true, true, true, true, true, true, true, true, true, true, true, true, true, true, true, true, true, true, true, true, true, true, true, true, true, true, true, true, true, false, false, false, false, false, false, false, false, false, false, false, false, false, false, false, false, false, false, false, false, false, false]
@[reducible] def fz42_31 : Array Bool := #[true, true, true, true, true, true, true, true, true, true, true, true, true, true, true, true, true, true, true, true, true, true, true, true, true, true, true, true, true, true, true, false, false, false, false, false, false, false, false, false, false, false, false, false, false, false, false, false, false, false, false, false]
@[reducible] def fz42_32 : Array Bool := #[true, true, true, true, true, true, true, true, true, true, true, true, true, true, true, true, true, true, true, true, true, true, true, true, true, true, true, true, true, true, true, true, false, false, false, false, false, false, false, false, false, false, false, false, false, false, false, false, false, false, false, false]
@[reducible] def fz42_33 : Array Bool := #[true, true, true, true, true, true, true, true, true, true, true, true, true, true, true, true, true, true, true, true, true, true, true, true, true, true, true, true, true, true, true, true, true, false, false, false, false, false, false, false, false, false, false, false, false, false, false, false, false, false, false, false]
@[reducible] def fz42_34 : Array Bool := #[true, true, true, true, true, true, true, true, true, true, true, true, true, true, true, true, true, true, true, true, true, true, true, true, true, true, true, true, true, true, true, true, true, true, false, false, false, false, false, false, false, false, false, false, false, false, false, false, false, false, false, false]
@[reducible] def fz42_35 : Array Bool := #[true, true, true, true, true, true, true, true, true, true, true, true, true, true, true, true, true, true, true, true, true, true, true, true, true, true, true, true, true, true, true, true, true, true, true, false, false, false, false, false, false, false, false, false, false, false, false, false, false, false, false, false]
@[reducible] def fz42_36 : Array Bool := #[true, true, true, true, true, true, true, true, true, true, true, true, true, true, true, true, true, true, true, true, true, true, true, true, true, true, true, true, true, true, true, true, true, true, true, true, false, false, false, false, false, false, false, false, false, false, false, false, false, false, false, false]
@[reducible] def fz42_37 : Array Bool := #[true, true, true, true, true, true, true, true, true, true, true, true, true, true, true, true, true, true, true, true, true, true, true, true, true, true, true, true, true, true, true, true, true, true, true, true, true, false, false, false, false, false, false, false, false, false, false, false, false, false, false, false]
@[reducible] def fz42_38 : Array Bool := #[true, true, true, true, true, true, true, true, true, true, true, true, true, true, true, true, true, true, true, true, true, true, true, true, true, true, true, true, true, true, true, true, true, true, true, true, true, true, false, false, false, false, false, false, false, false, false, false, false, false, false, false]
@[reducible] def fz42_39 : Array Bool := #[true, true, true, true, true, true, true, true, true, true, true, true, true, true, true, true, true, true, true, true, true, true, true, true, true, true, true, true, true, true, true, true, true, true, true, true, true, true, true, false, false, false, false, false, false, false, false, false, false, false, false, false]
@[reducible] def fz42_40 : Array Bool := #[true, true, true, true, true, true, true, true, true, true, true, true, true, true, true, true, true, true, true, true, true, true, true, true, true, true, true, true, true, true, true, true, true, true, true, true, true, true, true, true, false, false, false, false, false, false, false, false, false, false, false, false]
@[reducible] def fz42_41 : Array Bool := #[true, true, true, true, true, true, true, true, true, true, true, true, true, true, true, true, true, true, true, true, true, true, true, true, true, true, true, true, true, true, true, true, true, true, true, true, true, true, true, true, true, false, false, false, false, false, false, false, false, false, false, false]
@[reducible] def fz42_42 : Array Bool := #[true, true, true, true, true, true, true, true, true, true, true, true, true, true, true, true, true, true, true, true, true, true, true, true, true, true, true, true, true, true, true, true, true, true, true, true, true, true, true, true, true, true, false, false, false, false, false, false, false, false, false, false]
@[reducible] def fz42_43 : Array Bool := #[true, true, true, true, true, true, true, true, true, true, true, true, true, true, true, true, true, true, true, true, true, true, true, true, true, true, true, true, true, true, true, true, true, true, true, true, true, true, true, true, true, true, true, false, false, false, false, false, false, false, false, false]
@[reducible] def fz42_44 : Array Bool := #[true, true, true, true, true, true, true, true, true, true, true, true, true, true, true, true, true, true, true, true, true, true, true, true, true, true, true, true, true, true, true, true, true, true, true, true, true, true, true, true, true, true, true, true, true, true, true, true, false, false, false, false]
@[reducible] def fz42_45 : Array Bool := #[true, true, true, true, true, true, true, true, true, true, true, true, true, true, true, true, true, true, true, true, true, true, true, true, true, true, true, true, true, true, true, true, true, true, true, true, true, true, true, true, true, true, true, true, true, true, true, true, true, false, false, false]
@[reducible] def fz42_46 : Array Bool := #[true, true, true, true, true, true, true, true, true, true, true, true, true, true, true, true, true, true, true, true, true, true, true, true, true, true, true, true, true, true, true, true, true, true, true, true, true, true, true, true, true, true, true, true, true, true, true, true, true, true, false, false]
@[reducible] def fz42_47 : Array Bool := #[true, true, true, true, true, true, true, true, true, true, true, true, true, true, true, true, true, true, true, true, true, true, true, true, true, true, true, true, true, true, true, true, true, true, true, true, true, true, true, true, true, true, true, true, true, true, true, true, true, true, true, false]
@[reducible] def fz42_48 : Array Bool := #[true, true, true, true, true, true, true, true, true, true, true, true, true, true, true, true, true, true, true, true, true, true, true, true, true, true, true, true, true, true, true, true, true, true, true, true, true, true, true, true, true, true, true, true, true, true, true, true, true, true, true, true]
/-! ### lecternref14_May: function 24 -/
def lecternref14_May.l0 : Nat → List (S47) → Int → Option (Bool)
 | 0, _, _ => none
 | k + 1, x0, x3 => if x3 < (x0.length : Int) then (if 0 ≤ x3 then ((lecternref14_id.f ((rd_T47 x0 x3).f0)).bind fun t230 => (if t230 = true then ((lecternref0_Num.f ((rd_T47 x0 x3).f1)).bind fun t232 => (if t232 = true then ((lecternref0_Num.f ((rd_T47 x0 x3).f3)).bind fun t234 => (if t234 = true then ((lecternref14_MayReply.f ((rd_T47 x0 x3).f2.f0) ((rd_T47 x0 x3).f2.f1) ((rd_T47 x0 x3).f2.f2)).bind fun t236 => (if t236 = true then (if x3 > 0 then (if 0 ≤ (wrap64 (x3 - 1)) then (if (wrap64 (x3 - 1)) < (x0.length : Int) then (if ((rd_T47 x0 (wrap64 (x3 - 1))).f0) ≥ ((rd_T47 x0 x3).f0) then (none) else (lecternref14_May.l0 k x0 (wrap64 (x3 + 1)))) else (none)) else (none)) else (lecternref14_May.l0 k x0 (wrap64 (x3 + 1)))) else (none))) else (none))) else (none))) else (none))) else (none)) else (some true)
def lecternref14_May.f (k : Nat) (l0 : List (S47)) : Option (Bool) := if (l0.length : Int) > 8 then (none) else (lecternref14_May.l0 k l0 0)
theorem lecternref14_May.mono_l : ∀ k, (∀ y0 y1, LeO (lecternref14_May.l0 k y0 y1) (lecternref14_May.l0 (k + 1) y0 y1))
 | 0 => fun _ _ r h => by simp [lecternref14_May.l0] at h
 | k + 1 => by
  have ih0 := lecternref14_May.mono_l k
  ·intro y0 y1
   unfold lecternref14_May.l0
   repeat' first
   | (with_reducible exact ih0 _ _)
   | (with_reducible exact LeO.refl _)
   | (with_reducible exact LeO.none _)
   | (with_reducible refine LeO.ite ?_ ?_)
   | (with_reducible refine LeO.bind ?_ (fun _ => ?_))
   | exact ih0 _ _
   | exact LeO.none _
   | refine LeO.ite ?_ ?_
   | refine LeO.bind ?_ (fun _ => ?_)
theorem lecternref14_May.mono : ∀ a0 k, LeO (lecternref14_May.f k a0) (lecternref14_May.f (k + 1) a0) := by
 intro a0 k
 have ih0 := lecternref14_May.mono_l k
 unfold lecternref14_May.f
 repeat' first
   | (with_reducible exact ih0 _ _)
   | (with_reducible exact LeO.refl _)
   | (with_reducible exact LeO.none _)
   | (with_reducible refine LeO.ite ?_ ?_)
   | (with_reducible refine LeO.bind ?_ (fun _ => ?_))
   | exact ih0 _ _
   | exact LeO.none _
   | refine LeO.ite ?_ ?_
   | refine LeO.bind ?_ (fun _ => ?_)
def lecternref14_May.T6 : Bool × List (List Nat × List Nat) := (true, [([], []), ([], []), ([0, 1], [0, 1]), ([2], [2]), ([3], [3]), ([4], [4]), ([5], [5]), ([6, 5], [6]), ([7], [7]), ([7], [7]), ([8, 9, 7], [7, 8, 9]), ([10, 7], [7, 10]), ([11, 7], [7, 11]), ([12, 7, 7], [7, 12]), ([13, 7], [7, 13]), ([7, 14], [7, 14]), ([15, 13], [15]), ([16], [16]), ([16], [16]), ([17, 18, 16], [16, 17, 18]), ([19, 16], [16, 19]), ([20, 16], [16, 20]), ([21, 16, 16], [16, 21]), ([22, 16], [16, 22]), ([16, 23], [16, 23]), ([24, 22], [24]), ([25], [25]), ([25], [25]), ([26, 27, 25], [25, 26, 27]), ([28, 25], [25, 28]), ([29, 25], [25, 29]), ([30, 25, 25], [25, 30]), ([31, 25], [25, 31]), ([25, 32], [25, 32]), ([33, 31], [33]), ([34], [34]), ([35, 34], [34, 35]), ([36, 34, 34], [34, 36]), ([37], [37]), ([37], [37]), ([39, 37], [37, 39]), ([38, 40, 37], [37, 38, 40]), ([41, 37], [37, 41]), ([42, 37], [37, 42]), ([37], [37]), ([37], [37]), ([44, 45, 37], [37, 44, 45]), ([46, 37], [37, 46]), ([47, 37], [37, 47]), ([43, 48, 37], [37, 43, 48]), ([37, 49, 34], [34, 37, 49]), ([34, 50], [34, 50])])
def lecternref14_May.B6 : List Nat := [0, 0, 3, 7, 15, 31, 63, 127, 255, 255, 1023, 2047, 4095, 8191, 16383, 32767, 65535, 131071, 131071, 524287, 1048575, 2097151, 4194303, 8388607, 16777215, 33554431, 67108863, 67108863, 268435455, 536870911, 1073741823, 2147483647, 4294967295, 8589934591, 17179869183, 34359738367, 68719476735, 137438953471, 274877906943, 274877906943, 824633720831, 2199023255551, 4398046511103, 8796093022207, 274877906943, 274877906943, 53051436040191, 123420180217855, 264157668573183, 562949953421311, 1125899906842623, 2251799813685247]
theorem lecternref14_May.tab6 : rtab .any (opsOf Try.f24 6) = lecternref14_May.T6 := by kernel_rfl
theorem lecternref14_May.bits6 : waitsOk lecternref14_May.T6.2 lecternref14_May.B6 = true := by kernel_rfl
set_option maxHeartbeats 8000000 in
set_option maxRecDepth 100000 in
theorem lecternref14_May.calls (k : Nat) (A0 : Option Addr) (c0 : Nat) (l0 : List (S47)) (r : Bool) (w : World) (hr0 : Kd.C k47 w A0 l0.length l0) (hc0 : l0.length ≤ c0) (h : lecternref14_May.f k l0 = some r) :
  Calls Try.prog 24 #[.slice A0 l0.length c0] w fun e w' => e = .returned (.bool r) ∧ Below w.heap.size w w' := by
 have hu45 := Try.underlying45
 have HR0 := Aside0.mk hr0
 have HC0 := Aside0.mk hc0
 clear hr0 hc0
 have HB := Aside0.mk (Below.refl w.heap.size w)
 have H : (if (l0.length : Int) > 8 then (none) else (lecternref14_May.l0 k l0 0)) = some r := h
 clear h
 by_cases c2 : (l0.length : Int) > 8
 ·rw [if_pos c2] at H
  exact absurd H (by simp)
 ·rw [if_neg c2] at H
  have c2b0 : decide (8 < (l0.length : Int)) = false := decide_eq_false c2
  have c2b1 : decide (8 < l0.length) = false := decide_eq_false (by omega)
  clear c2
  have H' := Aside0.mk H
  clear H
  go_enter Try.func24, Try.ntmps24
  go_wp2
  go_loopg [3] k (fun kq v3 w' => ∃ (x3_1 : Int), v3 = .int .i64 x3_1 ∧ Aside0 (lecternref14_May.l0 kq l0 x3_1 = some r) ∧ Aside0 (kq ≤ k) ∧ Aside0 (Below w.heap.size w w'))
  case atStart => exact ⟨(0), (by first | rfl | (simp; done) | (simp [*]; done)), H', ⟨Nat.le_refl _⟩, ⟨by repeat (first | (with_reducible first | exact HB.out | apply below_alloc | apply pw_below_drewN | apply below_drew1) | exact HB.out)⟩⟩
  case round =>
   clear H'
   try clear c2
   try clear c2b0
   try clear c2b1
   try clear p2
   obtain ⟨x3_1, rfl, HA, HK1, HB⟩ := hrel
   cases gk with
   | zero => exact absurd HA.out (by simp [lecternref14_May.l0])
   | succ k1 =>
    have H := HA.out
    clear HA
    simp only [lecternref14_May.l0] at H
    by_cases c3 : x3_1 < (l0.length : Int)
    ·rw [if_pos c3] at H
     have c3b0 : decide (x3_1 < (l0.length : Int)) = true := decide_eq_true c3
     clear c3
     by_cases c4 : 0 ≤ x3_1
     ·rw [if_pos c4] at H
      have c4b0 : decide (0 ≤ x3_1) = true := decide_eq_true c4
      clear c4
      replace H := Option.bind_eq_some_iff.mp H
      obtain ⟨t230, A50, H⟩ := H
      replace H : (if t230 = true then ((lecternref0_Num.f ((rd_T47 l0 x3_1).f1)).bind fun t232 => (if t232 = true then ((lecternref0_Num.f ((rd_T47 l0 x3_1).f3)).bind fun t234 => (if t234 = true then ((lecternref14_MayReply.f ((rd_T47 l0 x3_1).f2.f0) ((rd_T47 l0 x3_1).f2.f1) ((rd_T47 l0 x3_1).f2.f2)).bind fun t236 => (if t236 = true then (if x3_1 > 0 then (if 0 ≤ (wrap64 (x3_1 - 1)) then (if (wrap64 (x3_1 - 1)) < (l0.length : Int) then (if ((rd_T47 l0 (wrap64 (x3_1 - 1))).f0) ≥ ((rd_T47 l0 x3_1).f0) then (none) else (lecternref14_May.l0 k1 l0 (wrap64 (x3_1 + 1)))) else (none)) else (none)) else (lecternref14_May.l0 k1 l0 (wrap64 (x3_1 + 1)))) else (none))) else (none))) else (none))) else (none)) = some r := H
      have A5 := Aside0.mk A50
      clear A50
      by_cases c6 : t230 = true
      ·subst c6
       have H1 : ((lecternref0_Num.f ((rd_T47 l0 x3_1).f1)).bind fun t232 => (if t232 = true then ((lecternref0_Num.f ((rd_T47 l0 x3_1).f3)).bind fun t234 => (if t234 = true then ((lecternref14_MayReply.f ((rd_T47 l0 x3_1).f2.f0) ((rd_T47 l0 x3_1).f2.f1) ((rd_T47 l0 x3_1).f2.f2)).bind fun t236 => (if t236 = true then (if x3_1 > 0 then (if 0 ≤ (wrap64 (x3_1 - 1)) then (if (wrap64 (x3_1 - 1)) < (l0.length : Int) then (if ((rd_T47 l0 (wrap64 (x3_1 - 1))).f0) ≥ ((rd_T47 l0 x3_1).f0) then (none) else (lecternref14_May.l0 k1 l0 (wrap64 (x3_1 + 1)))) else (none)) else (none)) else (lecternref14_May.l0 k1 l0 (wrap64 (x3_1 + 1)))) else (none))) else (none))) else (none))) = some r := by rw [if_pos rfl] at H; exact H
       clear H
       have H := H1
       clear H1
       replace H := Option.bind_eq_some_iff.mp H
       obtain ⟨t232, A70, H⟩ := H
       replace H : (if t232 = true then ((lecternref0_Num.f ((rd_T47 l0 x3_1).f3)).bind fun t234 => (if t234 = true then ((lecternref14_MayReply.f ((rd_T47 l0 x3_1).f2.f0) ((rd_T47 l0 x3_1).f2.f1) ((rd_T47 l0 x3_1).f2.f2)).bind fun t236 => (if t236 = true then (if x3_1 > 0 then (if 0 ≤ (wrap64 (x3_1 - 1)) then (if (wrap64 (x3_1 - 1)) < (l0.length : Int) then (if ((rd_T47 l0 (wrap64 (x3_1 - 1))).f0) ≥ ((rd_T47 l0 x3_1).f0) then (none) else (lecternref14_May.l0 k1 l0 (wrap64 (x3_1 + 1)))) else (none)) else (none)) else (lecternref14_May.l0 k1 l0 (wrap64 (x3_1 + 1)))) else (none))) else (none))) else (none)) = some r := H
       have A7 := Aside0.mk A70
       clear A70
       by_cases c8 : t232 = true
       ·subst c8
        have H1 : ((lecternref0_Num.f ((rd_T47 l0 x3_1).f3)).bind fun t234 => (if t234 = true then ((lecternref14_MayReply.f ((rd_T47 l0 x3_1).f2.f0) ((rd_T47 l0 x3_1).f2.f1) ((rd_T47 l0 x3_1).f2.f2)).bind fun t236 => (if t236 = true then (if x3_1 > 0 then (if 0 ≤ (wrap64 (x3_1 - 1)) then (if (wrap64 (x3_1 - 1)) < (l0.length : Int) then (if ((rd_T47 l0 (wrap64 (x3_1 - 1))).f0) ≥ ((rd_T47 l0 x3_1).f0) then (none) else (lecternref14_May.l0 k1 l0 (wrap64 (x3_1 + 1)))) else (none)) else (none)) else (lecternref14_May.l0 k1 l0 (wrap64 (x3_1 + 1)))) else (none))) else (none))) = some r := by rw [if_pos rfl] at H; exact H
        clear H
        have H := H1
        clear H1
        replace H := Option.bind_eq_some_iff.mp H
        obtain ⟨t234, A90, H⟩ := H
        replace H : (if t234 = true then ((lecternref14_MayReply.f ((rd_T47 l0 x3_1).f2.f0) ((rd_T47 l0 x3_1).f2.f1) ((rd_T47 l0 x3_1).f2.f2)).bind fun t236 => (if t236 = true then (if x3_1 > 0 then (if 0 ≤ (wrap64 (x3_1 - 1)) then (if (wrap64 (x3_1 - 1)) < (l0.length : Int) then (if ((rd_T47 l0 (wrap64 (x3_1 - 1))).f0) ≥ ((rd_T47 l0 x3_1).f0) then (none) else (lecternref14_May.l0 k1 l0 (wrap64 (x3_1 + 1)))) else (none)) else (none)) else (lecternref14_May.l0 k1 l0 (wrap64 (x3_1 + 1)))) else (none))) else (none)) = some r := H
        have A9 := Aside0.mk A90
        clear A90
        by_cases c10 : t234 = true
        ·subst c10
         have H1 : ((lecternref14_MayReply.f ((rd_T47 l0 x3_1).f2.f0) ((rd_T47 l0 x3_1).f2.f1) ((rd_T47 l0 x3_1).f2.f2)).bind fun t236 => (if t236 = true then (if x3_1 > 0 then (if 0 ≤ (wrap64 (x3_1 - 1)) then (if (wrap64 (x3_1 - 1)) < (l0.length : Int) then (if ((rd_T47 l0 (wrap64 (x3_1 - 1))).f0) ≥ ((rd_T47 l0 x3_1).f0) then (none) else (lecternref14_May.l0 k1 l0 (wrap64 (x3_1 + 1)))) else (none)) else (none)) else (lecternref14_May.l0 k1 l0 (wrap64 (x3_1 + 1)))) else (none))) = some r := by rw [if_pos rfl] at H; exact H
         clear H
         have H := H1
         clear H1
         replace H := Option.bind_eq_some_iff.mp H
         obtain ⟨t236, A110, H⟩ := H
         replace H : (if t236 = true then (if x3_1 > 0 then (if 0 ≤ (wrap64 (x3_1 - 1)) then (if (wrap64 (x3_1 - 1)) < (l0.length : Int) then (if ((rd_T47 l0 (wrap64 (x3_1 - 1))).f0) ≥ ((rd_T47 l0 x3_1).f0) then (none) else (lecternref14_May.l0 k1 l0 (wrap64 (x3_1 + 1)))) else (none)) else (none)) else (lecternref14_May.l0 k1 l0 (wrap64 (x3_1 + 1)))) else (none)) = some r := H
         have A11 := Aside0.mk A110
         clear A110
         by_cases c12 : t236 = true
         ·subst c12
          have H1 : (if x3_1 > 0 then (if 0 ≤ (wrap64 (x3_1 - 1)) then (if (wrap64 (x3_1 - 1)) < (l0.length : Int) then (if ((rd_T47 l0 (wrap64 (x3_1 - 1))).f0) ≥ ((rd_T47 l0 x3_1).f0) then (none) else (lecternref14_May.l0 k1 l0 (wrap64 (x3_1 + 1)))) else (none)) else (none)) else (lecternref14_May.l0 k1 l0 (wrap64 (x3_1 + 1)))) = some r := by rw [if_pos rfl] at H; exact H
          clear H
          have H := H1
          clear H1
          by_cases c13 : x3_1 > 0
          ·rw [if_pos c13] at H
           have c13b0 : decide (0 < x3_1) = true := decide_eq_true c13
           clear c13
           obtain ⟨ji14, hji14⟩ : ∃ j_ : Int, (wrap64 (x3_1 - 1)) = j_ := ⟨_, rfl⟩
           replace H : (if 0 ≤ (ji14) then (if (ji14) < (l0.length : Int) then (if ((rd_T47 l0 (ji14)).f0) ≥ ((rd_T47 l0 x3_1).f0) then (none) else (lecternref14_May.l0 k1 l0 (wrap64 (x3_1 + 1)))) else (none)) else (none)) = some r := by first | (rw [hji14] at H; exact H) | (simp only [hji14] at H ⊢; exact H)
           (try rw [hji14] at A5)
           (try rw [hji14] at A7)
           (try rw [hji14] at A9)
           (try rw [hji14] at A11)
           have hji14w : (IntKind.i64.wrap (x3_1 - 1)) = ji14 := (i64_w _).trans hji14
           by_cases c15 : 0 ≤ (ji14)
           ·rw [if_pos c15] at H
            have c15b0 : decide (0 ≤ (ji14)) = true := decide_eq_true c15
            clear c15
            by_cases c16 : (ji14) < (l0.length : Int)
            ·rw [if_pos c16] at H
             have c16b0 : decide ((ji14) < (l0.length : Int)) = true := decide_eq_true c16
             clear c16
             by_cases c17 : ((rd_T47 l0 (ji14)).f0) ≥ ((rd_T47 l0 x3_1).f0)
             ·rw [if_pos c17] at H
              exact absurd H (by simp)
             ·rw [if_neg c17] at H
              have c17b0 : decide (((rd_T47 l0 x3_1).f0) ≤ ((rd_T47 l0 (ji14)).f0)) = false := decide_eq_false c17
              clear c17
              have H' := Aside0.mk H
              clear H
              try go_wp2
              have n0_ := Aside0.mk (below_drew1 HB.out)
              clear HB
              have HB := n0_
              clear n0_
              have p229 : 0 ≤ (x3_1 : Int) := of_decide_eq_true (by assumption)
              have q229 : x3_1 < (l0.length : Int) := of_decide_eq_true (by assumption)
              obtain ⟨ad229, A229_4, c229_4, e229, hx229_0, hx229_1, hx229_2, hx229_3, hx229_4, hx229_5, hl229_4, hi229_4⟩ := at_T47 HR0.out x3_1 p229 q229
              have hw229_5 := hx229_5
              have hw229_4 := hx229_4
              have hw229_3 := hx229_3
              have hw229_2 := hx229_2
              have hw229_1 := hx229_1
              have hw229_0 := hx229_0
              cases e229
              replace hx229_0 := cb_ HB hx229_0
              replace hx229_1 := cb_ HB hx229_1
              replace hx229_2 := cb_ HB hx229_2
              replace hx229_3 := cb_ HB hx229_3
              replace hx229_4 := cb_ HB hx229_4
              replace hx229_5 := cb_ HB hx229_5
              have HR229_4 := Aside0.mk hi229_4
              have HC229_4 := Aside0.mk hl229_4
              clear hi229_4 hl229_4
              replace p229 := eq_true p229
              replace q229 := eq_true q229
              have p231 : 0 ≤ (x3_1 : Int) := of_decide_eq_true (by assumption)
              have q231 : x3_1 < (l0.length : Int) := of_decide_eq_true (by assumption)
              obtain ⟨ad231, A231_4, c231_4, e231, hx231_0, hx231_1, hx231_2, hx231_3, hx231_4, hx231_5, hl231_4, hi231_4⟩ := at_T47 HR0.out x3_1 p231 q231
              have hw231_5 := hx231_5
              have hw231_4 := hx231_4
              have hw231_3 := hx231_3
              have hw231_2 := hx231_2
              have hw231_1 := hx231_1
              have hw231_0 := hx231_0
              obtain rfl : ad229 = ad231 := (by injection e231)
              replace hx231_0 := cb_ HB hx231_0
              replace hx231_1 := cb_ HB hx231_1
              replace hx231_2 := cb_ HB hx231_2
              replace hx231_3 := cb_ HB hx231_3
              replace hx231_4 := cb_ HB hx231_4
              replace hx231_5 := cb_ HB hx231_5
              have HR231_4 := Aside0.mk hi231_4
              have HC231_4 := Aside0.mk hl231_4
              clear hi231_4 hl231_4
              replace p231 := eq_true p231
              replace q231 := eq_true q231
              have ea_ := Option.some.inj (hx229_4.symm.trans hx231_4)
              injection ea_ with ea_ en_ ec_
              subst ea_
              subst ec_
              clear en_
              have p233 : 0 ≤ (x3_1 : Int) := of_decide_eq_true (by assumption)
              have q233 : x3_1 < (l0.length : Int) := of_decide_eq_true (by assumption)
              obtain ⟨ad233, A233_4, c233_4, e233, hx233_0, hx233_1, hx233_2, hx233_3, hx233_4, hx233_5, hl233_4, hi233_4⟩ := at_T47 HR0.out x3_1 p233 q233
              have hw233_5 := hx233_5
              have hw233_4 := hx233_4
              have hw233_3 := hx233_3
              have hw233_2 := hx233_2
              have hw233_1 := hx233_1
              have hw233_0 := hx233_0
              obtain rfl : ad229 = ad233 := (by injection e233)
              replace hx233_0 := cb_ HB hx233_0
              replace hx233_1 := cb_ HB hx233_1
              replace hx233_2 := cb_ HB hx233_2
              replace hx233_3 := cb_ HB hx233_3
              replace hx233_4 := cb_ HB hx233_4
              replace hx233_5 := cb_ HB hx233_5
              have HR233_4 := Aside0.mk hi233_4
              have HC233_4 := Aside0.mk hl233_4
              clear hi233_4 hl233_4
              replace p233 := eq_true p233
              replace q233 := eq_true q233
              have ea_ := Option.some.inj (hx229_4.symm.trans hx233_4)
              injection ea_ with ea_ en_ ec_
              subst ea_
              subst ec_
              clear en_
              have p235 : 0 ≤ (x3_1 : Int) := of_decide_eq_true (by assumption)
              have q235 : x3_1 < (l0.length : Int) := of_decide_eq_true (by assumption)
              obtain ⟨ad235, A235_4, c235_4, e235, hx235_0, hx235_1, hx235_2, hx235_3, hx235_4, hx235_5, hl235_4, hi235_4⟩ := at_T47 HR0.out x3_1 p235 q235
              have hw235_5 := hx235_5
              have hw235_4 := hx235_4
              have hw235_3 := hx235_3
              have hw235_2 := hx235_2
              have hw235_1 := hx235_1
              have hw235_0 := hx235_0
              obtain rfl : ad229 = ad235 := (by injection e235)
              replace hx235_0 := cb_ HB hx235_0
              replace hx235_1 := cb_ HB hx235_1
              replace hx235_2 := cb_ HB hx235_2
              replace hx235_3 := cb_ HB hx235_3
              replace hx235_4 := cb_ HB hx235_4
              replace hx235_5 := cb_ HB hx235_5
              have HR235_4 := Aside0.mk hi235_4
              have HC235_4 := Aside0.mk hl235_4
              clear hi235_4 hl235_4
              replace p235 := eq_true p235
              replace q235 := eq_true q235
              have ea_ := Option.some.inj (hx229_4.symm.trans hx235_4)
              injection ea_ with ea_ en_ ec_
              subst ea_
              subst ec_
              clear en_
              have p237 : 0 ≤ ((ji14) : Int) := of_decide_eq_true (by assumption)
              have q237 : (ji14) < (l0.length : Int) := of_decide_eq_true (by assumption)
              obtain ⟨ad237, A237_4, c237_4, e237, hx237_0, hx237_1, hx237_2, hx237_3, hx237_4, hx237_5, hl237_4, hi237_4⟩ := at_T47 HR0.out (ji14) p237 q237
              have hw237_5 := hx237_5
              have hw237_4 := hx237_4
              have hw237_3 := hx237_3
              have hw237_2 := hx237_2
              have hw237_1 := hx237_1
              have hw237_0 := hx237_0
              obtain rfl : ad229 = ad237 := (by injection e237)
              replace hx237_0 := cb_ HB hx237_0
              replace hx237_1 := cb_ HB hx237_1
              replace hx237_2 := cb_ HB hx237_2
              replace hx237_3 := cb_ HB hx237_3
              replace hx237_4 := cb_ HB hx237_4
              replace hx237_5 := cb_ HB hx237_5
              have HR237_4 := Aside0.mk hi237_4
              have HC237_4 := Aside0.mk hl237_4
              clear hi237_4 hl237_4
              replace p237 := eq_true p237
              replace q237 := eq_true q237
              have p238 : 0 ≤ (x3_1 : Int) := of_decide_eq_true (by assumption)
              have q238 : x3_1 < (l0.length : Int) := of_decide_eq_true (by assumption)
              obtain ⟨ad238, A238_4, c238_4, e238, hx238_0, hx238_1, hx238_2, hx238_3, hx238_4, hx238_5, hl238_4, hi238_4⟩ := at_T47 HR0.out x3_1 p238 q238
              have hw238_5 := hx238_5
              have hw238_4 := hx238_4
              have hw238_3 := hx238_3
              have hw238_2 := hx238_2
              have hw238_1 := hx238_1
              have hw238_0 := hx238_0
              obtain rfl : ad229 = ad238 := (by injection e238)
              replace hx238_0 := cb_ HB hx238_0
              replace hx238_1 := cb_ HB hx238_1
              replace hx238_2 := cb_ HB hx238_2
              replace hx238_3 := cb_ HB hx238_3
              replace hx238_4 := cb_ HB hx238_4
              replace hx238_5 := cb_ HB hx238_5
              have HR238_4 := Aside0.mk hi238_4
              have HC238_4 := Aside0.mk hl238_4
              clear hi238_4 hl238_4
              replace p238 := eq_true p238
              replace q238 := eq_true q238
              refine start_ (n := 52) (S := fun w' => w'.cell? (ad229.add ((x3_1).toNat * 6)) = some (.int .i64 ((rd_T47 l0 x3_1).f0)) ∧ w'.cell? ⟨(ad229.add ((x3_1).toNat * 6)).block, (ad229.add ((x3_1).toNat * 6)).off + 1, none⟩ = some (.int .i64 ((rd_T47 l0 x3_1).f1)) ∧ w'.cell? ⟨(ad229.add ((x3_1).toNat * 6)).block, (ad229.add ((x3_1).toNat * 6)).off + 2, none⟩ = some (.int .i64 ((rd_T47 l0 x3_1).f2.f0)) ∧ w'.cell? ⟨(ad229.add ((x3_1).toNat * 6)).block, (ad229.add ((x3_1).toNat * 6)).off + 3, none⟩ = some (.int .i64 ((rd_T47 l0 x3_1).f2.f1)) ∧ w'.cell? ⟨(ad229.add ((x3_1).toNat * 6)).block, (ad229.add ((x3_1).toNat * 6)).off + 4, none⟩ = some (.slice A229_4 ((rd_T47 l0 x3_1).f2.f2).length c229_4) ∧ w'.cell? ⟨(ad229.add ((x3_1).toNat * 6)).block, (ad229.add ((x3_1).toNat * 6)).off + 5, none⟩ = some (.int .i64 ((rd_T47 l0 x3_1).f3)) ∧ w'.cell? (ad229.add ((x3_1).toNat * 6)) = some (.int .i64 ((rd_T47 l0 x3_1).f0)) ∧ w'.cell? ⟨(ad229.add ((x3_1).toNat * 6)).block, (ad229.add ((x3_1).toNat * 6)).off + 1, none⟩ = some (.int .i64 ((rd_T47 l0 x3_1).f1)) ∧ w'.cell? ⟨(ad229.add ((x3_1).toNat * 6)).block, (ad229.add ((x3_1).toNat * 6)).off + 2, none⟩ = some (.int .i64 ((rd_T47 l0 x3_1).f2.f0)) ∧ w'.cell? ⟨(ad229.add ((x3_1).toNat * 6)).block, (ad229.add ((x3_1).toNat * 6)).off + 3, none⟩ = some (.int .i64 ((rd_T47 l0 x3_1).f2.f1)) ∧ w'.cell? ⟨(ad229.add ((x3_1).toNat * 6)).block, (ad229.add ((x3_1).toNat * 6)).off + 4, none⟩ = some (.slice A229_4 ((rd_T47 l0 x3_1).f2.f2).length c229_4) ∧ w'.cell? ⟨(ad229.add ((x3_1).toNat * 6)).block, (ad229.add ((x3_1).toNat * 6)).off + 5, none⟩ = some (.int .i64 ((rd_T47 l0 x3_1).f3)) ∧ w'.cell? (ad229.add ((x3_1).toNat * 6)) = some (.int .i64 ((rd_T47 l0 x3_1).f0)) ∧ w'.cell? ⟨(ad229.add ((x3_1).toNat * 6)).block, (ad229.add ((x3_1).toNat * 6)).off + 1, none⟩ = some (.int .i64 ((rd_T47 l0 x3_1).f1)) ∧ w'.cell? ⟨(ad229.add ((x3_1).toNat * 6)).block, (ad229.add ((x3_1).toNat * 6)).off + 2, none⟩ = some (.int .i64 ((rd_T47 l0 x3_1).f2.f0)) ∧ w'.cell? ⟨(ad229.add ((x3_1).toNat * 6)).block, (ad229.add ((x3_1).toNat * 6)).off + 3, none⟩ = some (.int .i64 ((rd_T47 l0 x3_1).f2.f1)) ∧ w'.cell? ⟨(ad229.add ((x3_1).toNat * 6)).block, (ad229.add ((x3_1).toNat * 6)).off + 4, none⟩ = some (.slice A229_4 ((rd_T47 l0 x3_1).f2.f2).length c229_4) ∧ w'.cell? ⟨(ad229.add ((x3_1).toNat * 6)).block, (ad229.add ((x3_1).toNat * 6)).off + 5, none⟩ = some (.int .i64 ((rd_T47 l0 x3_1).f3)) ∧ w'.cell? (ad229.add ((x3_1).toNat * 6)) = some (.int .i64 ((rd_T47 l0 x3_1).f0)) ∧ w'.cell? ⟨(ad229.add ((x3_1).toNat * 6)).block, (ad229.add ((x3_1).toNat * 6)).off + 1, none⟩ = some (.int .i64 ((rd_T47 l0 x3_1).f1)) ∧ w'.cell? ⟨(ad229.add ((x3_1).toNat * 6)).block, (ad229.add ((x3_1).toNat * 6)).off + 2, none⟩ = some (.int .i64 ((rd_T47 l0 x3_1).f2.f0)) ∧ w'.cell? ⟨(ad229.add ((x3_1).toNat * 6)).block, (ad229.add ((x3_1).toNat * 6)).off + 3, none⟩ = some (.int .i64 ((rd_T47 l0 x3_1).f2.f1)) ∧ w'.cell? ⟨(ad229.add ((x3_1).toNat * 6)).block, (ad229.add ((x3_1).toNat * 6)).off + 4, none⟩ = some (.slice A229_4 ((rd_T47 l0 x3_1).f2.f2).length c229_4) ∧ w'.cell? ⟨(ad229.add ((x3_1).toNat * 6)).block, (ad229.add ((x3_1).toNat * 6)).off + 5, none⟩ = some (.int .i64 ((rd_T47 l0 x3_1).f3)) ∧ w'.cell? (ad229.add (((ji14)).toNat * 6)) = some (.int .i64 ((rd_T47 l0 (ji14)).f0)) ∧ w'.cell? ⟨(ad229.add (((ji14)).toNat * 6)).block, (ad229.add (((ji14)).toNat * 6)).off + 1, none⟩ = some (.int .i64 ((rd_T47 l0 (ji14)).f1)) ∧ w'.cell? ⟨(ad229.add (((ji14)).toNat * 6)).block, (ad229.add (((ji14)).toNat * 6)).off + 2, none⟩ = some (.int .i64 ((rd_T47 l0 (ji14)).f2.f0)) ∧ w'.cell? ⟨(ad229.add (((ji14)).toNat * 6)).block, (ad229.add (((ji14)).toNat * 6)).off + 3, none⟩ = some (.int .i64 ((rd_T47 l0 (ji14)).f2.f1)) ∧ w'.cell? ⟨(ad229.add (((ji14)).toNat * 6)).block, (ad229.add (((ji14)).toNat * 6)).off + 4, none⟩ = some (.slice A237_4 ((rd_T47 l0 (ji14)).f2.f2).length c237_4) ∧ w'.cell? ⟨(ad229.add (((ji14)).toNat * 6)).block, (ad229.add (((ji14)).toNat * 6)).off + 5, none⟩ = some (.int .i64 ((rd_T47 l0 (ji14)).f3)) ∧ w'.cell? (ad229.add ((x3_1).toNat * 6)) = some (.int .i64 ((rd_T47 l0 x3_1).f0)) ∧ w'.cell? ⟨(ad229.add ((x3_1).toNat * 6)).block, (ad229.add ((x3_1).toNat * 6)).off + 1, none⟩ = some (.int .i64 ((rd_T47 l0 x3_1).f1)) ∧ w'.cell? ⟨(ad229.add ((x3_1).toNat * 6)).block, (ad229.add ((x3_1).toNat * 6)).off + 2, none⟩ = some (.int .i64 ((rd_T47 l0 x3_1).f2.f0)) ∧ w'.cell? ⟨(ad229.add ((x3_1).toNat * 6)).block, (ad229.add ((x3_1).toNat * 6)).off + 3, none⟩ = some (.int .i64 ((rd_T47 l0 x3_1).f2.f1)) ∧ w'.cell? ⟨(ad229.add ((x3_1).toNat * 6)).block, (ad229.add ((x3_1).toNat * 6)).off + 4, none⟩ = some (.slice A238_4 ((rd_T47 l0 x3_1).f2.f2).length c238_4) ∧ w'.cell? ⟨(ad229.add ((x3_1).toNat * 6)).block, (ad229.add ((x3_1).toNat * 6)).off + 5, none⟩ = some (.int .i64 ((rd_T47 l0 x3_1).f3))) (ds := []) fz42_0 (by kernel_rfl) rfl rfl ⟨(cb_ HB hw229_0 :), (cb_ HB hw229_1 :), (cb_ HB hw229_2 :), (cb_ HB hw229_3 :), (cb_ HB hw229_4 :), (cb_ HB hw229_5 :), (cb_ HB hw231_0 :), (cb_ HB hw231_1 :), (cb_ HB hw231_2 :), (cb_ HB hw231_3 :), (cb_ HB hw231_4 :), (cb_ HB hw231_5 :), (cb_ HB hw233_0 :), (cb_ HB hw233_1 :), (cb_ HB hw233_2 :), (cb_ HB hw233_3 :), (cb_ HB hw233_4 :), (cb_ HB hw233_5 :), (cb_ HB hw235_0 :), (cb_ HB hw235_1 :), (cb_ HB hw235_2 :), (cb_ HB hw235_3 :), (cb_ HB hw235_4 :), (cb_ HB hw235_5 :), (cb_ HB hw237_0 :), (cb_ HB hw237_1 :), (cb_ HB hw237_2 :), (cb_ HB hw237_3 :), (cb_ HB hw237_4 :), (cb_ HB hw237_5 :), (cb_ HB hw238_0 :), (cb_ HB hw238_1 :), (cb_ HB hw238_2 :), (cb_ HB hw238_3 :), (cb_ HB hw238_4 :), (cb_ HB hw238_5 :)⟩ (fun hHeld => ?_); refine with_tabW lecternref14_May.tab6 lecternref14_May.bits6 (fun HT_ HW_ => ?_)
              generalize wr.drew = w20 at HB HR229_4 HR231_4 HR233_4 HR235_4 HR237_4 HR238_4 hx229_0 hx229_1 hx229_2 hx229_3 hx229_4 hx229_5 hx231_0 hx231_1 hx231_2 hx231_3 hx231_4 hx231_5 hx233_0 hx233_1 hx233_2 hx233_3 hx233_4 hx233_5 hx235_0 hx235_1 hx235_2 hx235_3 hx235_4 hx235_5 hx237_0 hx237_1 hx237_2 hx237_3 hx237_4 hx237_5 hx238_0 hx238_1 hx238_2 hx238_3 hx238_4 hx238_5 hHeld ⊢
              refine pure_ (i := 0) (N := some 13) (v := ?_) (a' := ?_) fz42_1 rfl rfl (any_of HT_.out (by kernel_rfl)) (fun _ _ _ h => h) (Or.inl ⟨by rfl, ?_⟩) ?_ ?_
              rotate_left
              ·intro w'
               go_simp
               with_reducible rfl
              rotate_left
              ·simp only [Act.put, sA, sB, sC, i64_w, i32_w]
               rfl
              refine pure_ (i := 1) (N := some 14) (v := ?_) (a' := ?_) fz42_2 rfl rfl (any_of HT_.out (by kernel_rfl)) (fun _ _ _ h => h) (Or.inl ⟨by rfl, ?_⟩) ?_ ?_
              rotate_left
              ·intro w'
               go_simp
               with_reducible rfl
              rotate_left
              ·simp only [Act.put, sA, sB, sC, i64_w, i32_w]
               rfl
              refine pure_ (i := 2) (N := some 15) (v := ?_) (a' := ?_) fz42_3 rfl rfl (any_of HT_.out (by kernel_rfl)) (fun _ _ _ h => h) (Or.inl ⟨by rfl, ?_⟩) ?_ ?_
              rotate_left
              ·intro w'
               go_simp
               with_reducible rfl
              rotate_left
              ·simp only [Act.put, sA, sB, sC, i64_w, i32_w]
               rfl
              refine pure_ (i := 3) (N := some 16) (v := ?_) (a' := ?_) fz42_4 rfl rfl (any_of HT_.out (by kernel_rfl)) (fun _ _ _ h => h) (Or.inl ⟨by rfl, ?_⟩) ?_ ?_
              rotate_left
              ·intro w'
               go_simp
               with_reducible rfl
              rotate_left
              ·simp only [Act.put, sA, sB, sC, i64_w, i32_w]
               rfl
              refine take_ (i := 4) (N := some 17) (v := ?_) (a' := ?_) fz42_5 rfl rfl (take_ofW HT_.out HW_.out (by kernel_rfl)) (fun _ _ _ h => h) (Or.inl ⟨by rfl, ?_⟩) hHeld ?_ ?_
              rotate_left
              ·rintro w' ⟨s0, s1, s2, s3, s4, s5, s6, s7, s8, s9, s10, s11, s12, s13, s14, s15, s16, s17, s18, s19, s20, s21, s22, s23, s24, s25, s26, s27, s28, s29, s30, s31, s32, s33, s34, s35⟩
               go_simp
               with_reducible rfl
              rotate_left
              ·simp only [Act.put, sA, sB, sC, i64_w, i32_w]
               rfl
              refine one_ (i := 5) (N := some 18) fz42_6 rfl rfl (one_of HT_.out (by kernel_rfl)) (by decide) (fun K hK => ?_)
              refine goes_ Try.func37 (by kernel_rfl) rfl #[.int .i64 ((rd_T47 l0 x3_1).f0)] (by rfl) rfl rfl (by (try simp only [List.map_toArray, List.map_cons, List.map_nil]); first | done | rfl | (simp only [List.length_drop, List.length_take]; rfl)) ?_
              with_reducible refine (lecternref14_id.calls ((rd_T47 l0 x3_1).f0) true _ A5.out).mono ?_
              rintro e w' ⟨rfl, ⟨nd, rfl⟩⟩
              refine ⟨_, rfl, ?_⟩
              refine hK.out _ _ ⟨(cb_ HB hw229_0 :), (cb_ HB hw229_1 :), (cb_ HB hw229_2 :), (cb_ HB hw229_3 :), (cb_ HB hw229_4 :), (cb_ HB hw229_5 :), (cb_ HB hw231_0 :), (cb_ HB hw231_1 :), (cb_ HB hw231_2 :), (cb_ HB hw231_3 :), (cb_ HB hw231_4 :), (cb_ HB hw231_5 :), (cb_ HB hw233_0 :), (cb_ HB hw233_1 :), (cb_ HB hw233_2 :), (cb_ HB hw233_3 :), (cb_ HB hw233_4 :), (cb_ HB hw233_5 :), (cb_ HB hw235_0 :), (cb_ HB hw235_1 :), (cb_ HB hw235_2 :), (cb_ HB hw235_3 :), (cb_ HB hw235_4 :), (cb_ HB hw235_5 :), (cb_ HB hw237_0 :), (cb_ HB hw237_1 :), (cb_ HB hw237_2 :), (cb_ HB hw237_3 :), (cb_ HB hw237_4 :), (cb_ HB hw237_5 :), (cb_ HB hw238_0 :), (cb_ HB hw238_1 :), (cb_ HB hw238_2 :), (cb_ HB hw238_3 :), (cb_ HB hw238_4 :), (cb_ HB hw238_5 :)⟩ (fun hHeld => ?_)
              clear hK K
              refine norm_ (a' := ?_) ?_ ?_
              rotate_left
              ·show Act.put _ (some 18) _ = _
               simp only [Act.put, sA, sB, sC, i64_w, i32_w]
               rfl
              refine pure_ (i := 6) (N := some 19) (v := ?_) (a' := ?_) fz42_7 rfl rfl (any_of HT_.out (by kernel_rfl)) (fun _ _ _ h => h) (Or.inl ⟨by rfl, ?_⟩) ?_ ?_
              rotate_left
              ·intro w'
               go_simp
               with_reducible rfl
              rotate_left
              ·simp only [Act.put, sA, sB, sC, i64_w, i32_w]
               rfl
              refine pure_ (i := 7) (N := some 20) (v := ?_) (a' := ?_) fz42_8 rfl rfl (any_of HT_.out (by kernel_rfl)) (fun _ _ _ h => h) (Or.inl ⟨by rfl, ?_⟩) ?_ ?_
              rotate_left
              ·intro w'
               go_simp
               with_reducible rfl
              rotate_left
              ·simp only [Act.put, sA, sB, sC, i64_w, i32_w]
               rfl
              refine pure_ (i := 8) (N := some 21) (v := ?_) (a' := ?_) fz42_9 rfl rfl (any_of HT_.out (by kernel_rfl)) (fun _ _ _ h => h) (Or.inl ⟨by rfl, ?_⟩) ?_ ?_
              rotate_left
              ·intro w'
               go_simp
               with_reducible rfl
              rotate_left
              ·simp only [Act.put, sA, sB, sC, i64_w, i32_w]
               rfl
              refine pure_ (i := 9) (N := some 22) (v := ?_) (a' := ?_) fz42_10 rfl rfl (any_of HT_.out (by kernel_rfl)) (fun _ _ _ h => h) (Or.inl ⟨by rfl, ?_⟩) ?_ ?_
              rotate_left
              ·intro w'
               go_simp
               with_reducible rfl
              rotate_left
              ·simp only [Act.put, sA, sB, sC, i64_w, i32_w]
               rfl
              refine pure_ (i := 10) (N := some 23) (v := ?_) (a' := ?_) fz42_11 rfl rfl (any_of HT_.out (by kernel_rfl)) (fun _ _ _ h => h) (Or.inl ⟨by rfl, ?_⟩) ?_ ?_
              rotate_left
              ·intro w'
               go_simp
               with_reducible rfl
              rotate_left
              ·simp only [Act.put, sA, sB, sC, i64_w, i32_w]
               rfl
              refine pure_ (i := 11) (N := some 24) (v := ?_) (a' := ?_) fz42_12 rfl rfl (any_of HT_.out (by kernel_rfl)) (fun _ _ _ h => h) (Or.inl ⟨by rfl, ?_⟩) ?_ ?_
              rotate_left
              ·intro w'
               go_simp
               with_reducible rfl
              rotate_left
              ·simp only [Act.put, sA, sB, sC, i64_w, i32_w]
               rfl
              refine take_ (i := 12) (N := some 25) (v := ?_) (a' := ?_) fz42_13 rfl rfl (take_ofW HT_.out HW_.out (by kernel_rfl)) (fun _ _ _ h => h) (Or.inl ⟨by rfl, ?_⟩) hHeld ?_ ?_
              rotate_left
              ·rintro w' ⟨s0, s1, s2, s3, s4, s5, s6, s7, s8, s9, s10, s11, s12, s13, s14, s15, s16, s17, s18, s19, s20, s21, s22, s23, s24, s25, s26, s27, s28, s29, s30, s31, s32, s33, s34, s35⟩
               go_simp
               with_reducible rfl
              rotate_left
              ·simp only [Act.put, sA, sB, sC, i64_w, i32_w]
               rfl
              refine one_ (i := 13) (N := some 26) fz42_14 rfl rfl (one_of HT_.out (by kernel_rfl)) (by decide) (fun K hK => ?_)
              refine goes_ Try.func22 (by kernel_rfl) rfl #[.int .i64 ((rd_T47 l0 x3_1).f1)] (by rfl) rfl rfl (by (try simp only [List.map_toArray, List.map_cons, List.map_nil]); first | done | rfl | (simp only [List.length_drop, List.length_take]; rfl)) ?_
              with_reducible refine (lecternref0_Num.calls ((rd_T47 l0 x3_1).f1) true _ A7.out).mono ?_
              rintro e w' ⟨rfl, ⟨nd, rfl⟩⟩
              refine ⟨_, rfl, ?_⟩
              refine hK.out _ _ ⟨(cb_ HB hw229_0 :), (cb_ HB hw229_1 :), (cb_ HB hw229_2 :), (cb_ HB hw229_3 :), (cb_ HB hw229_4 :), (cb_ HB hw229_5 :), (cb_ HB hw231_0 :), (cb_ HB hw231_1 :), (cb_ HB hw231_2 :), (cb_ HB hw231_3 :), (cb_ HB hw231_4 :), (cb_ HB hw231_5 :), (cb_ HB hw233_0 :), (cb_ HB hw233_1 :), (cb_ HB hw233_2 :), (cb_ HB hw233_3 :), (cb_ HB hw233_4 :), (cb_ HB hw233_5 :), (cb_ HB hw235_0 :), (cb_ HB hw235_1 :), (cb_ HB hw235_2 :), (cb_ HB hw235_3 :), (cb_ HB hw235_4 :), (cb_ HB hw235_5 :), (cb_ HB hw237_0 :), (cb_ HB hw237_1 :), (cb_ HB hw237_2 :), (cb_ HB hw237_3 :), (cb_ HB hw237_4 :), (cb_ HB hw237_5 :), (cb_ HB hw238_0 :), (cb_ HB hw238_1 :), (cb_ HB hw238_2 :), (cb_ HB hw238_3 :), (cb_ HB hw238_4 :), (cb_ HB hw238_5 :)⟩ (fun hHeld => ?_)
              clear hK K
              refine norm_ (a' := ?_) ?_ ?_
              rotate_left
              ·show Act.put _ (some 26) _ = _
               simp only [Act.put, sA, sB, sC, i64_w, i32_w]
               rfl
              refine pure_ (i := 14) (N := some 27) (v := ?_) (a' := ?_) fz42_15 rfl rfl (any_of HT_.out (by kernel_rfl)) (fun _ _ _ h => h) (Or.inl ⟨by rfl, ?_⟩) ?_ ?_
              rotate_left
              ·intro w'
               go_simp
               with_reducible rfl
              rotate_left
              ·simp only [Act.put, sA, sB, sC, i64_w, i32_w]
               rfl
              refine pure_ (i := 15) (N := some 28) (v := ?_) (a' := ?_) fz42_16 rfl rfl (any_of HT_.out (by kernel_rfl)) (fun _ _ _ h => h) (Or.inl ⟨by rfl, ?_⟩) ?_ ?_
              rotate_left
              ·intro w'
               go_simp
               with_reducible rfl
              rotate_left
              ·simp only [Act.put, sA, sB, sC, i64_w, i32_w]
               rfl
              refine pure_ (i := 16) (N := some 29) (v := ?_) (a' := ?_) fz42_17 rfl rfl (any_of HT_.out (by kernel_rfl)) (fun _ _ _ h => h) (Or.inl ⟨by rfl, ?_⟩) ?_ ?_
              rotate_left
              ·intro w'
               go_simp
               with_reducible rfl
              rotate_left
              ·simp only [Act.put, sA, sB, sC, i64_w, i32_w]
               rfl
              refine pure_ (i := 17) (N := some 30) (v := ?_) (a' := ?_) fz42_18 rfl rfl (any_of HT_.out (by kernel_rfl)) (fun _ _ _ h => h) (Or.inl ⟨by rfl, ?_⟩) ?_ ?_
              rotate_left
              ·intro w'
               go_simp
               with_reducible rfl
              rotate_left
              ·simp only [Act.put, sA, sB, sC, i64_w, i32_w]
               rfl
              refine pure_ (i := 18) (N := some 31) (v := ?_) (a' := ?_) fz42_19 rfl rfl (any_of HT_.out (by kernel_rfl)) (fun _ _ _ h => h) (Or.inl ⟨by rfl, ?_⟩) ?_ ?_
              rotate_left
              ·intro w'
               go_simp
               with_reducible rfl
              rotate_left
              ·simp only [Act.put, sA, sB, sC, i64_w, i32_w]
               rfl
              refine pure_ (i := 19) (N := some 32) (v := ?_) (a' := ?_) fz42_20 rfl rfl (any_of HT_.out (by kernel_rfl)) (fun _ _ _ h => h) (Or.inl ⟨by rfl, ?_⟩) ?_ ?_
              rotate_left
              ·intro w'
               go_simp
               with_reducible rfl
              rotate_left
              ·simp only [Act.put, sA, sB, sC, i64_w, i32_w]
               rfl
              refine pure_ (i := 20) (N := some 33) (v := ?_) (a' := ?_) fz42_21 rfl rfl (any_of HT_.out (by kernel_rfl)) (fun _ _ _ h => h) (Or.inl ⟨by rfl, ?_⟩) ?_ ?_
              rotate_left
              ·intro w'
               go_simp
               with_reducible rfl
              rotate_left
              ·simp only [Act.put, sA, sB, sC, i64_w, i32_w]
               rfl
              refine take_ (i := 21) (N := some 34) (v := ?_) (a' := ?_) fz42_22 rfl rfl (take_ofW HT_.out HW_.out (by kernel_rfl)) (fun _ _ _ h => h) (Or.inl ⟨by rfl, ?_⟩) hHeld ?_ ?_
              rotate_left
              ·rintro w' ⟨s0, s1, s2, s3, s4, s5, s6, s7, s8, s9, s10, s11, s12, s13, s14, s15, s16, s17, s18, s19, s20, s21, s22, s23, s24, s25, s26, s27, s28, s29, s30, s31, s32, s33, s34, s35⟩
               go_simp
               with_reducible rfl
              rotate_left
              ·simp only [Act.put, sA, sB, sC, i64_w, i32_w]
               rfl
              refine one_ (i := 22) (N := some 35) fz42_23 rfl rfl (one_of HT_.out (by kernel_rfl)) (by decide) (fun K hK => ?_)
              refine goes_ Try.func22 (by kernel_rfl) rfl #[.int .i64 ((rd_T47 l0 x3_1).f3)] (by rfl) rfl rfl (by (try simp only [List.map_toArray, List.map_cons, List.map_nil]); first | done | rfl | (simp only [List.length_drop, List.length_take]; rfl)) ?_
              with_reducible refine (lecternref0_Num.calls ((rd_T47 l0 x3_1).f3) true _ A9.out).mono ?_
              rintro e w' ⟨rfl, ⟨nd, rfl⟩⟩
              refine ⟨_, rfl, ?_⟩
              refine hK.out _ _ ⟨(cb_ HB hw229_0 :), (cb_ HB hw229_1 :), (cb_ HB hw229_2 :), (cb_ HB hw229_3 :), (cb_ HB hw229_4 :), (cb_ HB hw229_5 :), (cb_ HB hw231_0 :), (cb_ HB hw231_1 :), (cb_ HB hw231_2 :), (cb_ HB hw231_3 :), (cb_ HB hw231_4 :), (cb_ HB hw231_5 :), (cb_ HB hw233_0 :), (cb_ HB hw233_1 :), (cb_ HB hw233_2 :), (cb_ HB hw233_3 :), (cb_ HB hw233_4 :), (cb_ HB hw233_5 :), (cb_ HB hw235_0 :), (cb_ HB hw235_1 :), (cb_ HB hw235_2 :), (cb_ HB hw235_3 :), (cb_ HB hw235_4 :), (cb_ HB hw235_5 :), (cb_ HB hw237_0 :), (cb_ HB hw237_1 :), (cb_ HB hw237_2 :), (cb_ HB hw237_3 :), (cb_ HB hw237_4 :), (cb_ HB hw237_5 :), (cb_ HB hw238_0 :), (cb_ HB hw238_1 :), (cb_ HB hw238_2 :), (cb_ HB hw238_3 :), (cb_ HB hw238_4 :), (cb_ HB hw238_5 :)⟩ (fun hHeld => ?_)
              clear hK K
              refine norm_ (a' := ?_) ?_ ?_
              rotate_left
              ·show Act.put _ (some 35) _ = _
               simp only [Act.put, sA, sB, sC, i64_w, i32_w]
               rfl
              refine pure_ (i := 23) (N := some 36) (v := ?_) (a' := ?_) fz42_24 rfl rfl (any_of HT_.out (by kernel_rfl)) (fun _ _ _ h => h) (Or.inl ⟨by rfl, ?_⟩) ?_ ?_
              rotate_left
              ·intro w'
               go_simp
               with_reducible rfl
              rotate_left
              ·simp only [Act.put, sA, sB, sC, i64_w, i32_w]
               rfl
              refine pure_ (i := 24) (N := some 37) (v := ?_) (a' := ?_) fz42_25 rfl rfl (any_of HT_.out (by kernel_rfl)) (fun _ _ _ h => h) (Or.inl ⟨by rfl, ?_⟩) ?_ ?_
              rotate_left
              ·intro w'
               go_simp
               with_reducible rfl
              rotate_left
              ·simp only [Act.put, sA, sB, sC, i64_w, i32_w]
               rfl
              refine pure_ (i := 25) (N := some 38) (v := ?_) (a' := ?_) fz42_26 rfl rfl (any_of HT_.out (by kernel_rfl)) (fun _ _ _ h => h) (Or.inl ⟨by rfl, ?_⟩) ?_ ?_
              rotate_left
              ·intro w'
               go_simp
               with_reducible rfl
              rotate_left
              ·simp only [Act.put, sA, sB, sC, i64_w, i32_w]
               rfl
              refine pure_ (i := 26) (N := some 39) (v := ?_) (a' := ?_) fz42_27 rfl rfl (any_of HT_.out (by kernel_rfl)) (fun _ _ _ h => h) (Or.inl ⟨by rfl, ?_⟩) ?_ ?_
              rotate_left
              ·intro w'
               go_simp
               with_reducible rfl
              rotate_left
              ·simp only [Act.put, sA, sB, sC, i64_w, i32_w]
               rfl
              refine pure_ (i := 27) (N := some 40) (v := ?_) (a' := ?_) fz42_28 rfl rfl (any_of HT_.out (by kernel_rfl)) (fun _ _ _ h => h) (Or.inl ⟨by rfl, ?_⟩) ?_ ?_
              rotate_left
              ·intro w'
               go_simp
               with_reducible rfl
              rotate_left
              ·simp only [Act.put, sA, sB, sC, i64_w, i32_w]
               rfl
              refine pure_ (i := 28) (N := some 41) (v := ?_) (a' := ?_) fz42_29 rfl rfl (any_of HT_.out (by kernel_rfl)) (fun _ _ _ h => h) (Or.inl ⟨by rfl, ?_⟩) ?_ ?_
              rotate_left
              ·intro w'
               go_simp
               with_reducible rfl
              rotate_left
              ·simp only [Act.put, sA, sB, sC, i64_w, i32_w]
               rfl
              refine pure_ (i := 29) (N := some 42) (v := ?_) (a' := ?_) fz42_30 rfl rfl (any_of HT_.out (by kernel_rfl)) (fun _ _ _ h => h) (Or.inl ⟨by rfl, ?_⟩) ?_ ?_
              rotate_left
              ·intro w'
               go_simp
               with_reducible rfl
              rotate_left
              ·simp only [Act.put, sA, sB, sC, i64_w, i32_w]
               rfl
              refine take_ (i := 30) (N := some 43) (v := ?_) (a' := ?_) fz42_31 rfl rfl (take_ofW HT_.out HW_.out (by kernel_rfl)) (fun _ _ _ h => h) (Or.inl ⟨by rfl, ?_⟩) hHeld ?_ ?_
              rotate_left
              ·rintro w' ⟨s0, s1, s2, s3, s4, s5, s6, s7, s8, s9, s10, s11, s12, s13, s14, s15, s16, s17, s18, s19, s20, s21, s22, s23, s24, s25, s26, s27, s28, s29, s30, s31, s32, s33, s34, s35⟩
               go_simp
               with_reducible rfl
              rotate_left
              ·simp only [Act.put, sA, sB, sC, i64_w, i32_w]
               rfl
              refine one_ (i := 31) (N := some 44) fz42_32 rfl rfl (one_of HT_.out (by kernel_rfl)) (by decide) (fun K hK => ?_)
              refine goes_ Try.func38 (by kernel_rfl) rfl #[.agg #[.int .i64 ((rd_T47 l0 x3_1).f2.f0), .int .i64 ((rd_T47 l0 x3_1).f2.f1), .slice A229_4 ((rd_T47 l0 x3_1).f2.f2).length c229_4]] (by rfl) rfl rfl (by (try simp only [List.map_toArray, List.map_cons, List.map_nil]); first | done | rfl | (simp only [List.length_drop, List.length_take]; rfl)) ?_
              with_reducible refine (lecternref14_MayReply.calls ((rd_T47 l0 x3_1).f2.f0) ((rd_T47 l0 x3_1).f2.f1) _ _ ((rd_T47 l0 x3_1).f2.f2) true _ ?side1 ?side2 A11.out).mono ?_
              (case side1 => repeat (first | exact (Kd.C_below HR235_4.out (by repeat (first | (with_reducible first | exact HB.out | apply below_alloc | apply pw_below_drewN | apply below_drew1) | exact HB.out))) | (with_reducible refine Kd.C_alloc ?_ _) | (with_reducible refine Kd.C_drewN ?_ _) | (with_reducible refine Kd.C_drew ?_)))
              (case side2 => exact HC235_4.out)
              rintro e w21 ⟨rfl, hb⟩
              refine ⟨_, rfl, ?_⟩
              have n0_ := Aside0.mk (below_step (by repeat (first | (with_reducible first | exact HB.out | apply below_alloc | apply pw_below_drewN | apply below_drew1) | exact HB.out)) hb)
              clear HB
              have HB := n0_
              clear n0_
              (try clear hb)
              (try clear hb2)
              (try clear hk)
              (try clear hi)
              refine hK.out _ _ ⟨(cb_ HB hw229_0 :), (cb_ HB hw229_1 :), (cb_ HB hw229_2 :), (cb_ HB hw229_3 :), (cb_ HB hw229_4 :), (cb_ HB hw229_5 :), (cb_ HB hw231_0 :), (cb_ HB hw231_1 :), (cb_ HB hw231_2 :), (cb_ HB hw231_3 :), (cb_ HB hw231_4 :), (cb_ HB hw231_5 :), (cb_ HB hw233_0 :), (cb_ HB hw233_1 :), (cb_ HB hw233_2 :), (cb_ HB hw233_3 :), (cb_ HB hw233_4 :), (cb_ HB hw233_5 :), (cb_ HB hw235_0 :), (cb_ HB hw235_1 :), (cb_ HB hw235_2 :), (cb_ HB hw235_3 :), (cb_ HB hw235_4 :), (cb_ HB hw235_5 :), (cb_ HB hw237_0 :), (cb_ HB hw237_1 :), (cb_ HB hw237_2 :), (cb_ HB hw237_3 :), (cb_ HB hw237_4 :), (cb_ HB hw237_5 :), (cb_ HB hw238_0 :), (cb_ HB hw238_1 :), (cb_ HB hw238_2 :), (cb_ HB hw238_3 :), (cb_ HB hw238_4 :), (cb_ HB hw238_5 :)⟩ (fun hHeld => ?_)
              clear hK K
              refine norm_ (a' := ?_) ?_ ?_
              rotate_left
              ·show Act.put _ (some 44) _ = _
               simp only [Act.put, sA, sB, sC, i64_w, i32_w]
               rfl
              refine pure_ (i := 32) (N := some 45) (v := ?_) (a' := ?_) fz42_33 rfl rfl (any_of HT_.out (by kernel_rfl)) (fun _ _ _ h => h) (Or.inl ⟨by rfl, ?_⟩) ?_ ?_
              rotate_left
              ·intro w'
               go_simp
               with_reducible rfl
              rotate_left
              ·simp only [Act.put, sA, sB, sC, i64_w, i32_w]
               rfl
              refine pure_ (i := 33) (N := some 46) (v := ?_) (a' := ?_) fz42_34 rfl rfl (any_of HT_.out (by kernel_rfl)) (fun _ _ _ h => h) (Or.inl ⟨by rfl, ?_⟩) ?_ ?_
              rotate_left
              ·intro w'
               go_simp
               with_reducible rfl
              rotate_left
              ·simp only [Act.put, sA, sB, sC, i64_w, i32_w]
               rfl
              refine pure_ (i := 34) (N := some 47) (v := ?_) (a' := ?_) fz42_35 rfl rfl (any_of HT_.out (by kernel_rfl)) (fun _ _ _ h => h) (Or.inl ⟨by rfl, ?_⟩) ?_ ?_
              rotate_left
              ·intro w'
               go_simp
               with_reducible rfl
              rotate_left
              ·simp only [Act.put, sA, sB, sC, i64_w, i32_w]
               rfl
              refine pure_ (i := 35) (N := some 48) (v := ?_) (a' := ?_) fz42_36 rfl rfl (any_of HT_.out (by kernel_rfl)) (fun _ _ _ h => h) (Or.inl ⟨by rfl, ?_⟩) ?_ ?_
              rotate_left
              ·intro w'
               go_simp
               with_reducible rfl
              rotate_left
              ·simp only [Act.put, sA, sB, sC, i64_w, i32_w]
               rfl
              refine pure_ (i := 36) (N := some 49) (v := ?_) (a' := ?_) fz42_37 rfl rfl (any_of HT_.out (by kernel_rfl)) (fun _ _ _ h => h) (Or.inl ⟨by rfl, ?_⟩) ?_ ?_
              rotate_left
              ·intro w'
               go_simp
               with_reducible rfl
              rotate_left
              ·simp only [Act.put, sA, sB, sC, i64_w, i32_w]
               rfl
              refine pure_ (i := 37) (N := some 50) (v := ?_) (a' := ?_) fz42_38 rfl rfl (any_of HT_.out (by kernel_rfl)) (fun _ _ _ h => h) (Or.inl ⟨by rfl, ?_⟩) ?_ ?_
              rotate_left
              ·intro w'
               go_simp
               with_reducible rfl
              rotate_left
              ·simp only [Act.put, sA, sB, sC, i64_w, i32_w]
               rfl
              refine pure_ (i := 38) (N := some 51) (v := ?_) (a' := ?_) fz42_39 rfl rfl (any_of HT_.out (by kernel_rfl)) (fun _ _ _ h => h) (Or.inl ⟨by rfl, ?_⟩) ?_ ?_
              rotate_left
              ·intro w'
               go_simp
               with_reducible rfl
              rotate_left
              ·simp only [Act.put, sA, sB, sC, i64_w, i32_w]
               rfl
              refine pure_ (i := 39) (N := some 52) (v := ?_) (a' := ?_) fz42_40 rfl rfl (any_of HT_.out (by kernel_rfl)) (fun _ _ _ h => h) (Or.inl ⟨by rfl, ?_⟩) ?_ ?_
              rotate_left
              ·intro w'
               go_simp
               with_reducible rfl
              rotate_left
              ·simp only [Act.put, sA, sB, sC, i64_w, i32_w]
               rfl
              refine pure_ (i := 40) (N := some 53) (v := ?_) (a' := ?_) fz42_41 rfl rfl (any_of HT_.out (by kernel_rfl)) (fun _ _ _ h => h) (Or.inl ⟨by rfl, ?_⟩) ?_ ?_
              rotate_left
              ·intro w'
               go_simp
               with_reducible rfl
              rotate_left
              ·simp only [Act.put, sA, sB, sC, i64_w, i32_w]
               rfl
              refine pure_ (i := 41) (N := some 54) (v := ?_) (a' := ?_) fz42_42 rfl rfl (any_of HT_.out (by kernel_rfl)) (fun _ _ _ h => h) (Or.inl ⟨by rfl, ?_⟩) ?_ ?_
              rotate_left
              ·intro w'
               go_simp
               with_reducible rfl
              rotate_left
              ·simp only [Act.put, sA, sB, sC, i64_w, i32_w]
               rfl
              refine pure_ (i := 42) (N := some 55) (v := ?_) (a' := ?_) fz42_43 rfl rfl (any_of HT_.out (by kernel_rfl)) (fun _ _ _ h => h) (Or.inl ⟨by rfl, ?_⟩) ?_ ?_
              rotate_left
              ·intro w'
               go_simp
               with_reducible rfl
              rotate_left
              ·simp only [Act.put, sA, sB, sC, i64_w, i32_w]
               rfl
              refine pure_ (i := 44) (N := some 57) (v := ?_) (a' := ?_) #[true, true, true, true, true, true, true, true, true, true, true, true, true, true, true, true, true, true, true, true, true, true, true, true, true, true, true, true, true, true, true, true, true, true, true, true, true, true, true, true, true, true, true, false, true, false, false, false, false, false, false, false] rfl rfl (any_of HT_.out (by kernel_rfl)) (fun _ _ _ h => h) (Or.inl ⟨by rfl, ?_⟩) ?_ ?_
              rotate_left
              ·intro w'
               go_simp
               with_reducible rfl
              rotate_left
              ·simp only [Act.put, sA, sB, sC, i64_w, i32_w]
               rfl
              refine pure_ (i := 45) (N := some 58) (v := ?_) (a' := ?_) #[true, true, true, true, true, true, true, true, true, true, true, true, true, true, true, true, true, true, true, true, true, true, true, true, true, true, true, true, true, true, true, true, true, true, true, true, true, true, true, true, true, true, true, false, true, true, false, false, false, false, false, false] rfl rfl (any_of HT_.out (by kernel_rfl)) (fun _ _ _ h => h) (Or.inl ⟨by rfl, ?_⟩) ?_ ?_
              rotate_left
              ·intro w'
               go_simp
               with_reducible rfl
              rotate_left
              ·simp only [Act.put, sA, sB, sC, i64_w, i32_w]
               rfl
              refine pure_ (i := 46) (N := some 59) (v := ?_) (a' := ?_) #[true, true, true, true, true, true, true, true, true, true, true, true, true, true, true, true, true, true, true, true, true, true, true, true, true, true, true, true, true, true, true, true, true, true, true, true, true, true, true, true, true, true, true, false, true, true, true, false, false, false, false, false] rfl rfl (any_of HT_.out (by kernel_rfl)) (fun _ _ _ h => h) (Or.inl ⟨by rfl, ?_⟩) ?_ ?_
              rotate_left
              ·intro w'
               go_simp
               with_reducible rfl
              rotate_left
              ·simp only [Act.put, sA, sB, sC, i64_w, i32_w]
               rfl
              refine pure_ (i := 47) (N := some 60) (v := ?_) (a' := ?_) #[true, true, true, true, true, true, true, true, true, true, true, true, true, true, true, true, true, true, true, true, true, true, true, true, true, true, true, true, true, true, true, true, true, true, true, true, true, true, true, true, true, true, true, false, true, true, true, true, false, false, false, false] rfl rfl (any_of HT_.out (by kernel_rfl)) (fun _ _ _ h => h) (Or.inl ⟨by rfl, ?_⟩) ?_ ?_
              rotate_left
              ·intro w'
               go_simp
               with_reducible rfl
              rotate_left
              ·simp only [Act.put, sA, sB, sC, i64_w, i32_w]
               rfl
              refine take_ (i := 43) (N := some 56) (v := ?_) (a' := ?_) fz42_44 rfl rfl (take_ofW HT_.out HW_.out (by kernel_rfl)) (fun _ _ _ h => h) (Or.inl ⟨by rfl, ?_⟩) hHeld ?_ ?_
              rotate_left
              ·rintro w' ⟨s0, s1, s2, s3, s4, s5, s6, s7, s8, s9, s10, s11, s12, s13, s14, s15, s16, s17, s18, s19, s20, s21, s22, s23, s24, s25, s26, s27, s28, s29, s30, s31, s32, s33, s34, s35⟩
               go_simp
               with_reducible rfl
              rotate_left
              ·simp only [Act.put, sA, sB, sC, i64_w, i32_w]
               rfl
              refine take_ (i := 48) (N := some 61) (v := ?_) (a' := ?_) fz42_45 rfl rfl (take_ofW HT_.out HW_.out (by kernel_rfl)) (fun _ _ _ h => h) (Or.inl ⟨by rfl, ?_⟩) hHeld ?_ ?_
              rotate_left
              ·rintro w' ⟨s0, s1, s2, s3, s4, s5, s6, s7, s8, s9, s10, s11, s12, s13, s14, s15, s16, s17, s18, s19, s20, s21, s22, s23, s24, s25, s26, s27, s28, s29, s30, s31, s32, s33, s34, s35⟩
               go_simp
               with_reducible rfl
              rotate_left
              ·simp only [Act.put, sA, sB, sC, i64_w, i32_w]
               rfl
              refine pure_ (i := 49) (N := some 62) (v := ?_) (a' := ?_) fz42_46 rfl rfl (any_of HT_.out (by kernel_rfl)) (fun _ _ _ h => h) (Or.inl ⟨by rfl, ?_⟩) ?_ ?_
              rotate_left
              ·intro w'
               go_simp
               with_reducible rfl
              rotate_left
              ·simp only [Act.put, sA, sB, sC, i64_w, i32_w]
               rfl
              refine pure_ (i := 50) (N := some 63) (v := ?_) (a' := ?_) fz42_47 rfl rfl (any_of HT_.out (by kernel_rfl)) (fun _ _ _ h => h) (Or.inl ⟨by rfl, ?_⟩) ?_ ?_
              rotate_left
              ·intro w'
               go_simp
               with_reducible rfl
              rotate_left
              ·simp only [Act.put, sA, sB, sC, i64_w, i32_w]
               rfl
              refine pure_ (i := 51) (N := some 64) (v := ?_) (a' := ?_) fz42_48 rfl rfl (any_of HT_.out (by kernel_rfl)) (fun _ _ _ h => h) (Or.inl ⟨by rfl, ?_⟩) ?_ ?_
              rotate_left
              ·intro w'
               go_simp
               with_reducible rfl
              rotate_left
              ·simp only [Act.put, sA, sB, sC, i64_w, i32_w]
               rfl
              refine done_ (done_of HT_.out (by kernel_rfl)) ?_
              try go_wp2
              go_roundg k1
              case measure => have := HK1.out; omega
              case rel => exact ⟨(wrap64 (x3_1 + 1)), (by first | rfl | (simp; done) | (simp [*]; done)), H', ⟨by have := HK1.out; omega⟩, ⟨by repeat (first | (with_reducible first | exact HB.out | apply below_alloc | apply pw_below_drewN | apply below_drew1) | exact HB.out)⟩⟩
            ·rw [if_neg c16] at H
             exact absurd H (by simp)
           ·rw [if_neg c15] at H
            exact absurd H (by simp)
          ·rw [if_neg c13] at H
           have c13b0 : decide (0 < x3_1) = false := decide_eq_false c13
           clear c13
           have H' := Aside0.mk H
           clear H
           try go_wp2
           have n0_ := Aside0.mk (below_drew1 HB.out)
           clear HB
           have HB := n0_
           clear n0_
           have p229 : 0 ≤ (x3_1 : Int) := of_decide_eq_true (by assumption)
           have q229 : x3_1 < (l0.length : Int) := of_decide_eq_true (by assumption)
           obtain ⟨ad229, A229_4, c229_4, e229, hx229_0, hx229_1, hx229_2, hx229_3, hx229_4, hx229_5, hl229_4, hi229_4⟩ := at_T47 HR0.out x3_1 p229 q229
           have hw229_5 := hx229_5
           have hw229_4 := hx229_4
           have hw229_3 := hx229_3
           have hw229_2 := hx229_2
           have hw229_1 := hx229_1
           have hw229_0 := hx229_0
           cases e229
           replace hx229_0 := cb_ HB hx229_0
           replace hx229_1 := cb_ HB hx229_1
           replace hx229_2 := cb_ HB hx229_2
           replace hx229_3 := cb_ HB hx229_3
           replace hx229_4 := cb_ HB hx229_4
           replace hx229_5 := cb_ HB hx229_5
           have HR229_4 := Aside0.mk hi229_4
           have HC229_4 := Aside0.mk hl229_4
           clear hi229_4 hl229_4
           replace p229 := eq_true p229
           replace q229 := eq_true q229
           have p231 : 0 ≤ (x3_1 : Int) := of_decide_eq_true (by assumption)
           have q231 : x3_1 < (l0.length : Int) := of_decide_eq_true (by assumption)
           obtain ⟨ad231, A231_4, c231_4, e231, hx231_0, hx231_1, hx231_2, hx231_3, hx231_4, hx231_5, hl231_4, hi231_4⟩ := at_T47 HR0.out x3_1 p231 q231
           have hw231_5 := hx231_5
           have hw231_4 := hx231_4
           have hw231_3 := hx231_3
           have hw231_2 := hx231_2
           have hw231_1 := hx231_1
           have hw231_0 := hx231_0
           obtain rfl : ad229 = ad231 := (by injection e231)
           replace hx231_0 := cb_ HB hx231_0
           replace hx231_1 := cb_ HB hx231_1
           replace hx231_2 := cb_ HB hx231_2
           replace hx231_3 := cb_ HB hx231_3
           replace hx231_4 := cb_ HB hx231_4
           replace hx231_5 := cb_ HB hx231_5
           have HR231_4 := Aside0.mk hi231_4
           have HC231_4 := Aside0.mk hl231_4
           clear hi231_4 hl231_4
           replace p231 := eq_true p231
           replace q231 := eq_true q231
           have ea_ := Option.some.inj (hx229_4.symm.trans hx231_4)
           injection ea_ with ea_ en_ ec_
           subst ea_
           subst ec_
           clear en_
           have p233 : 0 ≤ (x3_1 : Int) := of_decide_eq_true (by assumption)
           have q233 : x3_1 < (l0.length : Int) := of_decide_eq_true (by assumption)
           obtain ⟨ad233, A233_4, c233_4, e233, hx233_0, hx233_1, hx233_2, hx233_3, hx233_4, hx233_5, hl233_4, hi233_4⟩ := at_T47 HR0.out x3_1 p233 q233
           have hw233_5 := hx233_5
           have hw233_4 := hx233_4
           have hw233_3 := hx233_3
           have hw233_2 := hx233_2
           have hw233_1 := hx233_1
           have hw233_0 := hx233_0
           obtain rfl : ad229 = ad233 := (by injection e233)
           replace hx233_0 := cb_ HB hx233_0
           replace hx233_1 := cb_ HB hx233_1
           replace hx233_2 := cb_ HB hx233_2
           replace hx233_3 := cb_ HB hx233_3
           replace hx233_4 := cb_ HB hx233_4
           replace hx233_5 := cb_ HB hx233_5
           have HR233_4 := Aside0.mk hi233_4
           have HC233_4 := Aside0.mk hl233_4
           clear hi233_4 hl233_4
           replace p233 := eq_true p233
           replace q233 := eq_true q233
           have ea_ := Option.some.inj (hx229_4.symm.trans hx233_4)
           injection ea_ with ea_ en_ ec_
           subst ea_
           subst ec_
           clear en_
           have p235 : 0 ≤ (x3_1 : Int) := of_decide_eq_true (by assumption)
           have q235 : x3_1 < (l0.length : Int) := of_decide_eq_true (by assumption)
           obtain ⟨ad235, A235_4, c235_4, e235, hx235_0, hx235_1, hx235_2, hx235_3, hx235_4, hx235_5, hl235_4, hi235_4⟩ := at_T47 HR0.out x3_1 p235 q235
           have hw235_5 := hx235_5
           have hw235_4 := hx235_4
           have hw235_3 := hx235_3
           have hw235_2 := hx235_2
           have hw235_1 := hx235_1
           have hw235_0 := hx235_0
           obtain rfl : ad229 = ad235 := (by injection e235)
           replace hx235_0 := cb_ HB hx235_0
           replace hx235_1 := cb_ HB hx235_1
           replace hx235_2 := cb_ HB hx235_2
           replace hx235_3 := cb_ HB hx235_3
           replace hx235_4 := cb_ HB hx235_4
           replace hx235_5 := cb_ HB hx235_5
           have HR235_4 := Aside0.mk hi235_4
           have HC235_4 := Aside0.mk hl235_4
           clear hi235_4 hl235_4
           replace p235 := eq_true p235
           replace q235 := eq_true q235
           have ea_ := Option.some.inj (hx229_4.symm.trans hx235_4)
           injection ea_ with ea_ en_ ec_
           subst ea_
           subst ec_
           clear en_
           refine start_ (n := 52) (S := fun w' => w'.cell? (ad229.add ((x3_1).toNat * 6)) = some (.int .i64 ((rd_T47 l0 x3_1).f0)) ∧ w'.cell? ⟨(ad229.add ((x3_1).toNat * 6)).block, (ad229.add ((x3_1).toNat * 6)).off + 1, none⟩ = some (.int .i64 ((rd_T47 l0 x3_1).f1)) ∧ w'.cell? ⟨(ad229.add ((x3_1).toNat * 6)).block, (ad229.add ((x3_1).toNat * 6)).off + 2, none⟩ = some (.int .i64 ((rd_T47 l0 x3_1).f2.f0)) ∧ w'.cell? ⟨(ad229.add ((x3_1).toNat * 6)).block, (ad229.add ((x3_1).toNat * 6)).off + 3, none⟩ = some (.int .i64 ((rd_T47 l0 x3_1).f2.f1)) ∧ w'.cell? ⟨(ad229.add ((x3_1).toNat * 6)).block, (ad229.add ((x3_1).toNat * 6)).off + 4, none⟩ = some (.slice A229_4 ((rd_T47 l0 x3_1).f2.f2).length c229_4) ∧ w'.cell? ⟨(ad229.add ((x3_1).toNat * 6)).block, (ad229.add ((x3_1).toNat * 6)).off + 5, none⟩ = some (.int .i64 ((rd_T47 l0 x3_1).f3)) ∧ w'.cell? (ad229.add ((x3_1).toNat * 6)) = some (.int .i64 ((rd_T47 l0 x3_1).f0)) ∧ w'.cell? ⟨(ad229.add ((x3_1).toNat * 6)).block, (ad229.add ((x3_1).toNat * 6)).off + 1, none⟩ = some (.int .i64 ((rd_T47 l0 x3_1).f1)) ∧ w'.cell? ⟨(ad229.add ((x3_1).toNat * 6)).block, (ad229.add ((x3_1).toNat * 6)).off + 2, none⟩ = some (.int .i64 ((rd_T47 l0 x3_1).f2.f0)) ∧ w'.cell? ⟨(ad229.add ((x3_1).toNat * 6)).block, (ad229.add ((x3_1).toNat * 6)).off + 3, none⟩ = some (.int .i64 ((rd_T47 l0 x3_1).f2.f1)) ∧ w'.cell? ⟨(ad229.add ((x3_1).toNat * 6)).block, (ad229.add ((x3_1).toNat * 6)).off + 4, none⟩ = some (.slice A229_4 ((rd_T47 l0 x3_1).f2.f2).length c229_4) ∧ w'.cell? ⟨(ad229.add ((x3_1).toNat * 6)).block, (ad229.add ((x3_1).toNat * 6)).off + 5, none⟩ = some (.int .i64 ((rd_T47 l0 x3_1).f3)) ∧ w'.cell? (ad229.add ((x3_1).toNat * 6)) = some (.int .i64 ((rd_T47 l0 x3_1).f0)) ∧ w'.cell? ⟨(ad229.add ((x3_1).toNat * 6)).block, (ad229.add ((x3_1).toNat * 6)).off + 1, none⟩ = some (.int .i64 ((rd_T47 l0 x3_1).f1)) ∧ w'.cell? ⟨(ad229.add ((x3_1).toNat * 6)).block, (ad229.add ((x3_1).toNat * 6)).off + 2, none⟩ = some (.int .i64 ((rd_T47 l0 x3_1).f2.f0)) ∧ w'.cell? ⟨(ad229.add ((x3_1).toNat * 6)).block, (ad229.add ((x3_1).toNat * 6)).off + 3, none⟩ = some (.int .i64 ((rd_T47 l0 x3_1).f2.f1)) ∧ w'.cell? ⟨(ad229.add ((x3_1).toNat * 6)).block, (ad229.add ((x3_1).toNat * 6)).off + 4, none⟩ = some (.slice A229_4 ((rd_T47 l0 x3_1).f2.f2).length c229_4) ∧ w'.cell? ⟨(ad229.add ((x3_1).toNat * 6)).block, (ad229.add ((x3_1).toNat * 6)).off + 5, none⟩ = some (.int .i64 ((rd_T47 l0 x3_1).f3)) ∧ w'.cell? (ad229.add ((x3_1).toNat * 6)) = some (.int .i64 ((rd_T47 l0 x3_1).f0)) ∧ w'.cell? ⟨(ad229.add ((x3_1).toNat * 6)).block, (ad229.add ((x3_1).toNat * 6)).off + 1, none⟩ = some (.int .i64 ((rd_T47 l0 x3_1).f1)) ∧ w'.cell? ⟨(ad229.add ((x3_1).toNat * 6)).block, (ad229.add ((x3_1).toNat * 6)).off + 2, none⟩ = some (.int .i64 ((rd_T47 l0 x3_1).f2.f0)) ∧ w'.cell? ⟨(ad229.add ((x3_1).toNat * 6)).block, (ad229.add ((x3_1).toNat * 6)).off + 3, none⟩ = some (.int .i64 ((rd_T47 l0 x3_1).f2.f1)) ∧ w'.cell? ⟨(ad229.add ((x3_1).toNat * 6)).block, (ad229.add ((x3_1).toNat * 6)).off + 4, none⟩ = some (.slice A229_4 ((rd_T47 l0 x3_1).f2.f2).length c229_4) ∧ w'.cell? ⟨(ad229.add ((x3_1).toNat * 6)).block, (ad229.add ((x3_1).toNat * 6)).off + 5, none⟩ = some (.int .i64 ((rd_T47 l0 x3_1).f3))) (ds := []) fz42_0 (by kernel_rfl) rfl rfl ⟨(cb_ HB hw229_0 :), (cb_ HB hw229_1 :), (cb_ HB hw229_2 :), (cb_ HB hw229_3 :), (cb_ HB hw229_4 :), (cb_ HB hw229_5 :), (cb_ HB hw231_0 :), (cb_ HB hw231_1 :), (cb_ HB hw231_2 :), (cb_ HB hw231_3 :), (cb_ HB hw231_4 :), (cb_ HB hw231_5 :), (cb_ HB hw233_0 :), (cb_ HB hw233_1 :), (cb_ HB hw233_2 :), (cb_ HB hw233_3 :), (cb_ HB hw233_4 :), (cb_ HB hw233_5 :), (cb_ HB hw235_0 :), (cb_ HB hw235_1 :), (cb_ HB hw235_2 :), (cb_ HB hw235_3 :), (cb_ HB hw235_4 :), (cb_ HB hw235_5 :)⟩ (fun hHeld => ?_); refine with_tabW lecternref14_May.tab6 lecternref14_May.bits6 (fun HT_ HW_ => ?_)
           generalize wr.drew = w22 at HB HR229_4 HR231_4 HR233_4 HR235_4 hx229_0 hx229_1 hx229_2 hx229_3 hx229_4 hx229_5 hx231_0 hx231_1 hx231_2 hx231_3 hx231_4 hx231_5 hx233_0 hx233_1 hx233_2 hx233_3 hx233_4 hx233_5 hx235_0 hx235_1 hx235_2 hx235_3 hx235_4 hx235_5 hHeld ⊢
           refine pure_ (i := 0) (N := some 13) (v := ?_) (a' := ?_) fz42_1 rfl rfl (any_of HT_.out (by kernel_rfl)) (fun _ _ _ h => h) (Or.inl ⟨by rfl, ?_⟩) ?_ ?_
           rotate_left
           ·intro w'
            go_simp
            with_reducible rfl
           rotate_left
           ·simp only [Act.put, sA, sB, sC, i64_w, i32_w]
            rfl
           refine pure_ (i := 1) (N := some 14) (v := ?_) (a' := ?_) fz42_2 rfl rfl (any_of HT_.out (by kernel_rfl)) (fun _ _ _ h => h) (Or.inl ⟨by rfl, ?_⟩) ?_ ?_
           rotate_left
           ·intro w'
            go_simp
            with_reducible rfl
           rotate_left
           ·simp only [Act.put, sA, sB, sC, i64_w, i32_w]
            rfl
           refine pure_ (i := 2) (N := some 15) (v := ?_) (a' := ?_) fz42_3 rfl rfl (any_of HT_.out (by kernel_rfl)) (fun _ _ _ h => h) (Or.inl ⟨by rfl, ?_⟩) ?_ ?_
           rotate_left
           ·intro w'
            go_simp
            with_reducible rfl
           rotate_left
           ·simp only [Act.put, sA, sB, sC, i64_w, i32_w]
            rfl
           refine pure_ (i := 3) (N := some 16) (v := ?_) (a' := ?_) fz42_4 rfl rfl (any_of HT_.out (by kernel_rfl)) (fun _ _ _ h => h) (Or.inl ⟨by rfl, ?_⟩) ?_ ?_
           rotate_left
           ·intro w'
            go_simp
            with_reducible rfl
           rotate_left
           ·simp only [Act.put, sA, sB, sC, i64_w, i32_w]
            rfl
           refine take_ (i := 4) (N := some 17) (v := ?_) (a' := ?_) fz42_5 rfl rfl (take_ofW HT_.out HW_.out (by kernel_rfl)) (fun _ _ _ h => h) (Or.inl ⟨by rfl, ?_⟩) hHeld ?_ ?_
           rotate_left
           ·rintro w' ⟨s0, s1, s2, s3, s4, s5, s6, s7, s8, s9, s10, s11, s12, s13, s14, s15, s16, s17, s18, s19, s20, s21, s22, s23⟩
            go_simp
            with_reducible rfl
           rotate_left
           ·simp only [Act.put, sA, sB, sC, i64_w, i32_w]
            rfl
           refine one_ (i := 5) (N := some 18) fz42_6 rfl rfl (one_of HT_.out (by kernel_rfl)) (by decide) (fun K hK => ?_)
           refine goes_ Try.func37 (by kernel_rfl) rfl #[.int .i64 ((rd_T47 l0 x3_1).f0)] (by rfl) rfl rfl (by (try simp only [List.map_toArray, List.map_cons, List.map_nil]); first | done | rfl | (simp only [List.length_drop, List.length_take]; rfl)) ?_
           with_reducible refine (lecternref14_id.calls ((rd_T47 l0 x3_1).f0) true _ A5.out).mono ?_
           rintro e w' ⟨rfl, ⟨nd, rfl⟩⟩
           refine ⟨_, rfl, ?_⟩
           refine hK.out _ _ ⟨(cb_ HB hw229_0 :), (cb_ HB hw229_1 :), (cb_ HB hw229_2 :), (cb_ HB hw229_3 :), (cb_ HB hw229_4 :), (cb_ HB hw229_5 :), (cb_ HB hw231_0 :), (cb_ HB hw231_1 :), (cb_ HB hw231_2 :), (cb_ HB hw231_3 :), (cb_ HB hw231_4 :), (cb_ HB hw231_5 :), (cb_ HB hw233_0 :), (cb_ HB hw233_1 :), (cb_ HB hw233_2 :), (cb_ HB hw233_3 :), (cb_ HB hw233_4 :), (cb_ HB hw233_5 :), (cb_ HB hw235_0 :), (cb_ HB hw235_1 :), (cb_ HB hw235_2 :), (cb_ HB hw235_3 :), (cb_ HB hw235_4 :), (cb_ HB hw235_5 :)⟩ (fun hHeld => ?_)
           clear hK K
           refine norm_ (a' := ?_) ?_ ?_
           rotate_left
           ·show Act.put _ (some 18) _ = _
            simp only [Act.put, sA, sB, sC, i64_w, i32_w]
            rfl
           refine pure_ (i := 6) (N := some 19) (v := ?_) (a' := ?_) fz42_7 rfl rfl (any_of HT_.out (by kernel_rfl)) (fun _ _ _ h => h) (Or.inl ⟨by rfl, ?_⟩) ?_ ?_
           rotate_left
           ·intro w'
            go_simp
            with_reducible rfl
           rotate_left
           ·simp only [Act.put, sA, sB, sC, i64_w, i32_w]
            rfl
           refine pure_ (i := 7) (N := some 20) (v := ?_) (a' := ?_) fz42_8 rfl rfl (any_of HT_.out (by kernel_rfl)) (fun _ _ _ h => h) (Or.inl ⟨by rfl, ?_⟩) ?_ ?_
           rotate_left
           ·intro w'
            go_simp
            with_reducible rfl
           rotate_left
           ·simp only [Act.put, sA, sB, sC, i64_w, i32_w]
            rfl
           refine pure_ (i := 8) (N := some 21) (v := ?_) (a' := ?_) fz42_9 rfl rfl (any_of HT_.out (by kernel_rfl)) (fun _ _ _ h => h) (Or.inl ⟨by rfl, ?_⟩) ?_ ?_
           rotate_left
           ·intro w'
            go_simp
            with_reducible rfl
           rotate_left
           ·simp only [Act.put, sA, sB, sC, i64_w, i32_w]
            rfl
           refine pure_ (i := 9) (N := some 22) (v := ?_) (a' := ?_) fz42_10 rfl rfl (any_of HT_.out (by kernel_rfl)) (fun _ _ _ h => h) (Or.inl ⟨by rfl, ?_⟩) ?_ ?_
           rotate_left
           ·intro w'
            go_simp
            with_reducible rfl
           rotate_left
           ·simp only [Act.put, sA, sB, sC, i64_w, i32_w]
            rfl
           refine pure_ (i := 10) (N := some 23) (v := ?_) (a' := ?_) fz42_11 rfl rfl (any_of HT_.out (by kernel_rfl)) (fun _ _ _ h => h) (Or.inl ⟨by rfl, ?_⟩) ?_ ?_
           rotate_left
           ·intro w'
            go_simp
            with_reducible rfl
           rotate_left
           ·simp only [Act.put, sA, sB, sC, i64_w, i32_w]
            rfl
           refine pure_ (i := 11) (N := some 24) (v := ?_) (a' := ?_) fz42_12 rfl rfl (any_of HT_.out (by kernel_rfl)) (fun _ _ _ h => h) (Or.inl ⟨by rfl, ?_⟩) ?_ ?_
           rotate_left
           ·intro w'
            go_simp
            with_reducible rfl
           rotate_left
           ·simp only [Act.put, sA, sB, sC, i64_w, i32_w]
            rfl
           refine take_ (i := 12) (N := some 25) (v := ?_) (a' := ?_) fz42_13 rfl rfl (take_ofW HT_.out HW_.out (by kernel_rfl)) (fun _ _ _ h => h) (Or.inl ⟨by rfl, ?_⟩) hHeld ?_ ?_
           rotate_left
           ·rintro w' ⟨s0, s1, s2, s3, s4, s5, s6, s7, s8, s9, s10, s11, s12, s13, s14, s15, s16, s17, s18, s19, s20, s21, s22, s23⟩
            go_simp
            with_reducible rfl
           rotate_left
           ·simp only [Act.put, sA, sB, sC, i64_w, i32_w]
            rfl
           refine one_ (i := 13) (N := some 26) fz42_14 rfl rfl (one_of HT_.out (by kernel_rfl)) (by decide) (fun K hK => ?_)
           refine goes_ Try.func22 (by kernel_rfl) rfl #[.int .i64 ((rd_T47 l0 x3_1).f1)] (by rfl) rfl rfl (by (try simp only [List.map_toArray, List.map_cons, List.map_nil]); first | done | rfl | (simp only [List.length_drop, List.length_take]; rfl)) ?_
           with_reducible refine (lecternref0_Num.calls ((rd_T47 l0 x3_1).f1) true _ A7.out).mono ?_
           rintro e w' ⟨rfl, ⟨nd, rfl⟩⟩
           refine ⟨_, rfl, ?_⟩
           refine hK.out _ _ ⟨(cb_ HB hw229_0 :), (cb_ HB hw229_1 :), (cb_ HB hw229_2 :), (cb_ HB hw229_3 :), (cb_ HB hw229_4 :), (cb_ HB hw229_5 :), (cb_ HB hw231_0 :), (cb_ HB hw231_1 :), (cb_ HB hw231_2 :), (cb_ HB hw231_3 :), (cb_ HB hw231_4 :), (cb_ HB hw231_5 :), (cb_ HB hw233_0 :), (cb_ HB hw233_1 :), (cb_ HB hw233_2 :), (cb_ HB hw233_3 :), (cb_ HB hw233_4 :), (cb_ HB hw233_5 :), (cb_ HB hw235_0 :), (cb_ HB hw235_1 :), (cb_ HB hw235_2 :), (cb_ HB hw235_3 :), (cb_ HB hw235_4 :), (cb_ HB hw235_5 :)⟩ (fun hHeld => ?_)
           clear hK K
           refine norm_ (a' := ?_) ?_ ?_
           rotate_left
           ·show Act.put _ (some 26) _ = _
            simp only [Act.put, sA, sB, sC, i64_w, i32_w]
            rfl
           refine pure_ (i := 14) (N := some 27) (v := ?_) (a' := ?_) fz42_15 rfl rfl (any_of HT_.out (by kernel_rfl)) (fun _ _ _ h => h) (Or.inl ⟨by rfl, ?_⟩) ?_ ?_
           rotate_left
           ·intro w'
            go_simp
            with_reducible rfl
           rotate_left
           ·simp only [Act.put, sA, sB, sC, i64_w, i32_w]
            rfl
           refine pure_ (i := 15) (N := some 28) (v := ?_) (a' := ?_) fz42_16 rfl rfl (any_of HT_.out (by kernel_rfl)) (fun _ _ _ h => h) (Or.inl ⟨by rfl, ?_⟩) ?_ ?_
           rotate_left
           ·intro w'
            go_simp
            with_reducible rfl
           rotate_left
           ·simp only [Act.put, sA, sB, sC, i64_w, i32_w]
            rfl
           refine pure_ (i := 16) (N := some 29) (v := ?_) (a' := ?_) fz42_17 rfl rfl (any_of HT_.out (by kernel_rfl)) (fun _ _ _ h => h) (Or.inl ⟨by rfl, ?_⟩) ?_ ?_
           rotate_left
           ·intro w'
            go_simp
            with_reducible rfl
           rotate_left
           ·simp only [Act.put, sA, sB, sC, i64_w, i32_w]
            rfl
           refine pure_ (i := 17) (N := some 30) (v := ?_) (a' := ?_) fz42_18 rfl rfl (any_of HT_.out (by kernel_rfl)) (fun _ _ _ h => h) (Or.inl ⟨by rfl, ?_⟩) ?_ ?_
           rotate_left
           ·intro w'
            go_simp
            with_reducible rfl
           rotate_left
           ·simp only [Act.put, sA, sB, sC, i64_w, i32_w]
            rfl
           refine pure_ (i := 18) (N := some 31) (v := ?_) (a' := ?_) fz42_19 rfl rfl (any_of HT_.out (by kernel_rfl)) (fun _ _ _ h => h) (Or.inl ⟨by rfl, ?_⟩) ?_ ?_
           rotate_left
           ·intro w'
            go_simp
            with_reducible rfl
           rotate_left
           ·simp only [Act.put, sA, sB, sC, i64_w, i32_w]
            rfl
           refine pure_ (i := 19) (N := some 32) (v := ?_) (a' := ?_) fz42_20 rfl rfl (any_of HT_.out (by kernel_rfl)) (fun _ _ _ h => h) (Or.inl ⟨by rfl, ?_⟩) ?_ ?_
           rotate_left
           ·intro w'
            go_simp
            with_reducible rfl
           rotate_left
           ·simp only [Act.put, sA, sB, sC, i64_w, i32_w]
            rfl
           refine pure_ (i := 20) (N := some 33) (v := ?_) (a' := ?_) fz42_21 rfl rfl (any_of HT_.out (by kernel_rfl)) (fun _ _ _ h => h) (Or.inl ⟨by rfl, ?_⟩) ?_ ?_
           rotate_left
           ·intro w'
            go_simp
            with_reducible rfl
           rotate_left
           ·simp only [Act.put, sA, sB, sC, i64_w, i32_w]
            rfl
           refine take_ (i := 21) (N := some 34) (v := ?_) (a' := ?_) fz42_22 rfl rfl (take_ofW HT_.out HW_.out (by kernel_rfl)) (fun _ _ _ h => h) (Or.inl ⟨by rfl, ?_⟩) hHeld ?_ ?_
           rotate_left
           ·rintro w' ⟨s0, s1, s2, s3, s4, s5, s6, s7, s8, s9, s10, s11, s12, s13, s14, s15, s16, s17, s18, s19, s20, s21, s22, s23⟩
            go_simp
            with_reducible rfl
           rotate_left
           ·simp only [Act.put, sA, sB, sC, i64_w, i32_w]
            rfl
           refine one_ (i := 22) (N := some 35) fz42_23 rfl rfl (one_of HT_.out (by kernel_rfl)) (by decide) (fun K hK => ?_)
           refine goes_ Try.func22 (by kernel_rfl) rfl #[.int .i64 ((rd_T47 l0 x3_1).f3)] (by rfl) rfl rfl (by (try simp only [List.map_toArray, List.map_cons, List.map_nil]); first | done | rfl | (simp only [List.length_drop, List.length_take]; rfl)) ?_
           with_reducible refine (lecternref0_Num.calls ((rd_T47 l0 x3_1).f3) true _ A9.out).mono ?_
           rintro e w' ⟨rfl, ⟨nd, rfl⟩⟩
           refine ⟨_, rfl, ?_⟩
           refine hK.out _ _ ⟨(cb_ HB hw229_0 :), (cb_ HB hw229_1 :), (cb_ HB hw229_2 :), (cb_ HB hw229_3 :), (cb_ HB hw229_4 :), (cb_ HB hw229_5 :), (cb_ HB hw231_0 :), (cb_ HB hw231_1 :), (cb_ HB hw231_2 :), (cb_ HB hw231_3 :), (cb_ HB hw231_4 :), (cb_ HB hw231_5 :), (cb_ HB hw233_0 :), (cb_ HB hw233_1 :), (cb_ HB hw233_2 :), (cb_ HB hw233_3 :), (cb_ HB hw233_4 :), (cb_ HB hw233_5 :), (cb_ HB hw235_0 :), (cb_ HB hw235_1 :), (cb_ HB hw235_2 :), (cb_ HB hw235_3 :), (cb_ HB hw235_4 :), (cb_ HB hw235_5 :)⟩ (fun hHeld => ?_)
           clear hK K
           refine norm_ (a' := ?_) ?_ ?_
           rotate_left
           ·show Act.put _ (some 35) _ = _
            simp only [Act.put, sA, sB, sC, i64_w, i32_w]
            rfl
           refine pure_ (i := 23) (N := some 36) (v := ?_) (a' := ?_) fz42_24 rfl rfl (any_of HT_.out (by kernel_rfl)) (fun _ _ _ h => h) (Or.inl ⟨by rfl, ?_⟩) ?_ ?_
           rotate_left
           ·intro w'
            go_simp
            with_reducible rfl
           rotate_left
           ·simp only [Act.put, sA, sB, sC, i64_w, i32_w]
            rfl
           refine pure_ (i := 24) (N := some 37) (v := ?_) (a' := ?_) fz42_25 rfl rfl (any_of HT_.out (by kernel_rfl)) (fun _ _ _ h => h) (Or.inl ⟨by rfl, ?_⟩) ?_ ?_
           rotate_left
           ·intro w'
            go_simp
            with_reducible rfl
           rotate_left
           ·simp only [Act.put, sA, sB, sC, i64_w, i32_w]
            rfl
           refine pure_ (i := 25) (N := some 38) (v := ?_) (a' := ?_) fz42_26 rfl rfl (any_of HT_.out (by kernel_rfl)) (fun _ _ _ h => h) (Or.inl ⟨by rfl, ?_⟩) ?_ ?_
           rotate_left
           ·intro w'
            go_simp
            with_reducible rfl
           rotate_left
           ·simp only [Act.put, sA, sB, sC, i64_w, i32_w]
            rfl
           refine pure_ (i := 26) (N := some 39) (v := ?_) (a' := ?_) fz42_27 rfl rfl (any_of HT_.out (by kernel_rfl)) (fun _ _ _ h => h) (Or.inl ⟨by rfl, ?_⟩) ?_ ?_
           rotate_left
           ·intro w'
            go_simp
            with_reducible rfl
           rotate_left
           ·simp only [Act.put, sA, sB, sC, i64_w, i32_w]
            rfl
           refine pure_ (i := 27) (N := some 40) (v := ?_) (a' := ?_) fz42_28 rfl rfl (any_of HT_.out (by kernel_rfl)) (fun _ _ _ h => h) (Or.inl ⟨by rfl, ?_⟩) ?_ ?_
           rotate_left
           ·intro w'
            go_simp
            with_reducible rfl
           rotate_left
           ·simp only [Act.put, sA, sB, sC, i64_w, i32_w]
            rfl
           refine pure_ (i := 28) (N := some 41) (v := ?_) (a' := ?_) fz42_29 rfl rfl (any_of HT_.out (by kernel_rfl)) (fun _ _ _ h => h) (Or.inl ⟨by rfl, ?_⟩) ?_ ?_
           rotate_left
           ·intro w'
            go_simp
            with_reducible rfl
           rotate_left
           ·simp only [Act.put, sA, sB, sC, i64_w, i32_w]
            rfl
           refine pure_ (i := 29) (N := some 42) (v := ?_) (a' := ?_) fz42_30 rfl rfl (any_of HT_.out (by kernel_rfl)) (fun _ _ _ h => h) (Or.inl ⟨by rfl, ?_⟩) ?_ ?_
           rotate_left
           ·intro w'
            go_simp
            with_reducible rfl
           rotate_left
           ·simp only [Act.put, sA, sB, sC, i64_w, i32_w]
            rfl
           refine take_ (i := 30) (N := some 43) (v := ?_) (a' := ?_) fz42_31 rfl rfl (take_ofW HT_.out HW_.out (by kernel_rfl)) (fun _ _ _ h => h) (Or.inl ⟨by rfl, ?_⟩) hHeld ?_ ?_
           rotate_left
           ·rintro w' ⟨s0, s1, s2, s3, s4, s5, s6, s7, s8, s9, s10, s11, s12, s13, s14, s15, s16, s17, s18, s19, s20, s21, s22, s23⟩
            go_simp
            with_reducible rfl
           rotate_left
           ·simp only [Act.put, sA, sB, sC, i64_w, i32_w]
            rfl
           refine one_ (i := 31) (N := some 44) fz42_32 rfl rfl (one_of HT_.out (by kernel_rfl)) (by decide) (fun K hK => ?_)
           refine goes_ Try.func38 (by kernel_rfl) rfl #[.agg #[.int .i64 ((rd_T47 l0 x3_1).f2.f0), .int .i64 ((rd_T47 l0 x3_1).f2.f1), .slice A229_4 ((rd_T47 l0 x3_1).f2.f2).length c229_4]] (by rfl) rfl rfl (by (try simp only [List.map_toArray, List.map_cons, List.map_nil]); first | done | rfl | (simp only [List.length_drop, List.length_take]; rfl)) ?_
           with_reducible refine (lecternref14_MayReply.calls ((rd_T47 l0 x3_1).f2.f0) ((rd_T47 l0 x3_1).f2.f1) _ _ ((rd_T47 l0 x3_1).f2.f2) true _ ?side1 ?side2 A11.out).mono ?_
           (case side1 => repeat (first | exact (Kd.C_below HR235_4.out (by repeat (first | (with_reducible first | exact HB.out | apply below_alloc | apply pw_below_drewN | apply below_drew1) | exact HB.out))) | (with_reducible refine Kd.C_alloc ?_ _) | (with_reducible refine Kd.C_drewN ?_ _) | (with_reducible refine Kd.C_drew ?_)))
           (case side2 => exact HC235_4.out)
           rintro e w23 ⟨rfl, hb⟩
           refine ⟨_, rfl, ?_⟩
           have n0_ := Aside0.mk (below_step (by repeat (first | (with_reducible first | exact HB.out | apply below_alloc | apply pw_below_drewN | apply below_drew1) | exact HB.out)) hb)
           clear HB
           have HB := n0_
           clear n0_
           (try clear hb)
           (try clear hb2)
           (try clear hk)
           (try clear hi)
           refine hK.out _ _ ⟨(cb_ HB hw229_0 :), (cb_ HB hw229_1 :), (cb_ HB hw229_2 :), (cb_ HB hw229_3 :), (cb_ HB hw229_4 :), (cb_ HB hw229_5 :), (cb_ HB hw231_0 :), (cb_ HB hw231_1 :), (cb_ HB hw231_2 :), (cb_ HB hw231_3 :), (cb_ HB hw231_4 :), (cb_ HB hw231_5 :), (cb_ HB hw233_0 :), (cb_ HB hw233_1 :), (cb_ HB hw233_2 :), (cb_ HB hw233_3 :), (cb_ HB hw233_4 :), (cb_ HB hw233_5 :), (cb_ HB hw235_0 :), (cb_ HB hw235_1 :), (cb_ HB hw235_2 :), (cb_ HB hw235_3 :), (cb_ HB hw235_4 :), (cb_ HB hw235_5 :)⟩ (fun hHeld => ?_)
           clear hK K
           refine norm_ (a' := ?_) ?_ ?_
           rotate_left
           ·show Act.put _ (some 44) _ = _
            simp only [Act.put, sA, sB, sC, i64_w, i32_w]
            rfl
           refine pure_ (i := 32) (N := some 45) (v := ?_) (a' := ?_) fz42_33 rfl rfl (any_of HT_.out (by kernel_rfl)) (fun _ _ _ h => h) (Or.inl ⟨by rfl, ?_⟩) ?_ ?_
           rotate_left
           ·intro w'
            go_simp
            with_reducible rfl
           rotate_left
           ·simp only [Act.put, sA, sB, sC, i64_w, i32_w]
            rfl
           refine pure_ (i := 33) (N := some 46) (v := ?_) (a' := ?_) fz42_34 rfl rfl (any_of HT_.out (by kernel_rfl)) (fun _ _ _ h => h) (Or.inl ⟨by rfl, ?_⟩) ?_ ?_
           rotate_left
           ·intro w'
            go_simp
            with_reducible rfl
           rotate_left
           ·simp only [Act.put, sA, sB, sC, i64_w, i32_w]
            rfl
           refine pure_ (i := 34) (N := some 47) (v := ?_) (a' := ?_) fz42_35 rfl rfl (any_of HT_.out (by kernel_rfl)) (fun _ _ _ h => h) (Or.inl ⟨by rfl, ?_⟩) ?_ ?_
           rotate_left
           ·intro w'
            go_simp
            with_reducible rfl
           rotate_left
           ·simp only [Act.put, sA, sB, sC, i64_w, i32_w]
            rfl
           refine pure_ (i := 35) (N := some 48) (v := ?_) (a' := ?_) fz42_36 rfl rfl (any_of HT_.out (by kernel_rfl)) (fun _ _ _ h => h) (Or.inl ⟨by rfl, ?_⟩) ?_ ?_
           rotate_left
           ·intro w'
            go_simp
            with_reducible rfl
           rotate_left
           ·simp only [Act.put, sA, sB, sC, i64_w, i32_w]
            rfl
           refine pure_ (i := 36) (N := some 49) (v := ?_) (a' := ?_) fz42_37 rfl rfl (any_of HT_.out (by kernel_rfl)) (fun _ _ _ h => h) (Or.inl ⟨by rfl, ?_⟩) ?_ ?_
           rotate_left
           ·intro w'
            go_simp
            with_reducible rfl
           rotate_left
           ·simp only [Act.put, sA, sB, sC, i64_w, i32_w]
            rfl
           refine pure_ (i := 37) (N := some 50) (v := ?_) (a' := ?_) fz42_38 rfl rfl (any_of HT_.out (by kernel_rfl)) (fun _ _ _ h => h) (Or.inl ⟨by rfl, ?_⟩) ?_ ?_
           rotate_left
           ·intro w'
            go_simp
            with_reducible rfl
           rotate_left
           ·simp only [Act.put, sA, sB, sC, i64_w, i32_w]
            rfl
           refine pure_ (i := 38) (N := some 51) (v := undef) (a' := ?_) fz42_39 rfl rfl (any_of HT_.out (by kernel_rfl)) (fun _ _ _ h => h) (Or.inr ⟨by rfl, rfl⟩) ?_ ?_
           rotate_left
           ·simp only [Act.put, sA, sB, sC, i64_w, i32_w]
            rfl
           refine pure_ (i := 39) (N := some 52) (v := undef) (a' := ?_) fz42_40 rfl rfl (any_of HT_.out (by kernel_rfl)) (fun _ _ _ h => h) (Or.inr ⟨by rfl, rfl⟩) ?_ ?_
           rotate_left
           ·simp only [Act.put, sA, sB, sC, i64_w, i32_w]
            rfl
           refine pure_ (i := 40) (N := some 53) (v := undef) (a' := ?_) fz42_41 rfl rfl (any_of HT_.out (by kernel_rfl)) (fun _ _ _ h => h) (Or.inr ⟨by rfl, rfl⟩) ?_ ?_
           rotate_left
           ·simp only [Act.put, sA, sB, sC, i64_w, i32_w]
            rfl
           refine pure_ (i := 41) (N := some 54) (v := undef) (a' := ?_) fz42_42 rfl rfl (any_of HT_.out (by kernel_rfl)) (fun _ _ _ h => h) (Or.inr ⟨by rfl, rfl⟩) ?_ ?_
           rotate_left
           ·simp only [Act.put, sA, sB, sC, i64_w, i32_w]
            rfl
           refine pure_ (i := 42) (N := some 55) (v := undef) (a' := ?_) fz42_43 rfl rfl (any_of HT_.out (by kernel_rfl)) (fun _ _ _ h => h) (Or.inr ⟨by rfl, rfl⟩) ?_ ?_
           rotate_left
           ·simp only [Act.put, sA, sB, sC, i64_w, i32_w]
            rfl
           refine pure_ (i := 43) (N := some 56) (v := undef) (a' := ?_) #[true, true, true, true, true, true, true, true, true, true, true, true, true, true, true, true, true, true, true, true, true, true, true, true, true, true, true, true, true, true, true, true, true, true, true, true, true, true, true, true, true, true, true, true, false, false, false, false, false, false, false, false] rfl rfl (any_of HT_.out (by kernel_rfl)) (fun _ _ _ h => h) (Or.inr ⟨by rfl, rfl⟩) ?_ ?_
           rotate_left
           ·simp only [Act.put, sA, sB, sC, i64_w, i32_w]
            rfl
           refine pure_ (i := 44) (N := some 57) (v := undef) (a' := ?_) #[true, true, true, true, true, true, true, true, true, true, true, true, true, true, true, true, true, true, true, true, true, true, true, true, true, true, true, true, true, true, true, true, true, true, true, true, true, true, true, true, true, true, true, true, true, false, false, false, false, false, false, false] rfl rfl (any_of HT_.out (by kernel_rfl)) (fun _ _ _ h => h) (Or.inr ⟨by rfl, rfl⟩) ?_ ?_
           rotate_left
           ·simp only [Act.put, sA, sB, sC, i64_w, i32_w]
            rfl
           refine pure_ (i := 45) (N := some 58) (v := undef) (a' := ?_) #[true, true, true, true, true, true, true, true, true, true, true, true, true, true, true, true, true, true, true, true, true, true, true, true, true, true, true, true, true, true, true, true, true, true, true, true, true, true, true, true, true, true, true, true, true, true, false, false, false, false, false, false] rfl rfl (any_of HT_.out (by kernel_rfl)) (fun _ _ _ h => h) (Or.inr ⟨by rfl, rfl⟩) ?_ ?_
           rotate_left
           ·simp only [Act.put, sA, sB, sC, i64_w, i32_w]
            rfl
           refine pure_ (i := 46) (N := some 59) (v := undef) (a' := ?_) #[true, true, true, true, true, true, true, true, true, true, true, true, true, true, true, true, true, true, true, true, true, true, true, true, true, true, true, true, true, true, true, true, true, true, true, true, true, true, true, true, true, true, true, true, true, true, true, false, false, false, false, false] rfl rfl (any_of HT_.out (by kernel_rfl)) (fun _ _ _ h => h) (Or.inr ⟨by rfl, rfl⟩) ?_ ?_
           rotate_left
           ·simp only [Act.put, sA, sB, sC, i64_w, i32_w]
            rfl
           refine pure_ (i := 47) (N := some 60) (v := undef) (a' := ?_) fz42_44 rfl rfl (any_of HT_.out (by kernel_rfl)) (fun _ _ _ h => h) (Or.inr ⟨by rfl, rfl⟩) ?_ ?_
           rotate_left
           ·simp only [Act.put, sA, sB, sC, i64_w, i32_w]
            rfl
           refine pure_ (i := 48) (N := some 61) (v := undef) (a' := ?_) fz42_45 rfl rfl (any_of HT_.out (by kernel_rfl)) (fun _ _ _ h => h) (Or.inr ⟨by rfl, rfl⟩) ?_ ?_
           rotate_left
           ·simp only [Act.put, sA, sB, sC, i64_w, i32_w]
            rfl
           refine pure_ (i := 49) (N := some 62) (v := undef) (a' := ?_) fz42_46 rfl rfl (any_of HT_.out (by kernel_rfl)) (fun _ _ _ h => h) (Or.inr ⟨by rfl, rfl⟩) ?_ ?_
           rotate_left
           ·simp only [Act.put, sA, sB, sC, i64_w, i32_w]
            rfl
           refine pure_ (i := 50) (N := some 63) (v := ?_) (a' := ?_) fz42_47 rfl rfl (any_of HT_.out (by kernel_rfl)) (fun _ _ _ h => h) (Or.inl ⟨by rfl, ?_⟩) ?_ ?_
           rotate_left
           ·intro w'
            go_simp
            with_reducible rfl
           rotate_left
           ·simp only [Act.put, sA, sB, sC, i64_w, i32_w]
            rfl
           refine pure_ (i := 51) (N := some 64) (v := ?_) (a' := ?_) fz42_48 rfl rfl (any_of HT_.out (by kernel_rfl)) (fun _ _ _ h => h) (Or.inl ⟨by rfl, ?_⟩) ?_ ?_
           rotate_left
           ·intro w'
            go_simp
            with_reducible rfl
           rotate_left
           ·simp only [Act.put, sA, sB, sC, i64_w, i32_w]
            rfl
           refine done_ (done_of HT_.out (by kernel_rfl)) ?_
           try go_wp2
           go_roundg k1
           case measure => have := HK1.out; omega
           case rel => exact ⟨(wrap64 (x3_1 + 1)), (by first | rfl | (simp; done) | (simp [*]; done)), H', ⟨by have := HK1.out; omega⟩, ⟨by repeat (first | (with_reducible first | exact HB.out | apply below_alloc | apply pw_below_drewN | apply below_drew1) | exact HB.out)⟩⟩
         ·rw [if_neg c12] at H
          exact absurd H (by simp)
        ·rw [if_neg c10] at H
         exact absurd H (by simp)
       ·rw [if_neg c8] at H
        exact absurd H (by simp)
      ·rw [if_neg c6] at H
       exact absurd H (by simp)
     ·rw [if_neg c4] at H
      exact absurd H (by simp)
    ·rw [if_neg c3] at H
     have c3b0 : decide (x3_1 < (l0.length : Int)) = false := decide_eq_false c3
     clear c3
     obtain rfl := Option.some.inj H
     go_wp2
     go_ret
     exact ⟨by first | rfl | (simp [errW_none, errW_some] <;> rfl) | (simp [*, errW_none, errW_some] <;> rfl), by repeat (first | (with_reducible first | exact HB.out | apply below_alloc | apply pw_below_drewN | apply below_drew1) | exact HB.out)⟩

end Go.Proofs.Yticlghbdapbdnaa.I
