-- Written by a program: the kit's printer with changes of this session (NOTES.md).
import Derived.Test.YticlghbdapbdnaaSShort
import Derived.Test.YticlghbdapbdnaaIx0
import Derived.Test.YticlghbdapbdnaaIM
import Derived.Test.YticlghbdapbdnaaIx19
import Derived.Test.YticlghbdapbdnaaIx30
import Derived.Test.YticlghbdapbdnaaIx36
import Derived.Test.YticlghbdapbdnaaIx44
namespace Go.Proofs.Yticlghbdapbdnaa.I
open Go.RowKit Go.Proofs.YticlghbdapbdnaaW.PrintWords Go.Proofs.YticlghbdapbdnaaW.PrintLast Go.Proofs.YticlghbdapbdnaaW.PrintMore
attribute [local go_sem] max2_int min2_int max_two min_two max_three min_three max_four min_four   -- for this text's walks alone
set_option linter.unusedVariables false
set_option linter.unusedSimpArgs false

-- shrunk
@[reducible] def fz0_0 : Array Bool := #[true, true, true, true, true, true, true, true, true, true, false, false, false, false, false, true, false, false, false, false, false, false]
@[reducible] def fz0_1 : Array Bool := #[true, true, true, true, true, true, true, true, true, true, false, false, false, false, false, true, true, false, false, false, false, false]
@[reducible] def fz0_2 : Array Bool := #[true, true, true, true, true, true, true, true, true, true, false, false, true, false, false, false, false, false, false, false, false, false]
@[reducible] def fz0_3 : Array Bool := #[true, true, true, true, true, true, true, true, true, true, false, false, true, false, false, true, false, false, false, false, false, false]
@[reducible] def fz0_4 : Array Bool := #[true, true, true, true, true, true, true, true, true, true, false, false, true, false, false, true, true, false, false, false, false, false]
@[reducible] def fz0_5 : Array Bool := #[true, true, true, true, true, true, true, true, true, true, false, false, true, true, false, false, false, false, false, false, false, false]
@[reducible] def fz0_6 : Array Bool := #[true, true, true, true, true, true, true, true, true, true, false, false, true, true, false, true, false, false, false, false, false, false]
@[reducible] def fz0_7 : Array Bool := #[true, true, true, true, true, true, true, true, true, true, false, false, true, true, false, true, true, false, false, false, false, false]
@[reducible] def fz0_8 : Array Bool := #[true, true, true, true, true, true, true, true, true, true, true, false, false, false, false, false, false, false, false, false, false, false]
@[reducible] def fz0_9 : Array Bool := #[true, true, true, true, true, true, true, true, true, true, true, false, false, false, false, true, false, false, false, false, false, false]
@[reducible] def fz0_10 : Array Bool := #[true, true, true, true, true, true, true, true, true, true, true, false, false, false, false, true, true, false, false, false, false, false]
@[reducible] def fz0_11 : Array Bool := #[true, true, true, true, true, true, true, true, true, true, true, false, true, false, false, false, false, false, false, false, false, false]
@[reducible] def fz0_12 : Array Bool := #[true, true, true, true, true, true, true, true, true, true, true, false, true, false, false, true, false, false, false, false, false, false]
@[reducible] def fz0_13 : Array Bool := #[true, true, true, true, true, true, true, true, true, true, true, false, true, false, false, true, true, false, false, false, false, false]
@[reducible] def fz0_14 : Array Bool := #[true, true, true, true, true, true, true, true, true, true, true, false, true, true, false, false, false, false, false, false, false, false]
@[reducible] def fz0_15 : Array Bool := #[true, true, true, true, true, true, true, true, true, true, true, false, true, true, false, true, false, false, false, false, false, false]
@[reducible] def fz0_16 : Array Bool := #[true, true, true, true, true, true, true, true, true, true, true, false, true, true, false, true, true, false, false, false, false, false]
@[reducible] def fz0_17 : Array Bool := #[true, true, true, true, true, true, true, true, true, true, true, true, false, false, false, false, false, false, false, false, false, false]
@[reducible] def fz0_18 : Array Bool := #[true, true, true, true, true, true, true, true, true, true, true, true, false, false, false, true, false, false, false, false, false, false]
@[reducible] def fz0_19 : Array Bool := #[true, true, true, true, true, true, true, true, true, true, true, true, false, false, false, true, true, false, false, false, false, false]
@[reducible] def fz0_20 : Array Bool := #[true, true, true, true, true, true, true, true, true, true, true, true, true, false, false, false, false, false, false, false, false, false]
@[reducible] def fz0_21 : Array Bool := #[true, true, true, true, true, true, true, true, true, true, true, true, true, false, false, true, false, false, false, false, false, false]
@[reducible] def fz0_22 : Array Bool := #[true, true, true, true, true, true, true, true, true, true, true, true, true, false, false, true, true, false, false, false, false, false]
@[reducible] def fz0_23 : Array Bool := #[true, true, true, true, true, true, true, true, true, true, true, true, true, true, false, false, false, false, false, false, false, false]
@[reducible] def fz0_24 : Array Bool := #[true, true, true, true, true, true, true, true, true, true, true, true, true, true, false, true, false, false, false, false, false, false]
@[reducible] def fz0_25 : Array Bool := #[true, true, true, true, true, true, true, true, true, true, true, true, true, true, false, true, true, false, false, false, false, false]
@[reducible] def fz0_26 : Array Bool := #[true, true, true, true, true, true, true, true, true, true, true, true, true, true, true, false, false, false, false, false, false, false]
@[reducible] def fz0_27 : Array Bool := #[true, true, true, true, true, true, true, true, true, true, true, true, true, true, true, true, false, false, false, false, false, false]
@[reducible] def fz0_28 : Array Bool := #[true, true, true, true, true, true, true, true, true, true, true, true, true, true, true, true, true, false, false, false, false, false]
/-! ### lecternlaw17_ImageGreat: function 4 -/
mutual
def lecternlaw17_ImageGreat.l0 : Nat → List (S28) → Int → Int → List (S42) → Option (Bool)
 | 0, _, _, _, _ => none
 | k + 1, x0, x4, x230000, x230001 => if x4 < 64 then ((some (([(wrap64 (97 + (wrap64 (Int.tdiv x4 26)))) % 256, (wrap64 (97 + (Int.tmod x4 26))) % 256] : List Int) : List Int)).bind fun y230 => (if 62 ≤ 281474976710656 then ((some (List.replicate 62 0 : List Int)).bind fun y233 => (if (strOfNums y230).size + (strOfNums y233).size ≤ 9223372036854775807 then (if 256 ≤ 281474976710656 then (if x230001.length < 4398046511104 then (lecternlaw17_ImageGreat.l0 k x0 (wrap64 (x4 + 1)) x230000 (x230001 ++ [(⟨(strOfNums y230) ++ (strOfNums y233), strOfNums (List.replicate 256 0)⟩ : S42)])) else (none)) else (none)) else (none))) else (none))) else (lecternlaw17_ImageGreat.l1 k x0 1 x230000 x230001 ([] : List (S47)))
def lecternlaw17_ImageGreat.l1 : Nat → List (S28) → Int → Int → List (S42) → List (S47) → Option (Bool)
 | 0, _, _, _, _, _ => none
 | k + 1, x0, x5, x230000, x230001, x230002 => if x5 ≤ 8 then (if x230002.length < 2199023255552 then (lecternlaw17_ImageGreat.l1 k x0 (wrap64 (x5 + 1)) x230000 x230001 (x230002 ++ [(⟨wrap64 (1099511627767 + x5), 1099511627775, (⟨10, 1099511627775, ([] : List (S96))⟩ : S45), 1099511627775⟩ : S47)])) else (none)) else ((image_Bytes.f k x230000 x230001 x230002).bind fun bt245 => ((image_Parse.f k bt245.1).bind fun bt249 => (if 257 ≤ 281474976710656 then (if 0 < (x230001.length : Int) then ((some (x230001.set (0 : Int).toNat (⟨(rd_T42 x230001 0).f0, strOfNums (List.replicate 257 0)⟩ : S42) : List (S42))).bind fun y261 => ((image_Bytes.f k x230000 y261 x230002).bind fun bt262 => (if 256 ≤ 281474976710656 then ((lecternlaw17_num.f bt245.2).bind fun t270 => (if t270 = 0 then (if (bt245.1.length : Int) ≤ 524288 then ((lecternlaw17_num.f bt249.2.2.2).bind fun t271 => (if t271 = 0 then ((lecternref0_EqState.f k bt249.1 bt249.2.1 bt249.2.2.1 x230000 (y261.set (0 : Int).toNat (⟨(rd_T42 y261 0).f0, strOfNums (List.replicate 256 0)⟩ : S42)) x230002).bind fun t272 => (if t272 = true then ((lecternlaw17_num.f bt262.2).bind fun t273 => (if t273 = 1 then (if (x0.length : Int) ≥ 0 then ((lecternlaw17_wakes.f k).bind fun t274 => (some t274)) else (none)) else (none))) else (none))) else (none))) else (none)) else (none))) else (none)))) else (none)) else (none))))
end
def lecternlaw17_ImageGreat.f (k : Nat) (l0 : List (S28)) : Option (Bool) := lecternlaw17_ImageGreat.l0 k l0 0 1099511627775 ([] : List (S42))
theorem lecternlaw17_ImageGreat.mono_l : ∀ k, (∀ y0 y1 y2 y3, LeO (lecternlaw17_ImageGreat.l0 k y0 y1 y2 y3) (lecternlaw17_ImageGreat.l0 (k + 1) y0 y1 y2 y3)) ∧ (∀ y0 y1 y2 y3 y4, LeO (lecternlaw17_ImageGreat.l1 k y0 y1 y2 y3 y4) (lecternlaw17_ImageGreat.l1 (k + 1) y0 y1 y2 y3 y4))
 | 0 => ⟨fun _ _ _ _ r h => by simp [lecternlaw17_ImageGreat.l0] at h, fun _ _ _ _ _ r h => by simp [lecternlaw17_ImageGreat.l1] at h⟩
 | k + 1 => by
  obtain ⟨ih0, ih1⟩ := lecternlaw17_ImageGreat.mono_l k
  refine ⟨?_, ?_⟩
  ·intro y0 y1 y2 y3
   unfold lecternlaw17_ImageGreat.l0
   repeat' first
   | (with_reducible exact ih0 _ _ _ _)
   | (with_reducible exact ih1 _ _ _ _ _)
   | (with_reducible exact image_Bytes.mono _ _ _ _)
   | (with_reducible exact image_Parse.mono _ _)
   | (with_reducible exact lecternlaw17_wakes.mono _)
   | (with_reducible exact lecternref0_EqState.mono _ _ _ _ _ _ _)
   | (with_reducible exact LeO.refl _)
   | (with_reducible exact LeO.none _)
   | (with_reducible refine LeO.ite ?_ ?_)
   | (with_reducible refine LeO.bind ?_ (fun _ => ?_))
   | exact ih0 _ _ _ _
   | exact ih1 _ _ _ _ _
   | exact image_Bytes.mono _ _ _ _
   | exact image_Parse.mono _ _
   | exact lecternlaw17_wakes.mono _
   | exact lecternref0_EqState.mono _ _ _ _ _ _ _
   | exact LeO.none _
   | refine LeO.ite ?_ ?_
   | refine LeO.bind ?_ (fun _ => ?_)
  ·intro y0 y1 y2 y3 y4
   unfold lecternlaw17_ImageGreat.l1
   repeat' first
   | (with_reducible exact ih0 _ _ _ _)
   | (with_reducible exact ih1 _ _ _ _ _)
   | (with_reducible exact image_Bytes.mono _ _ _ _)
   | (with_reducible exact image_Parse.mono _ _)
   | (with_reducible exact lecternlaw17_wakes.mono _)
   | (with_reducible exact lecternref0_EqState.mono _ _ _ _ _ _ _)
   | (with_reducible exact LeO.refl _)
   | (with_reducible exact LeO.none _)
   | (with_reducible refine LeO.ite ?_ ?_)
   | (with_reducible refine LeO.bind ?_ (fun _ => ?_))
   | exact ih0 _ _ _ _
   | exact ih1 _ _ _ _ _
   | exact image_Bytes.mono _ _ _ _
   | exact image_Parse.mono _ _
   | exact lecternlaw17_wakes.mono _
   | exact lecternref0_EqState.mono _ _ _ _ _ _ _
   | exact LeO.none _
   | refine LeO.ite ?_ ?_
   | refine LeO.bind ?_ (fun _ => ?_)
theorem lecternlaw17_ImageGreat.mono : ∀ a0 k, LeO (lecternlaw17_ImageGreat.f k a0) (lecternlaw17_ImageGreat.f (k + 1) a0) := by
 intro a0 k
 obtain ⟨ih0, ih1⟩ := lecternlaw17_ImageGreat.mono_l k
 unfold lecternlaw17_ImageGreat.f
 repeat' first
   | (with_reducible exact ih0 _ _ _ _)
   | (with_reducible exact ih1 _ _ _ _ _)
   | (with_reducible exact image_Bytes.mono _ _ _ _)
   | (with_reducible exact image_Parse.mono _ _)
   | (with_reducible exact lecternlaw17_wakes.mono _)
   | (with_reducible exact lecternref0_EqState.mono _ _ _ _ _ _ _)
   | (with_reducible exact LeO.refl _)
   | (with_reducible exact LeO.none _)
   | (with_reducible refine LeO.ite ?_ ?_)
   | (with_reducible refine LeO.bind ?_ (fun _ => ?_))
   | exact ih0 _ _ _ _
   | exact ih1 _ _ _ _ _
   | exact image_Bytes.mono _ _ _ _
   | exact image_Parse.mono _ _
   | exact lecternlaw17_wakes.mono _
   | exact lecternref0_EqState.mono _ _ _ _ _ _ _
   | exact LeO.none _
   | refine LeO.ite ?_ ?_
   | refine LeO.bind ?_ (fun _ => ?_)
def lecternlaw17_ImageGreat.T5 : Bool × List (List Nat × List Nat) := (true, [([], []), ([0], [0]), ([], []), ([2], [2]), ([3], [3]), ([4], [4]), ([], []), ([6], [6]), ([7], [7]), ([8], [8]), ([5, 9], [5, 9]), ([10], [10]), ([], []), ([12], [12]), ([11, 13], [11, 13]), ([], []), ([15], [15]), ([14, 16], [14, 16]), ([17], [17]), ([1, 18], [1, 18]), ([0, 1, 2, 3, 4, 5, 6, 7, 8, 9, 10, 11, 12, 13, 14, 15, 16, 17, 18, 19], []), ([20, 19, 19, 0, 1, 2, 3, 4, 5, 6, 7, 8, 9, 10, 11, 12, 13, 14, 15, 16, 17, 18, 19], [19, 20])])
def lecternlaw17_ImageGreat.B5 : List Nat := [0, 1, 0, 4, 12, 28, 0, 64, 192, 448, 1020, 2044, 0, 4096, 16380, 0, 32768, 131068, 262140, 524287, 1048575, 2097151]
theorem lecternlaw17_ImageGreat.tab5 : rtab .any (opsOf Try.f4 5) = lecternlaw17_ImageGreat.T5 := by kernel_rfl
theorem lecternlaw17_ImageGreat.bits5 : waitsOk lecternlaw17_ImageGreat.T5.2 lecternlaw17_ImageGreat.B5 = true := by kernel_rfl
end Go.Proofs.Yticlghbdapbdnaa.I
