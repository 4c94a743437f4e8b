/- Sessions: rows of one's own (MShC, HLay, MHIter, MHDocs). -/
import Derived.Test.YtpeldaogdeefeaaGreatMHvA
import Derived.Test.YtpeldaogdeefeaaGreatMx36
import Derived.Test.YtpeldaogdeefeaaGreatMx53
import Derived.Shelf.SlIter.Nil
import Derived.Shelf.SortM.Plain
import Derived.Shelf.SortM.SortNone
import Derived.Ground.GgzProg
import Derived.Ground.SlgmProg
import Derived.Test.YtpeldaogdeefeaaGreatProg
import Derived.Test.YtpeldaogdeefeaaGreatMG4
/-! MShC -/
namespace Go.Proofs.YtpeldaogdeefeaaGreat.M
open Go.Proofs.YtpeldaogdeefeaaGreat.H Go.RowKit Go.Maps Go.Sort Go.Proofs.YtpeldaogdeefeaaGreatW.PrintWords Go.Proofs.YtpeldaogdeefeaaGreatW.PrintLast Go.Proofs.YtpeldaogdeefeaaGreatW.PrintMore Go.Proofs.YtpeldaogdeefeaaGreat.Base
set_option linter.unusedVariables false
set_option linter.unusedSimpArgs false
theorem reply_hits (a b : Int) (A1 : Option Addr) (c1 : Nat) (A2 : Option Addr) (c2 : Nat) (W : World) : Calls Tryz.prog 46 #[.agg #[.int .i64 a, .int .i64 b, .slice A1 0 c1], .agg #[.int .i64 a, .int .i64 b, .slice A2 0 c2]] W fun e w' => e = .returned (.bool true) ∧ Below W.heap.size W w' := by
  obtain ⟨k, hk⟩ := eqReply a b
  have hc : ∀ A : Option Addr, Kd.C k53 W A 0 [] := fun A => ⟨rfl, by omega, fun h => absurd h (Nat.lt_irrefl 0)⟩
  exact lecternref0_EqReply.calls k a b A1 c1 [] a b A2 c2 [] true W (hc A1) (Nat.zero_le _) (hc A2) (Nat.zero_le _) hk
theorem state_may (ix : Int) (l : List S36) (ss : List S140) (hl : l.length ≤ 1000000000000000) : ∃ sb, Ev (fun k => lecternref14_State.f k ix l ss) sb ∧ (sb = true → OnlyOk ix l ss ∧ mayP ss) := by
  by_cases hn : numB ix 0 = true
  · obtain ⟨r, h1, h2⟩ := docs_is l hl
    by_cases hr : r = 0
    · subst hr
      by_cases hm : mayP ss
      · refine ⟨true, Ev.of_eq (g := fun k => (lecternref8_Docs.f k l).bind fun t204 => (if t204 = 0 then ((lecternref14_May.f k ss).bind fun t205 => (some t205)) else (some false))) (Ev.bind h1 (Ev.of_eq (g := fun k => (lecternref14_May.f k ss).bind fun t205 => some t205) (Ev.bind (g := fun _ t => some t) (refMay_yes hm) (Ev.pure _)) (fun k => if_pos rfl))) (fun k => by unfold lecternref14_State.f; rw [Num_f, hn]; rfl), fun _ => ⟨onlyOk hn (h2 rfl) hm, hm⟩⟩
      · refine ⟨false, Ev.of_eq (g := fun k => (lecternref8_Docs.f k l).bind fun t204 => (if t204 = 0 then ((lecternref14_May.f k ss).bind fun t205 => (some t205)) else (some false))) (Ev.bind h1 (Ev.of_eq (g := fun k => (lecternref14_May.f k ss).bind fun t205 => some t205) (Ev.bind (g := fun _ t => some t) (refMay_no hm) (Ev.pure _)) (fun k => if_pos rfl))) (fun k => by unfold lecternref14_State.f; rw [Num_f, hn]; rfl), fun h => by cases h⟩
    · refine ⟨false, Ev.of_eq (g := fun k => (lecternref8_Docs.f k l).bind fun t204 => (if t204 = 0 then ((lecternref14_May.f k ss).bind fun t205 => (some t205)) else (some false))) (Ev.bind h1 (Ev.of_eq (g := fun _ => some false) (Ev.pure _) (fun k => if_neg hr))) (fun k => by unfold lecternref14_State.f; rw [Num_f, hn]; rfl), fun h => by cases h⟩
  · have hn' : numB ix 0 = false := by simpa using hn
    exact ⟨false, Ev.of_eq (g := fun _ => some false) (Ev.pure _) (fun k => by unfold lecternref14_State.f; rw [Num_f, hn']; rfl), fun h => by cases h⟩
end Go.Proofs.YtpeldaogdeefeaaGreat.M
/-! HLay -/
namespace Go.Proofs
open Go.Shelf
def Tryz.keys68_ren : Go.Shelf.Ren := ⟨fun | 7 => 68 | 10 => 105 | n => n, fun | 23 => 96 | 26 => 9 | 3 => 9 | 28 => 110 | 0 => 0 | 27 => 109 | 33 => 106 | 4 => 4 | n => n, fun | n => n⟩
theorem Tryz.keys68 : Go.Proofs.SlLaysZ.n7 Tryz.prog Tryz.keys68_ren := {
  mixed := by kernel_rfl
  f7 := ⟨Tryz.f68.name, by decide, Tryz.func68.trans (congrArg some (by kernel_rfl))⟩
  f10 := ⟨Tryz.f105.name, by decide, Tryz.func105.trans (congrArg some (by kernel_rfl))⟩
  t0 := Tryz.underlying0
  a0 := Tryz.isAgg0
  z0 := Tryz.sizeOf0
  v0 := Tryz.zeroValue0
  t4 := Tryz.underlying4
  a4 := Tryz.isAgg4
  z4 := Tryz.sizeOf4
  v4 := Tryz.zeroValue4
  t23 := Tryz.underlying96
  a23 := Tryz.isAgg96
  z23 := Tryz.sizeOf96
  v23 := Tryz.zeroValue96
  t26 := Tryz.underlying9
  a26 := Tryz.isAgg9
  z26 := Tryz.sizeOf9
  v26 := Tryz.zeroValue9
  t27 := Tryz.underlying109
  a27 := Tryz.isAgg109
  z27 := Tryz.sizeOf109
  v27 := Tryz.zeroValue109
  t28 := Tryz.underlying110
  a28 := Tryz.isAgg110
  z28 := Tryz.sizeOf110
  v28 := Tryz.zeroValue110
  t33 := Tryz.underlying106
  a33 := Tryz.isAgg106
  z33 := Tryz.sizeOf106
  v33 := Tryz.zeroValue106 }
def Tryz.sorted67_ren : Go.Shelf.Ren := ⟨fun | 6 => 67 | 8 => 103 | 9 => 104 | 11 => 141 | 13 => 143 | 12 => 142 | 23 => 177 | 24 => 178 | 14 => 168 | 15 => 169 | 16 => 170 | 17 => 171 | 18 => 172 | 19 => 173 | 20 => 174 | 21 => 175 | 22 => 176 | 25 => 217 | 26 => 218 | 27 => 219 | 28 => 220 | 29 => 221 | 30 => 222 | 31 => 249 | n => n, fun | 26 => 9 | 28 => 110 | 24 => 107 | 0 => 0 | 3 => 3 | 37 => 129 | 48 => 227 | 50 => 229 | 4 => 4 | 40 => 220 | 39 => 219 | 45 => 122 | 5 => 5 | 9 => 9 | 51 => 271 | 55 => 275 | 57 => 305 | 58 => 279 | 33 => 106 | n => n, fun | n => n⟩
theorem Tryz.sorted67 : Go.Proofs.SlLaysZ.n6 Tryz.prog Tryz.sorted67_ren := {
  mixed := by kernel_rfl
  f6 := ⟨Tryz.f67.name, by decide, Tryz.func67.trans (congrArg some (by kernel_rfl))⟩
  f8 := ⟨Tryz.f103.name, by decide, Tryz.func103.trans (congrArg some (by kernel_rfl))⟩
  f11 := ⟨Tryz.f141.name, by decide, Tryz.func141.trans (congrArg some (by kernel_rfl))⟩
  t0 := Tryz.underlying0
  a0 := Tryz.isAgg0
  z0 := Tryz.sizeOf0
  v0 := Tryz.zeroValue0
  t24 := Tryz.underlying107
  a24 := Tryz.isAgg107
  z24 := Tryz.sizeOf107
  v24 := Tryz.zeroValue107
  t26 := Tryz.underlying9
  a26 := Tryz.isAgg9
  z26 := Tryz.sizeOf9
  v26 := Tryz.zeroValue9
  t28 := Tryz.underlying110
  a28 := Tryz.isAgg110
  z28 := Tryz.sizeOf110
  v28 := Tryz.zeroValue110
  i26 := by kernel_rfl }
def Tryz.sort104_ren : Go.Shelf.Ren := ⟨fun | 6 => 104 | 8 => 143 | 9 => 142 | 19 => 177 | 20 => 178 | 21 => 168 | 22 => 169 | 23 => 170 | 24 => 171 | 25 => 172 | 26 => 173 | 27 => 174 | 28 => 175 | 29 => 176 | 36 => 217 | 31 => 218 | 32 => 219 | 37 => 220 | 38 => 221 | 39 => 222 | 41 => 249 | n => n, fun | 27 => 107 | 29 => 9 | 3 => 3 | 32 => 129 | 26 => 107 | 0 => 0 | 44 => 227 | 46 => 229 | 4 => 4 | 36 => 220 | 35 => 219 | 41 => 122 | 5 => 5 | 9 => 9 | 53 => 271 | 57 => 275 | 63 => 305 | 64 => 279 | n => n, fun | n => n⟩
theorem Tryz.sort104 : Go.Proofs.SlLaysM.n6 Tryz.prog Tryz.sort104_ren := {
  mixed := by kernel_rfl
  f6 := ⟨Tryz.f104.name, by decide, Tryz.func104.trans (congrArg some (by kernel_rfl))⟩
  f8 := Tryz.func143.trans (congrArg some (by kernel_rfl))
  f9 := ⟨Tryz.f142.name, by decide, Tryz.func142.trans (congrArg some (by kernel_rfl))⟩
  f19 := Tryz.func177.trans (congrArg some (by kernel_rfl))
  f20 := Tryz.func178.trans (congrArg some (by kernel_rfl))
  f21 := ⟨Tryz.f168.name, by decide, Tryz.func168.trans (congrArg some (by kernel_rfl))⟩
  f22 := ⟨Tryz.f169.name, by decide, Tryz.func169.trans (congrArg some (by kernel_rfl))⟩
  f23 := ⟨Tryz.f170.name, by decide, Tryz.func170.trans (congrArg some (by kernel_rfl))⟩
  f24 := ⟨Tryz.f171.name, by decide, Tryz.func171.trans (congrArg some (by kernel_rfl))⟩
  f25 := ⟨Tryz.f172.name, by decide, Tryz.func172.trans (congrArg some (by kernel_rfl))⟩
  f26 := ⟨Tryz.f173.name, by decide, Tryz.func173.trans (congrArg some (by kernel_rfl))⟩
  f27 := ⟨Tryz.f174.name, by decide, Tryz.func174.trans (congrArg some (by kernel_rfl))⟩
  f28 := ⟨Tryz.f175.name, by decide, Tryz.func175.trans (congrArg some (by kernel_rfl))⟩
  f29 := ⟨Tryz.f176.name, by decide, Tryz.func176.trans (congrArg some (by kernel_rfl))⟩
  f31 := Tryz.func218.trans (congrArg some (by kernel_rfl))
  f32 := Tryz.func219.trans (congrArg some (by kernel_rfl))
  f36 := ⟨Tryz.f217.name, by decide, Tryz.func217.trans (congrArg some (by kernel_rfl))⟩
  f37 := ⟨Tryz.f220.name, by decide, Tryz.func220.trans (congrArg some (by kernel_rfl))⟩
  f38 := ⟨Tryz.f221.name, by decide, Tryz.func221.trans (congrArg some (by kernel_rfl))⟩
  f39 := ⟨Tryz.f222.name, by decide, Tryz.func222.trans (congrArg some (by kernel_rfl))⟩
  f41 := ⟨Tryz.f249.name, by decide, Tryz.func249.trans (congrArg some (by kernel_rfl))⟩
  t0 := Tryz.underlying0
  a0 := Tryz.isAgg0
  z0 := Tryz.sizeOf0
  v0 := Tryz.zeroValue0
  t3 := Tryz.underlying3
  a3 := Tryz.isAgg3
  z3 := Tryz.sizeOf3
  v3 := Tryz.zeroValue3
  t4 := Tryz.underlying4
  a4 := Tryz.isAgg4
  z4 := Tryz.sizeOf4
  v4 := Tryz.zeroValue4
  t5 := Tryz.underlying5
  a5 := Tryz.isAgg5
  z5 := Tryz.sizeOf5
  v5 := Tryz.zeroValue5
  t9 := Tryz.underlying9
  a9 := Tryz.isAgg9
  z9 := Tryz.sizeOf9
  v9 := Tryz.zeroValue9
  t26 := Tryz.underlying107
  a26 := Tryz.isAgg107
  z26 := Tryz.sizeOf107
  v26 := Tryz.zeroValue107
  t27 := Tryz.underlying107
  a27 := Tryz.isAgg107
  z27 := Tryz.sizeOf107
  v27 := Tryz.zeroValue107
  t29 := Tryz.underlying9
  a29 := Tryz.isAgg9
  z29 := Tryz.sizeOf9
  v29 := Tryz.zeroValue9
  t32 := Tryz.underlying129
  a32 := Tryz.isAgg129
  z32 := Tryz.sizeOf129
  v32 := Tryz.zeroValue129
  t35 := Tryz.underlying219
  a35 := Tryz.isAgg219
  z35 := Tryz.sizeOf219
  v35 := Tryz.zeroValue219
  t36 := Tryz.underlying220
  a36 := Tryz.isAgg220
  z36 := Tryz.sizeOf220
  v36 := Tryz.zeroValue220
  t41 := Tryz.underlying122
  a41 := Tryz.isAgg122
  z41 := Tryz.sizeOf122
  v41 := Tryz.zeroValue122
  t44 := Tryz.underlying227
  a44 := Tryz.isAgg227
  z44 := Tryz.sizeOf227
  v44 := Tryz.zeroValue227
  t46 := Tryz.underlying229
  a46 := Tryz.isAgg229
  z46 := Tryz.sizeOf229
  v46 := Tryz.zeroValue229
  t53 := Tryz.underlying271
  a53 := Tryz.isAgg271
  z53 := Tryz.sizeOf271
  v53 := Tryz.zeroValue271
  t57 := Tryz.underlying275
  a57 := Tryz.isAgg275
  z57 := Tryz.sizeOf275
  v57 := Tryz.zeroValue275
  t63 := Tryz.underlying305
  a63 := Tryz.isAgg305
  z63 := Tryz.sizeOf305
  v63 := Tryz.zeroValue305
  t64 := Tryz.underlying279
  a64 := Tryz.isAgg279
  z64 := Tryz.sizeOf279
  v64 := Tryz.zeroValue279 }
end Go.Proofs
/-! MHIter -/
namespace Go.Proofs
open Go.Proofs.YtpeldaogdeefeaaGreat.H Go.RowKit Go.Maps Go.Sort Go.Shelf
set_option linter.unusedVariables false
theorem Tryz.sorts67 (m : Nat) : AnyZ.SortsIn Tryz.prog Tryz.sorted67_ren Fence.wide m :=
  ⟨fun blk off cap ss W hH hblk hsz => callsIn_wide.2 (AnyM.slices_Sort_string Tryz.sort104 blk off cap ss W hH hblk hsz),
   fun p cap W => callsIn_wide.2 (AnyM.slices_Sort_string_none Tryz.sort104 p cap W)⟩
theorem Tryz.maps_Keys_68 (mb : Option Nat) (W : World) : CallsIn Fence.wide 5 Tryz.prog 68 #[.map mb] W fun e w' => e = .returned (.func (.func 105) #[] #[.pointer (some ⟨W.heap.size, 0, none⟩)]) ∧ w' = W.alloc (.cells #[.map mb] 96) :=
  AnyZ.keys_in Tryz.keys68 Fence.wide 5 trivial rfl mb W

set_option maxHeartbeats 1000000 in
theorem Tryz.slices_Sorted_keys_67_68 {H : Type} (b nn : Nat) (D0 : DataW H) (R : Value → Option (DataW H × List MemPlace)) (w : World) (hown : w.ownsMap Tryz.prog 9 R b nn D0) (hmax : Maps.size D0 ≤ maxLen) (hbytes : Maps.size D0 * 16 ≤ 140737488355328) :
    CallsIn Fence.wide 5 Tryz.prog 67 #[.func (.func 105) #[] #[.pointer (some ⟨w.heap.size, 0, none⟩)]] (w.alloc (.cells #[.map (some b)] 96)) fun e w' => ∃ (v : Value) (ss : List (List UInt8)), e = .returned v ∧ ss.Perm (strKeys D0) ∧
      w'.ownsRow (w.alloc (.cells #[.map (some b)] 96)).heap.size 9 1 v ss.length ((ss.mergeSort (fun x y => decide (x ≤ y))).map encStr) ∧ (v = .slice none 0 0 ↔ ss = []) ∧ Below (w.alloc (.cells #[.map (some b)] 96)).heap.size (w.alloc (.cells #[.map (some b)] 96)) w' := by
  have hbl := hown.lt
  have hseq : SeqGives Fence.wide 2 Tryz.prog 105 #[.pointer (some ⟨w.heap.size, 0, none⟩)] encStr (fun ss => ss.Perm (strKeys D0)) (Maps.size D0) (w.alloc (.cells #[.map (some b)] 96)) :=
    AnyZ.keys_gives (ρ := Tryz.keys68_ren) { Tryz.keys68 with } Fence.wide _ trivial rfl (by omega) w.heap.size b nn D0 _ (by simp) (by simp) (by
      obtain ⟨es, clock, hb, Ft, hs, hD⟩ := hown
      exact ⟨es, clock, (Below.heap_alloc _ _ b hbl).trans hb, Ft, hs, hD⟩)
  exact AnyZ.sorted_in Tryz.sorted67 Fence.wide 5 trivial trivial trivial trivial rfl (by omega) (Tryz.sorts67 _) (enters_of Tryz.func104 (by kernel_rfl) rfl) 105 #[.pointer (some ⟨w.heap.size, 0, none⟩)] trivial (enters_of Tryz.func105 (by kernel_rfl) rfl) _ _ hmax hbytes _ hseq

end Go.Proofs
namespace Go.Proofs.YtpeldaogdeefeaaGreat.M
open Go.Proofs.YtpeldaogdeefeaaGreat.H Go.RowKit Go.Maps Go.Sort Go.Shelf Go.Proofs.YtpeldaogdeefeaaGreatW.PrintWords
theorem keys68 (b : Nat) (W : World) : Calls Tryz.prog 68 #[.map (some b)] W fun e w' => e = .returned (.func (.func 105) #[] #[.pointer (some ⟨W.heap.size, 0, none⟩)]) ∧ w' = W.alloc (.cells #[.map (some b)] 96) :=
  (callsIn_wide (n := 5)).1 (Tryz.maps_Keys_68 (some b) W)
theorem sorted68 {β : Type} {f : β → DataW Unit} {M : List (Bs × β)} (b n : Nat) (D : DataW Unit) (w : World) (hm : Texts w b n D) (hD : DIs f D M) (hs : M.length ≤ 1000000) :
    Calls Tryz.prog 67 #[.func (.func 105) #[] #[.pointer (some ⟨w.heap.size, 0, none⟩)]] (w.alloc (.cells #[.map (some b)] 96)) fun e w' => ∃ v, e = .returned v ∧
      w'.ownsRow (w.alloc (.cells #[.map (some b)] 96)).heap.size 9 1 v M.length ((names M).map encStr) ∧ Below w.heap.size w w' := by
  have hsz := size_names Tryz.underlying9 hm hD
  refine ((callsIn_wide (n := 5)).1 (Tryz.slices_Sorted_keys_67_68 b n D _ w hm (by unfold maxLen; omega) (by omega))).mono ?_
  rintro e w' ⟨v, ss, rfl, hp, hr, hv, hb⟩
  have e1 := keys_names Tryz.underlying9 hm hD hp
  have e2 : ss.length = M.length := by
    have := congrArg List.length e1
    rw [List.length_mergeSort] at this
    rw [this]
    exact List.length_map _
  rw [e1, e2] at hr
  exact ⟨v, rfl, hr, below_step (below_alloc (Below.refl _ _) _) hb⟩
end Go.Proofs.YtpeldaogdeefeaaGreat.M
/-! MHDocs -/
namespace Go.Proofs.YtpeldaogdeefeaaGreat.M
open Go.Proofs.YtpeldaogdeefeaaGreat.H Go.RowKit Go.Maps Go.Sort Go.Proofs.YtpeldaogdeefeaaGreatW.PrintWords Go.Proofs.YtpeldaogdeefeaaGreatW.PrintLast Go.Proofs.YtpeldaogdeefeaaGreatW.PrintMore Go.Proofs.YtpeldaogdeefeaaGreat.Base
set_option linter.unusedVariables false
set_option linter.unusedSimpArgs false
theorem names_row {w : World} {base : Nat} {v : Value} {ss : List (List UInt8)} (h : w.ownsRow base 9 1 v ss.length (ss.map encStr)) : ∃ A c, v = .slice A ss.length c ∧ ∀ i nm, ss[i]? = some nm → ∃ ad, A = some ad ∧ w.cell? (ad.add i) = some (.string ⟨nm.toArray⟩) := by
  obtain ⟨hn, ho⟩ := h
  rcases ho with ⟨rfl, h0⟩ | ⟨g, cap, cur, rfl, hb, hh, hnc, hcm, hcs, ht⟩
  · obtain rfl : ss = [] := List.eq_nil_of_length_eq_zero h0
    exact ⟨none, 0, rfl, fun i nm hi => by cases hi⟩
  · refine ⟨some ⟨g, 0, none⟩, cap, rfl, fun i nm hi => ⟨_, rfl, ?_⟩⟩
    have hil : i < ss.length := (List.getElem?_eq_some_iff.1 hi).1
    rw [add_plain, cell_of_row w g _ cur 9 (0, 0) hh, ← Array.getElem?_toList]
    have h1 : (cur.toList.take (ss.length * 1))[i]? = some (.string ⟨nm.toArray⟩) := by rw [ht, List.getElem?_map, hi]; rfl
    rw [List.getElem?_take_of_lt (by omega)] at h1
    exact h1
theorem docs_take (M : List (Bs × Bs)) (i : Nat) (h : i < M.length) : docs (M.take (i + 1)) = docs (M.take i) ++ [doc M[i]] := by
  unfold docs
  rw [List.take_succ_eq_append_getElem h, List.map_append]
  rfl
theorem docs_len (M : List (Bs × Bs)) : (docs M).length = M.length := List.length_map _
set_option maxRecDepth 100000 in
set_option maxHeartbeats 3200000 in
theorem docs_calls {w : World} {B U g cnt : Nat} {M : List (Bs × Bs)} (h : Shf w B U g cnt M) :
    Calls Tryz.prog 26 #[.pointer (some ⟨g, 0, none⟩)] w fun e w' => ∃ v, e = .returned v ∧ Kd.R k36 36 w' w.heap.size (fun _ => True) v (docs M) ∧ Below w.heap.size w w' := by
  have HS := Aside0.mk h
  have hu102 := Tryz.underlying102
  have hu98 := Tryz.underlying98
  have hu36 := Tryz.underlying36
  obtain ⟨bt, bf, nt, nf, Dt, Df, h1, h2, h3, h4, h5, h6, h7, h8, h9, h10, h11, h12⟩ := h.ex
  have HG := Aside0.mk h1
  have HT := Aside0.mk h7
  have HF := Aside0.mk h8
  have HDT := Aside0.mk h9
  have HDF := Aside0.mk h10
  have HFW : Aside0 (M.length ≤ 64) := ⟨h.few⟩
  have y0 : w.cell? ⟨g, 0, none⟩ = some (.map (some bt)) := (blk_cell h1 0).trans rfl
  clear h h1 h2 h3 h4 h5 h6 h7 h8 h9 h10 h11 h12
  go_enter Tryz.func26, Tryz.ntmps26
  go_wp2_with fail
  refine (keys68 bt w).mono ?_
  rintro e w1 ⟨rfl, rfl⟩
  go_wp2_with fail
  refine (sorted68 bt _ _ w HT.out HDT.out (by have := HFW.out; first | omega | (simp [marks]; omega))).mono ?_
  rintro e w2 ⟨v2, rfl, hrow, hb2⟩
  have hnl : (names M).length = M.length := by simp [names, marks]
  rw [show M.length = (names M).length by simp [names]] at hrow
  obtain ⟨An, cn, rfl, hnm⟩ := names_row hrow
  rw [hnl]
  have HNM := Aside0.mk hnm
  have HB2 := Aside0.mk hb2
  clear hrow hnm hb2 hnl y0
  go_wp2_with fail
  go_loopg [2, 13] M.length (fun kq vd vi w' => ∃ i : Nat, Aside0 (i + kq = M.length) ∧ vi = .int .i64 i ∧ Aside0 (Kd.R k36 36 w' w2.heap.size (fun _ => True) vd (docs (M.take i))) ∧ Aside0 (Below w2.heap.size w2 w'))
  case atStart => exact ⟨0, ⟨by omega⟩, rfl, ⟨Kd.R_nil _ _ _ _ _⟩, ⟨Below.refl _ _⟩⟩
  case round =>
    obtain ⟨i, HIK, rfl, HR, HBW⟩ := hrel
    by_cases hlt : i < M.length
    · have hd1 : decide ((i : Int) < (M.length : Int)) = true := decide_eq_true (by omega)
      have hd2 : decide (i < M.length) = true := decide_eq_true hlt
      have HLT := Aside0.mk hlt
      obtain ⟨ad, e, kc⟩ := HNM.out i M[i].1 (by
        rw [List.getElem?_eq_getElem (by simp [names, marks]; exact hlt)]
        simp [names, marks])
      subst e
      obtain ⟨p, hp⟩ : ∃ p, p = M[i] := ⟨_, rfl⟩
      rw [← hp] at kc
      have HP : Aside0 (∀ h : i < M.length, p = M[i]) := ⟨fun _ => hp⟩
      have HPM : Aside0 (p ∈ M) := ⟨hp ▸ List.getElem_mem hlt⟩
      have kc2 := (HBW.out.cell (World.block_lt_of_cell? w2 _ kc)).trans kc
      have hBw : Below w.heap.size w wr := below_step HB2.out HBW.out
      have y0 : wr.cell? ⟨g, 0, none⟩ = some (.map (some bt)) := (blk_cell (blk_below HG.out hBw) 0).trans rfl
      have hlk := look_str (tx := ⟨p.2.toArray⟩) (map_keep HT.out (hBw.block _ HT.out.lt)) ⟨p.1.toArray⟩ (by have := (HS.out.nm p HPM.out).2; have e := ba_size ⟨p.1.toArray⟩; unfold maxLen; simp at e ⊢; omega) (fun z => by simpa using HDT.out.at_ p HPM.out z)
      have q0 : ((i : Int) < (M.length : Int)) = True := eq_true (by omega)
      have p0 : ((0 : Int) ≤ (i : Int)) = True := eq_true (by omega)
      have hw1 : wrap64 ((i : Int) + 1) = ((i + 1 : Nat) : Int) := wrn i (by have := HFW.out; omega)
      clear kc hp hBw hlt
      go_wp2_with (first | ((with_reducible refine gate_builtin (b := .append) (xs := #[.tmp 17, .tmp 27]) rfl ?_); at_builtin; refine Kd.R_append k36 (w0 := w2) w2.heap.size rfl (.tmp 17) (.tmp 27) 22 36 (.agg #[(.string ⟨#[]⟩), (.string ⟨#[]⟩)]) 32 rfl Tryz.underlying22 info36 rfl (by decide) (by omega) _ (docs (M.take i)) (doc p) [.string ⟨p.1.toArray⟩, .string ⟨p.2.toArray⟩] (fun _ => True) (fun _ => False) rfl rfl (k36_mkM _ _ _ (doc p)) (fun _ hk => hk.elim) (fun _ _ => trivial) HR.out HBW.out HBW.out.size (by have := HFW.out; rw [docs_len, List.length_take]; omega) ?_; intro v9 w9 hr hb hg hat; have HR9 := Aside0.mk hr; have HB9 := Aside0.mk hb; clear hr hb hg hat))
      go_roundg (gk - 1)
      case measure => have := HIK.out; have := HLT.out; omega
      case rel => exact ⟨i + 1, ⟨by have := HIK.out; have := HLT.out; omega⟩, by rw [hw1], ⟨by rw [docs_take M i HLT.out, ← HP.out HLT.out]; exact HR9.out⟩, HB9⟩
    · have hd1 : decide ((i : Int) < (M.length : Int)) = false := decide_eq_false (by omega)
      have hd2 : decide (i < M.length) = false := decide_eq_false hlt
      have hi : i = M.length := by have := HIK.out; omega
      subst hi
      clear hlt
      go_wp2_with fail
      go_ret
      have hR := HR.out
      rw [List.take_length] at hR
      exact ⟨_, rfl, Kd.R_lower hR HB2.out.size, below_step HB2.out HBW.out⟩
end Go.Proofs.YtpeldaogdeefeaaGreat.M
