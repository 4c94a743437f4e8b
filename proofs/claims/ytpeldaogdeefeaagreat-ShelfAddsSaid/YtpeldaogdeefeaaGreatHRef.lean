/- Shelf: the reference's Add. -/
import Derived.Test.YtpeldaogdeefeaaGreatHAdd
namespace Go.Proofs.YtpeldaogdeefeaaGreat.H
open Go.RowKit Go.Maps Go.Sort Go.Proofs.YtpeldaogdeefeaaGreatW.PrintWords Go.Proofs.YtpeldaogdeefeaaGreatW.PrintLast Go.Proofs.YtpeldaogdeefeaaGreatW.PrintMore Go.Proofs.YtpeldaogdeefeaaGreat.Base
set_option linter.unusedVariables false
set_option linter.unusedSimpArgs false
def T12.T : Bool × List (List Nat × List Nat) := (true, [([], []), ([], []), ([0, 1], [0, 1]), ([2], [2]), ([], []), ([4], [4]), ([3, 5, 3], [3, 5]), ([6, 6, 0, 1, 2, 3, 4, 5, 6], [6])])
def T12.B : List Nat := [0, 0, 3, 7, 0, 16, 63, 127]
theorem T12.tab : rtab .any (opsOf Tryz.f23 12) = T12.T := by kernel_rfl
theorem T12.bits : waitsOk T12.T.2 T12.B = true := by kernel_rfl
theorem copy36 (k : Nat) (A : Option Addr) (c i : Nat) (lt : List S36) (h : lt.length = i) (W : World) (h1 : Kd.C k36 W A lt.length lt) (h2 : lt.length ≤ c) (h3 : lecternref0_CopyDocs.f k lt = some lt) : Calls Tryz.prog 36 #[.slice A i c] W fun e w' => ∃ v0_ : Value, e = .returned (v0_) ∧ Kd.R k36 36 w' W.heap.size (fun _ => True) v0_ lt ∧ Below W.heap.size W w' := by
  subst h
  exact lecternref0_CopyDocs.calls k A c lt lt W h1 h2 h3
def AddPost (w : World) (A : Option Addr) (c : Nat) (l : List S36) (M' : List (Bs × Bs)) (r : Int) (e : Ending) (w' : World) : Prop := ∃ v, e = .returned (.tuple #[v, .int .i64 r]) ∧ ((v = .slice A l.length c ∧ M' = pairs l) ∨ Kd.R k36 36 w' w.heap.size (fun _ => True) v (docs M')) ∧ Below w.heap.size w w'
set_option maxRecDepth 100000 in
set_option maxHeartbeats 6400000 in
theorem refAdd_calls (A : Option Addr) (c : Nat) (l : List S36) (id tx : ByteArray) (w : World) (hC : Kd.C k36 w A l.length l) (hc : l.length ≤ c) (hll : l.length ≤ 64 ∧ szL l ≤ 16384) (hid : id.size ≤ 140737488351232) (htx : tx.size ≤ 140737488351232) {M' : List (Bs × Bs)} {r : Int} (hadd : addV (pairs l) id.data.toList tx.data.toList = (M', r)) :
    Calls Tryz.prog 23 #[.slice A l.length c, .agg #[.string id, .string tx]] w (AddPost w A c l M' r) := by
  have HC := Aside0.mk hC
  have HCC := Aside0.mk hc
  have HLL := Aside0.mk hll
  have HADD := Aside0.mk hadd
  have hu36 := Tryz.underlying36
  have HTS : Aside0 (id.size ≤ 140737488351232 ∧ tx.size ≤ 140737488351232) := ⟨⟨hid, htx⟩⟩
  have HID : Aside0 (id.data.toList.length = id.size ∧ tx.data.toList.length = tx.size) := ⟨⟨ba_size id, ba_size tx⟩⟩
  clear hC hc hll hadd hid htx
  go_enter Tryz.func23, Tryz.ntmps23
  go_upto_region 1 with (fail)
  have hq := heap_alloc_new w (.cells #[.string id, .string tx] 36)
  have hB2 : Below w.heap.size w (w.alloc (.cells #[.string id, .string tx] 36)) := below_alloc (Below.refl _ _) _
  obtain ⟨q, hqe⟩ : ∃ b, b = w.heap.size := ⟨_, rfl⟩
  obtain ⟨w2, hw2⟩ : ∃ z, z = w.alloc (.cells #[.string id, .string tx] 36) := ⟨_, rfl⟩
  rw [← hqe, ← hw2] at hq ⊢
  rw [← hw2] at hB2
  have HQ := Aside0.mk hq
  have HB2 := Aside0.mk hB2
  have HQE := Aside0.mk hqe
  clear hq hB2 hqe hw2
  have x0 : w2.cell? ⟨q, 0, none⟩ = some (.string id) := (blk_cell HQ.out 0).trans rfl
  have x1 : w2.cell? ⟨q, 1, none⟩ = some (.string tx) := (blk_cell HQ.out 1).trans rfl
  by_cases hn : 1 ≤ id.size ∧ id.size ≤ 64
  · have hn1 : decide (id.data.toList = []) = false := decide_eq_false (fun e => by have h := HID.out.1; rw [e] at h; simp at h; omega)
    have hn2 : id.toList = [] ↔ False := ⟨fun e => by have := (ne_nil id).1 e; omega, False.elim⟩
    have hn3 : decide ((64 : Int) < (id.size : Int)) = false := decide_eq_false (by omega)
    have hn4 : decide (64 < id.size) = false := decide_eq_false (by omega)
    have hn5 : (id.toList == []) = false := by rw [beq_eq_false_iff_ne]; exact fun e => by have := (ne_nil id).1 e; omega
    have HN := Aside0.mk hn
    clear hn
    by_cases hb : 2048 < tx.size
    · have b1 : decide ((2048 : Int) < (tx.size : Int)) = true := decide_eq_true (by omega)
      have b2 : decide (2048 < tx.size) = true := decide_eq_true hb
      have hv : addV (pairs l) id.data.toList tx.data.toList = (pairs l, 2) := by unfold addV; rw [HID.out.1, HID.out.2, if_pos HN.out, if_pos hb]
      obtain ⟨rfl, rfl⟩ := Prod.mk.inj (hv.symm.trans HADD.out)
      clear hv hb
      go_wp2_with fail
      go_ret2
      exact ⟨_, rfl, .inl ⟨rfl, rfl⟩, HB2.out⟩
    · have b1 : decide ((2048 : Int) < (tx.size : Int)) = false := decide_eq_false (by omega)
      have b2 : decide (2048 < tx.size) = false := decide_eq_false hb
      have HTB := Aside0.mk hb
      clear hb
      obtain ⟨rf, hEf, hrf⟩ := find_is l id (by have := HLL.out; omega)
      obtain ⟨kf, hkf⟩ := hEf
      have HKF := Aside0.mk (hkf kf (Nat.le_refl _))
      have HRF := Aside0.mk hrf
      clear hkf hrf
      go_wp2_with fail
      refine (lecternref8_Find.calls kf A c l id rf _ (Kd.C_below HC.out HB2.out) HCC.out HKF.out).mono ?_
      rintro e w' ⟨rfl, ⟨n3, rfl⟩⟩
      have HB3 : Aside0 (Below w.heap.size w (w2.drewN n3)) := ⟨pw_below_drewN HB2.out n3⟩
      have HQ3 : Aside0 ((w2.drewN n3).heap[q]? = some (.cells #[.string id, .string tx] 36 (0, 0))) := ⟨HQ.out⟩
      by_cases hin : id.data.toList ∈ names (pairs l)
      · have hr0 : decide ((0 : Int) ≤ rf) = true := decide_eq_true (by
          rcases HRF.out with ⟨_, h⟩ | ⟨j, _, e, _⟩
          · exact absurd hin h
          · omega)
        have hr1 : (rf ≥ 0) = True := eq_true (of_decide_eq_true hr0)
        have hv : addV (pairs l) id.data.toList tx.data.toList = (pairs l, 4) := by unfold addV; rw [HID.out.1, HID.out.2, if_pos HN.out, if_neg HTB.out, if_pos hin]
        obtain ⟨rfl, rfl⟩ := Prod.mk.inj (hv.symm.trans HADD.out)
        clear hv hin
        go_wp2_with fail
        go_ret2
        exact ⟨_, rfl, .inl ⟨rfl, rfl⟩, HB3.out⟩
      · have hr0 : decide ((0 : Int) ≤ rf) = false := decide_eq_false (by
          rcases HRF.out with ⟨e, h⟩ | ⟨j, _, e, _, h⟩
          · omega
          · exact absurd h hin)
        have hr1 : (rf ≥ 0) = False := eq_false (of_decide_eq_false hr0)
        have HIN := Aside0.mk hin
        clear hin
        obtain ⟨kz, hkz⟩ := size_is l (by have := HLL.out; omega) (by have := HLL.out; omega)
        have HKZ := Aside0.mk (hkz kz (Nat.le_refl _))
        clear hkz
        have hz1 : IntKind.i64.wrap (16384 - (tx.size : Int)) = 16384 - (tx.size : Int) := by rw [i64_w]; exact wrb _ (by have := HTB.out; omega) (by omega)
        by_cases hf : 64 ≤ l.length
        · have f1 : decide ((64 : Int) ≤ (l.length : Int)) = true := decide_eq_true (by omega)
          have f2 : decide (64 ≤ l.length) = true := decide_eq_true hf
          have hv : addV (pairs l) id.data.toList tx.data.toList = (pairs l, 6) := by unfold addV; rw [HID.out.1, HID.out.2, if_pos HN.out, if_neg HTB.out, if_neg HIN.out, if_pos (.inl (by simpa [pairs] using hf))]
          obtain ⟨rfl, rfl⟩ := Prod.mk.inj (hv.symm.trans HADD.out)
          clear hv hf
          go_wp2_with fail
          go_quiet (fail)
          go_wp2_with fail
          go_ret2
          exact ⟨_, rfl, .inl ⟨rfl, rfl⟩, pw_below_drewN HB3.out _⟩
        · have f1 : decide ((64 : Int) ≤ (l.length : Int)) = false := decide_eq_false (by omega)
          have f2 : decide (64 ≤ l.length) = false := decide_eq_false hf
          have HF := Aside0.mk hf
          clear hf
          by_cases hm : 16384 < szL l + tx.size
          · have m1 : decide (16384 - (tx.size : Int) < (szL l : Int)) = true := decide_eq_true (by omega)
            have hv : addV (pairs l) id.data.toList tx.data.toList = (pairs l, 6) := by unfold addV; rw [HID.out.1, HID.out.2, tot_sz, if_pos HN.out, if_neg HTB.out, if_neg HIN.out, if_pos (.inr hm)]
            obtain ⟨rfl, rfl⟩ := Prod.mk.inj (hv.symm.trans HADD.out)
            clear hv hm
            go_wp2_with fail
            go_quiet (first | (go_at_call 62; (with_reducible refine (lecternref8_Size.calls kz _ _ l (szL l : Int) _ ?side1 ?side2 HKZ.out).mono ?_); (case side1 => repeat (first | exact (Kd.C_below HC.out HB2.out) | (with_reducible refine Kd.C_alloc ?_ _) | (with_reducible refine Kd.C_drewN ?_ _) | (with_reducible refine Kd.C_drew ?_))); (case side2 => exact HCC.out); rintro e w' ⟨rfl, ⟨nd, rfl⟩⟩; (try first | exact ⟨rfl, _, World.drewN_drewN _ _ _⟩ | exact ⟨rfl, _, Eq.trans (World.drewN_drewN _ _ _) (congrArg (World.drewN _) (Nat.add_assoc _ _ _))⟩)))
            go_wp2_with fail
            go_ret2
            exact ⟨_, rfl, .inl ⟨rfl, rfl⟩, pw_below_drewN HB3.out _⟩
          · have m1 : decide (16384 - (tx.size : Int) < (szL l : Int)) = false := decide_eq_false (by omega)
            have hv : addV (pairs l) id.data.toList tx.data.toList = (ins id.data.toList tx.data.toList (pairs l), 0) := by
              have hno : ¬ (64 ≤ (pairs l).length ∨ 16384 < szL l + tx.size) := by
                have h1 := HF.out
                rintro (h | h)
                · exact h1 (by simpa [pairs] using h)
                · exact hm h
              unfold addV
              rw [HID.out.1, HID.out.2, tot_sz, if_pos HN.out, if_neg HTB.out, if_neg HIN.out, if_neg hno]
            obtain ⟨rfl, rfl⟩ := Prod.mk.inj (hv.symm.trans HADD.out)
            clear hv hm
            go_wp2_with fail
            go_quiet (first | (go_at_call 62; (with_reducible refine (lecternref8_Size.calls kz _ _ l (szL l : Int) _ ?side1 ?side2 HKZ.out).mono ?_); (case side1 => repeat (first | exact (Kd.C_below HC.out HB2.out) | (with_reducible refine Kd.C_alloc ?_ _) | (with_reducible refine Kd.C_drewN ?_ _) | (with_reducible refine Kd.C_drew ?_))); (case side2 => exact HCC.out); rintro e w' ⟨rfl, ⟨nd, rfl⟩⟩; (try first | exact ⟨rfl, _, World.drewN_drewN _ _ _⟩ | exact ⟨rfl, _, Eq.trans (World.drewN_drewN _ _ _) (congrArg (World.drewN _) (Nat.add_assoc _ _ _))⟩)))
            obtain ⟨w4, hw4⟩ : ∃ z, z = (w2.drewN n3).drewN nq := ⟨_, rfl⟩
            have HB4 : Aside0 (Below w.heap.size w w4) := ⟨by rw [hw4]; exact pw_below_drewN HB3.out _⟩
            have HB4' : Aside0 (Below w2.heap.size w2 w4) := ⟨by rw [hw4]; exact pw_below_drewN (pw_below_drewN (Below.refl _ _) _) _⟩
            rw [← hw4]
            clear hw4 x0 x1 b1 b2 f1 f2 m1 hz1 hr0 hr1 hn1 hn2 hn3 hn4 hn5 HB3 HQ3
            go_wp2_with fail
            go_loopg [6] l.length (fun kq v6 w' => ∃ i : Nat, Aside0 (i + kq = l.length) ∧ v6 = .int .i64 i ∧ Aside0 (∀ j (hj : j < (pairs l).length), j < i → (pairs l)[j].1 < id.data.toList) ∧ Aside0 (Below w.heap.size w w') ∧ Aside0 (Below w2.heap.size w2 w'))
            case atStart => exact ⟨0, ⟨by omega⟩, rfl, ⟨fun j _ h => absurd h (Nat.not_lt_zero _)⟩, HB4, HB4'⟩
            case round =>
              clear HB4 HB4'
              obtain ⟨i, HIK, rfl, HLO, HBW, HBW2⟩ := hrel
              by_cases hlt : i < l.length
              · have d1 : decide ((i : Int) < (l.length : Int)) = true := decide_eq_true (by omega)
                have d2 : decide (i < l.length) = true := decide_eq_true hlt
                obtain ⟨ad, eA, k0, k1⟩ := at_T36 HC.out (i : Int) (by omega) (by omega)
                rw [Int.toNat_natCast, rd36 l i hlt] at k0
                obtain ⟨ni, hni⟩ : ∃ z, z = l[i].f0 := ⟨_, rfl⟩
                rw [← hni] at k0
                have HNI : Aside0 (∀ h : i < l.length, ni = l[i].f0) := ⟨fun _ => hni⟩
                have HLT := Aside0.mk hlt
                have e0 := (HBW.out.cell (World.block_lt_of_cell? w _ k0)).trans k0
                have x0 : wr.cell? ⟨q, 0, none⟩ = some (.string id) := (blk_cell (blk_below HQ.out HBW2.out) 0).trans rfl
                have q0 : ((i : Int) < (l.length : Int)) = True := eq_true (by omega)
                have p0 : ((0 : Int) ≤ (i : Int)) = True := eq_true (by omega)
                have hw1 : wrap64 ((i : Int) + 1) = ((i + 1 : Nat) : Int) := wrn i (by have := HLL.out; omega)
                clear k0 k1 hni hlt
                by_cases hless : ni.data.toList < id.data.toList
                · have hls : Op.bytesLess ni.toList id.toList = true := by rw [less_is, decide_eq_true hless]
                  subst eA
                  have HLS := Aside0.mk hless
                  clear hless
                  go_upto_region 10 with (fail)
                  go_quiet (fail)
                  go_wp2_with fail
                  go_roundg (gk - 1)
                  case measure => have := HIK.out; have := HLT.out; omega
                  case rel => exact ⟨i + 1, ⟨by have := HIK.out; have := HLT.out; omega⟩, by rw [hw1], ⟨fun j hj hji => by
                    rcases Nat.lt_succ_iff_lt_or_eq.1 hji with h | h
                    · exact HLO.out j hj h
                    · subst h
                      have e := HNI.out HLT.out
                      have h2 := HLS.out
                      rw [e] at h2
                      simpa [pairs, pr] using h2⟩, ⟨pw_below_drewN HBW.out _⟩, ⟨pw_below_drewN HBW2.out _⟩⟩
                · have hls : Op.bytesLess ni.toList id.toList = false := by rw [less_is, decide_eq_false hless]
                  have HIL : Aside0 (i ≤ l.length) := ⟨by have := HLT.out; omega⟩
                  have HGE : Aside0 (∀ hi : i < (pairs l).length, ¬ (pairs l)[i].1 < id.data.toList) := ⟨fun hi h => hless (by rw [HNI.out HLT.out]; simpa [pairs, pr] using h)⟩
                  subst eA
                  clear hless
                  go_upto_region 10 with (fail)
                  go_quiet (fail)
                  obtain ⟨wq, hwq⟩ : ∃ z, z = wr.drewN nq := ⟨_, rfl⟩
                  have HBq : Aside0 (Below w.heap.size w wq) := ⟨by rw [hwq]; exact pw_below_drewN HBW.out _⟩
                  have HBq2 : Aside0 (Below w2.heap.size w2 wq) := ⟨by rw [hwq]; exact pw_below_drewN HBW2.out _⟩
                  rw [← hwq]
                  clear hwq HBW HBW2 e0 x0 hls d1 d2 hw1 q0 p0
                  have HBW := HBq
                  have HBW2 := HBq2
                  clear HBq HBq2
                  go_wp2_with fail
                  have hic : (i ≤ c) = True := eq_true (by have := HIL.out; have := HCC.out; omega)
                  have hy36 : (l.take i).length = i := by rw [List.length_take]; have := HIL.out; omega
                  have hr36 := Kd.C_take (m := i) HC.out HIL.out
                  have HY := Aside0.mk hy36
                  clear hy36
                  have HRT := Aside0.mk (Kd.C_below hr36 HBW.out)
                  have HCT : Aside0 ((l.take i).length ≤ c) := ⟨by have := HCC.out; have := HIL.out; have := HY.out; omega⟩
                  have q36 : ((i : Int) ≤ (l.length : Int)) = True := eq_true (by have := HIL.out; omega)
                  have p36 : ((0 : Int) ≤ (i : Int)) = True := eq_true (by omega)
                  clear hr36
                  
                  obtain ⟨kcp, hkcp⟩ := copy_is (l.take i) (by have := HLL.out; rw [List.length_take]; omega)
                  have HKC := Aside0.mk (hkcp kcp (Nat.le_refl _))
                  clear hkcp
                  refine start_ (n := 8) (S := fun w' => w'.cell? ⟨q, 0, none⟩ = some (.string id) ∧ w'.cell? ⟨q, 1, none⟩ = some (.string tx)) (ds := []) #[false, false, false, false, false, false, false, false] (by kernel_rfl) rfl rfl ⟨(blk_cell (blk_below HQ.out (below_drew HBW2.out)) 0).trans rfl, (blk_cell (blk_below HQ.out (below_drew HBW2.out)) 1).trans rfl⟩ (fun hHeld => ?_); refine with_tabW T12.tab T12.bits (fun HT_ HW_ => ?_)
                  have HBD : Aside0 (Below w.heap.size w wq.drew) := ⟨below_drew HBW.out⟩
                  have HQD : Aside0 (wq.drew.heap[q]? = some (.cells #[.string id, .string tx] 36 (0, 0))) := ⟨blk_below HQ.out (below_drew HBW2.out)⟩
                  have HRD : Aside0 (Kd.C k36 wq.drew (some ad) (l.take i).length (l.take i)) := ⟨Kd.C_drew HRT.out⟩
                  generalize wq.drew = w5 at HBD HQD HRD hHeld ⊢
                  refine pure_ (i := 0) (N := some 58) (v := ?_) (a' := ?_) #[true, false, false, false, false, false, false, false] rfl rfl (any_of HT_.out (by kernel_rfl)) (fun _ _ _ h => h) (Or.inl ⟨by rfl, ?_⟩) ?_ ?_
                  rotate_left
                  · intro w'
                    go_simp
                    with_reducible rfl
                  rotate_left
                  · simp only [Act.put, List.setIfInBounds_toArray, List.set_cons_zero, List.set_cons_succ, i64_w, i32_w]
                    rfl
                  refine pure_ (i := 1) (N := some 59) (v := ?_) (a' := ?_) #[true, true, false, false, false, false, false, false] rfl rfl (any_of HT_.out (by kernel_rfl)) (fun _ _ _ h => h) (Or.inl ⟨by rfl, ?_⟩) ?_ ?_
                  rotate_left
                  · intro w'
                    go_simp
                    with_reducible rfl
                  rotate_left
                  · simp only [Act.put, List.setIfInBounds_toArray, List.set_cons_zero, List.set_cons_succ, i64_w, i32_w]
                    rfl
                  refine pure_ (i := 2) (N := some 60) (v := ?_) (a' := ?_) #[true, true, true, false, false, false, false, false] rfl rfl (any_of HT_.out (by kernel_rfl)) (fun _ _ _ h => h) (Or.inl ⟨by rfl, ?_⟩) ?_ ?_
                  rotate_left
                  · intro w'
                    go_simp
                    with_reducible rfl
                  rotate_left
                  · simp only [Act.put, List.setIfInBounds_toArray, List.set_cons_zero, List.set_cons_succ, i64_w, i32_w]
                    rfl
                  refine take_ (i := 4) (N := some 62) (v := ?_) (a' := ?_) #[true, true, true, false, true, false, false, false] rfl rfl (take_ofW HT_.out HW_.out (by kernel_rfl)) (fun _ _ _ h => h) (Or.inl ⟨by rfl, ?_⟩) hHeld ?_ ?_
                  rotate_left
                  · rintro w' ⟨s0, s1⟩
                    go_simp
                    with_reducible rfl
                  rotate_left
                  · simp only [Act.put, List.setIfInBounds_toArray, List.set_cons_zero, List.set_cons_succ, i64_w, i32_w]
                    rfl
                  have HBZ : Aside0 (Below w5.heap.size w5 w5) := ⟨Below.refl _ _⟩
                  refine join_ (σ := Value × Value) 2 #[true, true, true, true, true, true, false, false] (fun s_ => [(61, s_.1), (63, s_.2)]) (fun s_ w' => (w'.cell? ⟨q, 0, none⟩ = some (.string id) ∧ w'.cell? ⟨q, 1, none⟩ = some (.string tx)) ∧ Kd.R k36 36 w' w5.heap.size (fun k_ => some k_ ≠ (s_.2 : Value).ownBlock) s_.1 (l.take i) ∧ Kd.R k36 36 w' w5.heap.size (fun k_ => some k_ ≠ (s_.1 : Value).ownBlock) s_.2 [(⟨id, tx⟩ : S36)] ∧ Below w5.heap.size w5 w') ?_ ?_
                  rotate_left
                  · intro hCont
                    refine two_ (i := 3) (j := 5) (Ni := some 61) (Nj := some 63) #[true, true, true, true, true, false, false, false] #[true, true, true, false, true, true, false, false] rfl rfl rfl rfl (two_of HT_.out (by kernel_rfl)) (by decide) (by decide) (fun K hK => ?_) (fun K hK => ?_)
                    · refine goes_ Tryz.func36 (by kernel_rfl) rfl #[.slice (some ad) i c] (by rfl) rfl rfl (by (try simp only [List.map_toArray, List.map_cons, List.map_nil]); first | done | rfl | (simp only [List.length_drop, List.length_take]; rfl)) ?_
                      with_reducible refine (copy36 kcp _ c i (l.take i) HY.out _ HRD.out HCT.out HKC.out).mono ?_
                      rintro e w37 ⟨v134, rfl, ho0, hb⟩
                      refine ⟨_, rfl, ?_⟩
                      have HO1 := Aside0.mk (Kd.R_lower ho0 HBZ.out.size)
                      have HQ1 := Aside0.mk (blk_below HQD.out hb)
                      have HB1 := Aside0.mk (below_step HBZ.out hb)
                      clear ho0 hb
                      refine hK.out _ _ ⟨(blk_cell HQ1.out 0).trans rfl, (blk_cell HQ1.out 1).trans rfl⟩ (fun hHeld => ?_)
                      clear hK K
                      refine norm_ (a' := ?_) ?_ ?_
                      rotate_left
                      · show Act.put _ (some 61) _ = _
                        simp only [Act.put, List.setIfInBounds_toArray, List.set_cons_zero, List.set_cons_succ, i64_w, i32_w]
                        rfl
                      refine one_ (i := 5) (N := some 63) #[true, true, true, true, true, true, false, false] rfl rfl (one_of HT_.out (by kernel_rfl)) (by decide) (fun K hK => ?_)
                      refine Kd.R_lit_step k36 _ 36 ?hg (N := 63) ?hd (xs := ([(⟨id, tx⟩ : S36)] : List (S36))) (inner := [.string id, .string tx]) (ok := fun _ => True) (okp := fun _ => True) ?hr ?hp (fun _ hk => hk) trivial (Below.refl _ _) (Nat.le_refl _) (by simp) ?_; (case hd => rfl); (case hg => rfl); (case hr => first | (go_simp; done) | (go_simp; rfl)); (case hp => exact (Reps.c2 (show Kd.M k36 _ _ _ (⟨id, tx⟩ : S36) [.string id, .string tx] from (k36_mkM _ _ _ (⟨id, tx⟩ : S36) )) (Reps.none _ _)))
                      intro v137 w38 ho39 hb hg_ hnew_
                      clear hg_ hnew_
                      have HO2 := Aside0.mk (Kd.R_lower (Kd.R_new' ho39 (Kd.R_lt HO1.out)) HB1.out.size)
                      have HO1b := Aside0.mk (Kd.R_elder' HO1.out (Kd.R_base ho39) hb)
                      have HQ2 := Aside0.mk (blk_below HQ1.out hb)
                      have HB2 := Aside0.mk (below_step HB1.out hb)
                      clear ho39 hb
                      refine hK.out _ _ ⟨(blk_cell HQ2.out 0).trans rfl, (blk_cell HQ2.out 1).trans rfl⟩ (fun hHeld => ?_)
                      clear hK K
                      refine norm_ (a' := ?_) ?_ ?_
                      rotate_left
                      · show Act.put _ (some 63) _ = _
                        simp only [Act.put, List.setIfInBounds_toArray, List.set_cons_zero, List.set_cons_succ, i64_w, i32_w]
                        rfl
                      exact norm_ (by first | (simp only [putAll, Act.put, List.setIfInBounds_toArray, List.set_cons_zero, List.set_cons_succ]; done) | (simp only [putAll, Act.put, List.setIfInBounds_toArray, List.set_cons_zero, List.set_cons_succ]; rfl)) (hCont (v134, v137) _ ⟨hHeld, Kd.R_mono HO1b.out (fun _ hk => hk.2), Kd.R_mono HO2.out (fun _ hk => hk.2), HB2.out⟩)
                    · refine Kd.R_lit_step k36 _ 36 ?hg (N := 63) ?hd (xs := ([(⟨id, tx⟩ : S36)] : List (S36))) (inner := [.string id, .string tx]) (ok := fun _ => True) (okp := fun _ => True) ?hr ?hp (fun _ hk => hk) trivial (Below.refl _ _) (Nat.le_refl _) (by simp) ?_; (case hd => rfl); (case hg => rfl); (case hr => first | (go_simp; done) | (go_simp; rfl)); (case hp => exact (Reps.c2 (show Kd.M k36 _ _ _ (⟨id, tx⟩ : S36) [.string id, .string tx] from (k36_mkM _ _ _ (⟨id, tx⟩ : S36) )) (Reps.none _ _)))
                      intro v137 w37 ho39 hb hg_ hnew_
                      clear hg_ hnew_
                      have HO2 := Aside0.mk (Kd.R_lower ho39 HBZ.out.size)
                      have HQ1 := Aside0.mk (blk_below HQD.out hb)
                      have HR1 := Aside0.mk (Kd.C_below HRD.out hb)
                      have HB1 := Aside0.mk (below_step HBZ.out hb)
                      clear ho39 hb
                      refine hK.out _ _ ⟨(blk_cell HQ1.out 0).trans rfl, (blk_cell HQ1.out 1).trans rfl⟩ (fun hHeld => ?_)
                      clear hK K
                      refine norm_ (a' := ?_) ?_ ?_
                      rotate_left
                      · show Act.put _ (some 63) _ = _
                        simp only [Act.put, List.setIfInBounds_toArray, List.set_cons_zero, List.set_cons_succ, i64_w, i32_w]
                        rfl
                      refine one_ (i := 3) (N := some 61) #[true, true, true, true, true, true, false, false] rfl rfl (one_of HT_.out (by kernel_rfl)) (by decide) (fun K hK => ?_)
                      refine goes_ Tryz.func36 (by kernel_rfl) rfl #[.slice (some ad) i c] (by rfl) rfl rfl (by (try simp only [List.map_toArray, List.map_cons, List.map_nil]); first | done | rfl | (simp only [List.length_drop, List.length_take]; rfl)) ?_
                      with_reducible refine (copy36 kcp _ c i (l.take i) HY.out _ HR1.out HCT.out HKC.out).mono ?_
                      rintro e w39 ⟨v134, rfl, ho0, hb⟩
                      refine ⟨_, rfl, ?_⟩
                      have HO1 := Aside0.mk (Kd.R_lower (Kd.R_new' ho0 (Kd.R_lt HO2.out)) HB1.out.size)
                      have HO2b := Aside0.mk (Kd.R_elder' HO2.out (Kd.R_base ho0) hb)
                      have HQ2 := Aside0.mk (blk_below HQ1.out hb)
                      have HB2 := Aside0.mk (below_step HB1.out hb)
                      clear ho0 hb
                      refine hK.out _ _ ⟨(blk_cell HQ2.out 0).trans rfl, (blk_cell HQ2.out 1).trans rfl⟩ (fun hHeld => ?_)
                      clear hK K
                      refine norm_ (a' := ?_) ?_ ?_
                      rotate_left
                      · show Act.put _ (some 61) _ = _
                        simp only [Act.put, List.setIfInBounds_toArray, List.set_cons_zero, List.set_cons_succ, i64_w, i32_w]
                        rfl
                      exact norm_ (by first | (simp only [putAll, Act.put, List.setIfInBounds_toArray, List.set_cons_zero, List.set_cons_succ]; done) | (simp only [putAll, Act.put, List.setIfInBounds_toArray, List.set_cons_zero, List.set_cons_succ]; rfl)) (hCont (v134, v137) _ ⟨hHeld, Kd.R_mono HO1.out (fun _ hk => hk.2), Kd.R_mono HO2b.out (fun _ hk => hk.2), HB2.out⟩)
                  rintro ⟨v134, v137⟩ w40 ⟨hS_, h0_, h1_, h2_⟩
                  have hHeld : w40.cell? ⟨q, 0, none⟩ = some (.string id) ∧ w40.cell? ⟨q, 1, none⟩ = some (.string tx) := hS_
                  have HO1 := Aside0.mk h0_
                  have HO2 := Aside0.mk h1_
                  have HB3 := Aside0.mk h2_
                  clear hS_ h0_ h1_ h2_
                  obtain ⟨Ao42, co42, eo42⟩ := Kd.R_slice HO2.out
                  obtain rfl : v137 = .slice Ao42 1 co42 := eo42
                  refine norm_ (a' := ?_) ?_ ?_
                  rotate_left
                  · simp only [putAll, Act.put, List.setIfInBounds_toArray, List.set_cons_zero, List.set_cons_succ]
                    rfl
                  refine one_ (i := 6) (N := some 64) #[true, true, true, true, true, true, true, false] rfl rfl (one_of HT_.out (by kernel_rfl)) (by decide) (fun K hK => ?_)
                  refine Kd.R_append_rows_step k36 (w0 := w5) w5.heap.size (by rfl) (.tmp 61) (.tmp 63) 22 36 (.agg #[(.string ⟨#[]⟩), (.string ⟨#[]⟩)]) 32 rfl Tryz.underlying22 info36 rfl (by decide) (by omega) v134 (l.take i) [(⟨id, tx⟩ : S36)] _ _ _ (fun _ => True) (fun _ => False) rfl rfl (Kd.R_mono HO1.out (fun _ _ => trivial)) (Kd.R_reads' HO2.out).2.2 (fun _ _ h => h) (fun _ h => h.elim) (fun _ _ => trivial) HB3.out HB3.out.size (by have := HLL.out; have := HY.out; have := HIL.out; omega) ?_
                  intro v44 w41 ho hb hg_ hnew_
                  have HR44 := Aside0.mk ho
                  have HB44 := Aside0.mk hb
                  clear ho hb hg_ hnew_ HO1 HO2 HB3
                  have hq44 := (HB44.out.block q (blk_lt HQD.out)).trans HQD.out
                  refine hK.out _ _ ⟨(blk_cell hq44 0).trans rfl, (blk_cell hq44 1).trans rfl⟩ (fun hHeld => ?_)
                  clear hK K hq44
                  refine norm_ (a' := ?_) ?_ ?_
                  rotate_left
                  · show Act.put _ (some 64) _ = _
                    simp only [Act.put, List.setIfInBounds_toArray, List.set_cons_zero, List.set_cons_succ, i64_w, i32_w]
                    rfl
                  refine pure_ (i := 7) (N := some 7) (v := ?_) (a' := ?_) #[true, true, true, true, true, true, true, true] rfl rfl (any_of HT_.out (by kernel_rfl)) (fun _ _ _ h => h) (Or.inl ⟨by rfl, ?_⟩) ?_ ?_
                  rotate_left
                  · intro w'
                    go_simp
                    with_reducible rfl
                  rotate_left
                  · simp only [Act.put, List.setIfInBounds_toArray, List.set_cons_zero, List.set_cons_succ, i64_w, i32_w]
                    rfl
                  refine done_ (done_of HT_.out (by kernel_rfl)) ?_
                  have hr43 := Kd.C_drop (m := i) (c := c) HC.out HIL.out HCC.out
                  have HRX := Aside0.mk (Kd.C_below hr43 (below_step HBD.out HB44.out))
                  have HY43 : Aside0 ((l.drop i).length = l.length - i) := ⟨List.length_drop⟩
                  have hrx : Kd.C k36 w41 (if c = i then (some ad) else (some ad : Option Addr).map (·.add (i * 2))) (l.length - i) (l.drop i) := by rw [← HY43.out]; exact HRX.out
                  clear hr43
                  obtain ⟨L1, hL1⟩ : ∃ L, L = l.take i ++ [(⟨id, tx⟩ : S36)] := ⟨_, rfl⟩
                  have hr44 := HR44.out
                  rw [← hL1] at hr44
                  have HRL := Aside0.mk hr44
                  have HLE : Aside0 (L1.length = i + 1) := ⟨by rw [hL1]; simp only [List.length_append, List.length_cons, List.length_nil]; have := HY.out; omega⟩
                  have HL1 := Aside0.mk hL1
                  clear hr44 hL1 HR44
                  obtain ⟨A44, c44, rfl⟩ := Kd.R_slice HRL.out
                  by_cases hci : c = i
                  · rw [if_pos hci] at hrx
                    have HX := Aside0.mk hrx
                    have hci1 : (c = i) = True := eq_true hci
                    clear hrx hci
                    go_wp2_with (first | ((with_reducible refine gate_builtin (b := .append) (xs := #[.tmp 65, .tmp 68]) rfl ?_); (try (refine gate_guard (by rfl) ?_; dsimp only)); at_builtin; refine Kd.R_append_rows k36 (w0 := w5) w5.heap.size rfl (.tmp 65) (.tmp 68) 22 36 (.agg #[(.string ⟨#[]⟩), (.string ⟨#[]⟩)]) 32 rfl Tryz.underlying22 info36 rfl (by decide) (by omega) _ L1 (l.drop i) _ _ _ (fun _ => True) (fun _ => False) rfl rfl HRL.out HX.out (fun _ _ h => h) (fun _ h => h.elim) (fun _ _ => trivial) HB44.out HB44.out.size (by have := HLL.out; have := HLE.out; have := HY43.out; have := HIL.out; omega) ?_; intro v50 w50 ho hb hg hat; have HR50 := Aside0.mk ho; have HB50 := Aside0.mk hb; clear ho hb hg hat))
                    go_ret2
                    have hM : docs (ins id.data.toList tx.data.toList (pairs l)) = l.take i ++ [(⟨id, tx⟩ : S36)] ++ l.drop i := by
                      rw [ins_split _ _ (pairs l) i (by simpa [pairs] using HIL.out) HLO.out HGE.out]
                      have e1 : docs ((pairs l).take i) = l.take i := by rw [show (pairs l).take i = pairs (l.take i) by simp [pairs, List.map_take]]; exact docs_pairs _
                      have e2 : docs ((pairs l).drop i) = l.drop i := by rw [show (pairs l).drop i = pairs (l.drop i) by simp [pairs, List.map_drop]]; exact docs_pairs _
                      unfold docs at *
                      rw [List.map_append, List.map_cons, e1, e2, List.append_assoc]
                      have e3 : doc (id.data.toList, tx.data.toList) = (⟨id, tx⟩ : S36) := doc_pr ⟨id, tx⟩
                      rw [e3]
                      rfl
                    exact ⟨_, rfl, .inr (by rw [hM, ← HL1.out]; exact Kd.R_lower HR50.out HBD.out.size), below_step HBD.out HB50.out⟩
                  · rw [if_neg hci] at hrx
                    have HX := Aside0.mk hrx
                    have hci1 : (c = i) = False := eq_false hci
                    clear hrx hci
                    go_wp2_with (first | ((with_reducible refine gate_builtin (b := .append) (xs := #[.tmp 65, .tmp 68]) rfl ?_); (try (refine gate_guard (by rfl) ?_; dsimp only)); at_builtin; refine Kd.R_append_rows k36 (w0 := w5) w5.heap.size rfl (.tmp 65) (.tmp 68) 22 36 (.agg #[(.string ⟨#[]⟩), (.string ⟨#[]⟩)]) 32 rfl Tryz.underlying22 info36 rfl (by decide) (by omega) _ L1 (l.drop i) _ _ _ (fun _ => True) (fun _ => False) rfl rfl HRL.out HX.out (fun _ _ h => h) (fun _ h => h.elim) (fun _ _ => trivial) HB44.out HB44.out.size (by have := HLL.out; have := HLE.out; have := HY43.out; have := HIL.out; omega) ?_; intro v50 w50 ho hb hg hat; have HR50 := Aside0.mk ho; have HB50 := Aside0.mk hb; clear ho hb hg hat))
                    go_ret2
                    have hM : docs (ins id.data.toList tx.data.toList (pairs l)) = l.take i ++ [(⟨id, tx⟩ : S36)] ++ l.drop i := by
                      rw [ins_split _ _ (pairs l) i (by simpa [pairs] using HIL.out) HLO.out HGE.out]
                      have e1 : docs ((pairs l).take i) = l.take i := by rw [show (pairs l).take i = pairs (l.take i) by simp [pairs, List.map_take]]; exact docs_pairs _
                      have e2 : docs ((pairs l).drop i) = l.drop i := by rw [show (pairs l).drop i = pairs (l.drop i) by simp [pairs, List.map_drop]]; exact docs_pairs _
                      unfold docs at *
                      rw [List.map_append, List.map_cons, e1, e2, List.append_assoc]
                      have e3 : doc (id.data.toList, tx.data.toList) = (⟨id, tx⟩ : S36) := doc_pr ⟨id, tx⟩
                      rw [e3]
                      rfl
                    exact ⟨_, rfl, .inr (by rw [hM, ← HL1.out]; exact Kd.R_lower HR50.out HBD.out.size), below_step HBD.out HB50.out⟩
              · have d1 : decide ((i : Int) < (l.length : Int)) = false := decide_eq_false (by omega)
                have d2 : decide (i < l.length) = false := decide_eq_false hlt
                have HIL : Aside0 (i ≤ l.length) := ⟨by have := HIK.out; omega⟩
                have HGE : Aside0 (∀ hi : i < (pairs l).length, ¬ (pairs l)[i].1 < id.data.toList) := ⟨fun hi h => hlt (by simpa [pairs] using hi)⟩
                clear hlt
                go_upto_region 10 with (fail)
                go_quiet (fail)
                obtain ⟨wq, hwq⟩ : ∃ z, z = wr.drewN nq := ⟨_, rfl⟩
                have HBq : Aside0 (Below w.heap.size w wq) := ⟨by rw [hwq]; exact pw_below_drewN HBW.out _⟩
                have HBq2 : Aside0 (Below w2.heap.size w2 wq) := ⟨by rw [hwq]; exact pw_below_drewN HBW2.out _⟩
                rw [← hwq]
                clear hwq HBW HBW2 d1 d2
                have HBW := HBq
                have HBW2 := HBq2
                clear HBq HBq2
                go_wp2_with fail
                have hic : (i ≤ c) = True := eq_true (by have := HIL.out; have := HCC.out; omega)
                have hy36 : (l.take i).length = i := by rw [List.length_take]; have := HIL.out; omega
                have hr36 := Kd.C_take (m := i) HC.out HIL.out
                have HY := Aside0.mk hy36
                clear hy36
                have HRT := Aside0.mk (Kd.C_below hr36 HBW.out)
                have HCT : Aside0 ((l.take i).length ≤ c) := ⟨by have := HCC.out; have := HIL.out; have := HY.out; omega⟩
                have q36 : ((i : Int) ≤ (l.length : Int)) = True := eq_true (by have := HIL.out; omega)
                have p36 : ((0 : Int) ≤ (i : Int)) = True := eq_true (by omega)
                clear hr36
                
                obtain ⟨kcp, hkcp⟩ := copy_is (l.take i) (by have := HLL.out; rw [List.length_take]; omega)
                have HKC := Aside0.mk (hkcp kcp (Nat.le_refl _))
                clear hkcp
                refine start_ (n := 8) (S := fun w' => w'.cell? ⟨q, 0, none⟩ = some (.string id) ∧ w'.cell? ⟨q, 1, none⟩ = some (.string tx)) (ds := []) #[false, false, false, false, false, false, false, false] (by kernel_rfl) rfl rfl ⟨(blk_cell (blk_below HQ.out (below_drew HBW2.out)) 0).trans rfl, (blk_cell (blk_below HQ.out (below_drew HBW2.out)) 1).trans rfl⟩ (fun hHeld => ?_); refine with_tabW T12.tab T12.bits (fun HT_ HW_ => ?_)
                have HBD : Aside0 (Below w.heap.size w wq.drew) := ⟨below_drew HBW.out⟩
                have HQD : Aside0 (wq.drew.heap[q]? = some (.cells #[.string id, .string tx] 36 (0, 0))) := ⟨blk_below HQ.out (below_drew HBW2.out)⟩
                have HRD : Aside0 (Kd.C k36 wq.drew A (l.take i).length (l.take i)) := ⟨Kd.C_drew HRT.out⟩
                generalize wq.drew = w5 at HBD HQD HRD hHeld ⊢
                refine pure_ (i := 0) (N := some 58) (v := ?_) (a' := ?_) #[true, false, false, false, false, false, false, false] rfl rfl (any_of HT_.out (by kernel_rfl)) (fun _ _ _ h => h) (Or.inl ⟨by rfl, ?_⟩) ?_ ?_
                rotate_left
                · intro w'
                  go_simp
                  with_reducible rfl
                rotate_left
                · simp only [Act.put, List.setIfInBounds_toArray, List.set_cons_zero, List.set_cons_succ, i64_w, i32_w]
                  rfl
                refine pure_ (i := 1) (N := some 59) (v := ?_) (a' := ?_) #[true, true, false, false, false, false, false, false] rfl rfl (any_of HT_.out (by kernel_rfl)) (fun _ _ _ h => h) (Or.inl ⟨by rfl, ?_⟩) ?_ ?_
                rotate_left
                · intro w'
                  go_simp
                  with_reducible rfl
                rotate_left
                · simp only [Act.put, List.setIfInBounds_toArray, List.set_cons_zero, List.set_cons_succ, i64_w, i32_w]
                  rfl
                refine pure_ (i := 2) (N := some 60) (v := ?_) (a' := ?_) #[true, true, true, false, false, false, false, false] rfl rfl (any_of HT_.out (by kernel_rfl)) (fun _ _ _ h => h) (Or.inl ⟨by rfl, ?_⟩) ?_ ?_
                rotate_left
                · intro w'
                  go_simp
                  with_reducible rfl
                rotate_left
                · simp only [Act.put, List.setIfInBounds_toArray, List.set_cons_zero, List.set_cons_succ, i64_w, i32_w]
                  rfl
                refine take_ (i := 4) (N := some 62) (v := ?_) (a' := ?_) #[true, true, true, false, true, false, false, false] rfl rfl (take_ofW HT_.out HW_.out (by kernel_rfl)) (fun _ _ _ h => h) (Or.inl ⟨by rfl, ?_⟩) hHeld ?_ ?_
                rotate_left
                · rintro w' ⟨s0, s1⟩
                  go_simp
                  with_reducible rfl
                rotate_left
                · simp only [Act.put, List.setIfInBounds_toArray, List.set_cons_zero, List.set_cons_succ, i64_w, i32_w]
                  rfl
                have HBZ : Aside0 (Below w5.heap.size w5 w5) := ⟨Below.refl _ _⟩
                refine join_ (σ := Value × Value) 2 #[true, true, true, true, true, true, false, false] (fun s_ => [(61, s_.1), (63, s_.2)]) (fun s_ w' => (w'.cell? ⟨q, 0, none⟩ = some (.string id) ∧ w'.cell? ⟨q, 1, none⟩ = some (.string tx)) ∧ Kd.R k36 36 w' w5.heap.size (fun k_ => some k_ ≠ (s_.2 : Value).ownBlock) s_.1 (l.take i) ∧ Kd.R k36 36 w' w5.heap.size (fun k_ => some k_ ≠ (s_.1 : Value).ownBlock) s_.2 [(⟨id, tx⟩ : S36)] ∧ Below w5.heap.size w5 w') ?_ ?_
                rotate_left
                · intro hCont
                  refine two_ (i := 3) (j := 5) (Ni := some 61) (Nj := some 63) #[true, true, true, true, true, false, false, false] #[true, true, true, false, true, true, false, false] rfl rfl rfl rfl (two_of HT_.out (by kernel_rfl)) (by decide) (by decide) (fun K hK => ?_) (fun K hK => ?_)
                  · refine goes_ Tryz.func36 (by kernel_rfl) rfl #[.slice A i c] (by rfl) rfl rfl (by (try simp only [List.map_toArray, List.map_cons, List.map_nil]); first | done | rfl | (simp only [List.length_drop, List.length_take]; rfl)) ?_
                    with_reducible refine (copy36 kcp _ c i (l.take i) HY.out _ HRD.out HCT.out HKC.out).mono ?_
                    rintro e w37 ⟨v134, rfl, ho0, hb⟩
                    refine ⟨_, rfl, ?_⟩
                    have HO1 := Aside0.mk (Kd.R_lower ho0 HBZ.out.size)
                    have HQ1 := Aside0.mk (blk_below HQD.out hb)
                    have HB1 := Aside0.mk (below_step HBZ.out hb)
                    clear ho0 hb
                    refine hK.out _ _ ⟨(blk_cell HQ1.out 0).trans rfl, (blk_cell HQ1.out 1).trans rfl⟩ (fun hHeld => ?_)
                    clear hK K
                    refine norm_ (a' := ?_) ?_ ?_
                    rotate_left
                    · show Act.put _ (some 61) _ = _
                      simp only [Act.put, List.setIfInBounds_toArray, List.set_cons_zero, List.set_cons_succ, i64_w, i32_w]
                      rfl
                    refine one_ (i := 5) (N := some 63) #[true, true, true, true, true, true, false, false] rfl rfl (one_of HT_.out (by kernel_rfl)) (by decide) (fun K hK => ?_)
                    refine Kd.R_lit_step k36 _ 36 ?hg (N := 63) ?hd (xs := ([(⟨id, tx⟩ : S36)] : List (S36))) (inner := [.string id, .string tx]) (ok := fun _ => True) (okp := fun _ => True) ?hr ?hp (fun _ hk => hk) trivial (Below.refl _ _) (Nat.le_refl _) (by simp) ?_; (case hd => rfl); (case hg => rfl); (case hr => first | (go_simp; done) | (go_simp; rfl)); (case hp => exact (Reps.c2 (show Kd.M k36 _ _ _ (⟨id, tx⟩ : S36) [.string id, .string tx] from (k36_mkM _ _ _ (⟨id, tx⟩ : S36) )) (Reps.none _ _)))
                    intro v137 w38 ho39 hb hg_ hnew_
                    clear hg_ hnew_
                    have HO2 := Aside0.mk (Kd.R_lower (Kd.R_new' ho39 (Kd.R_lt HO1.out)) HB1.out.size)
                    have HO1b := Aside0.mk (Kd.R_elder' HO1.out (Kd.R_base ho39) hb)
                    have HQ2 := Aside0.mk (blk_below HQ1.out hb)
                    have HB2 := Aside0.mk (below_step HB1.out hb)
                    clear ho39 hb
                    refine hK.out _ _ ⟨(blk_cell HQ2.out 0).trans rfl, (blk_cell HQ2.out 1).trans rfl⟩ (fun hHeld => ?_)
                    clear hK K
                    refine norm_ (a' := ?_) ?_ ?_
                    rotate_left
                    · show Act.put _ (some 63) _ = _
                      simp only [Act.put, List.setIfInBounds_toArray, List.set_cons_zero, List.set_cons_succ, i64_w, i32_w]
                      rfl
                    exact norm_ (by first | (simp only [putAll, Act.put, List.setIfInBounds_toArray, List.set_cons_zero, List.set_cons_succ]; done) | (simp only [putAll, Act.put, List.setIfInBounds_toArray, List.set_cons_zero, List.set_cons_succ]; rfl)) (hCont (v134, v137) _ ⟨hHeld, Kd.R_mono HO1b.out (fun _ hk => hk.2), Kd.R_mono HO2.out (fun _ hk => hk.2), HB2.out⟩)
                  · refine Kd.R_lit_step k36 _ 36 ?hg (N := 63) ?hd (xs := ([(⟨id, tx⟩ : S36)] : List (S36))) (inner := [.string id, .string tx]) (ok := fun _ => True) (okp := fun _ => True) ?hr ?hp (fun _ hk => hk) trivial (Below.refl _ _) (Nat.le_refl _) (by simp) ?_; (case hd => rfl); (case hg => rfl); (case hr => first | (go_simp; done) | (go_simp; rfl)); (case hp => exact (Reps.c2 (show Kd.M k36 _ _ _ (⟨id, tx⟩ : S36) [.string id, .string tx] from (k36_mkM _ _ _ (⟨id, tx⟩ : S36) )) (Reps.none _ _)))
                    intro v137 w37 ho39 hb hg_ hnew_
                    clear hg_ hnew_
                    have HO2 := Aside0.mk (Kd.R_lower ho39 HBZ.out.size)
                    have HQ1 := Aside0.mk (blk_below HQD.out hb)
                    have HR1 := Aside0.mk (Kd.C_below HRD.out hb)
                    have HB1 := Aside0.mk (below_step HBZ.out hb)
                    clear ho39 hb
                    refine hK.out _ _ ⟨(blk_cell HQ1.out 0).trans rfl, (blk_cell HQ1.out 1).trans rfl⟩ (fun hHeld => ?_)
                    clear hK K
                    refine norm_ (a' := ?_) ?_ ?_
                    rotate_left
                    · show Act.put _ (some 63) _ = _
                      simp only [Act.put, List.setIfInBounds_toArray, List.set_cons_zero, List.set_cons_succ, i64_w, i32_w]
                      rfl
                    refine one_ (i := 3) (N := some 61) #[true, true, true, true, true, true, false, false] rfl rfl (one_of HT_.out (by kernel_rfl)) (by decide) (fun K hK => ?_)
                    refine goes_ Tryz.func36 (by kernel_rfl) rfl #[.slice A i c] (by rfl) rfl rfl (by (try simp only [List.map_toArray, List.map_cons, List.map_nil]); first | done | rfl | (simp only [List.length_drop, List.length_take]; rfl)) ?_
                    with_reducible refine (copy36 kcp _ c i (l.take i) HY.out _ HR1.out HCT.out HKC.out).mono ?_
                    rintro e w39 ⟨v134, rfl, ho0, hb⟩
                    refine ⟨_, rfl, ?_⟩
                    have HO1 := Aside0.mk (Kd.R_lower (Kd.R_new' ho0 (Kd.R_lt HO2.out)) HB1.out.size)
                    have HO2b := Aside0.mk (Kd.R_elder' HO2.out (Kd.R_base ho0) hb)
                    have HQ2 := Aside0.mk (blk_below HQ1.out hb)
                    have HB2 := Aside0.mk (below_step HB1.out hb)
                    clear ho0 hb
                    refine hK.out _ _ ⟨(blk_cell HQ2.out 0).trans rfl, (blk_cell HQ2.out 1).trans rfl⟩ (fun hHeld => ?_)
                    clear hK K
                    refine norm_ (a' := ?_) ?_ ?_
                    rotate_left
                    · show Act.put _ (some 61) _ = _
                      simp only [Act.put, List.setIfInBounds_toArray, List.set_cons_zero, List.set_cons_succ, i64_w, i32_w]
                      rfl
                    exact norm_ (by first | (simp only [putAll, Act.put, List.setIfInBounds_toArray, List.set_cons_zero, List.set_cons_succ]; done) | (simp only [putAll, Act.put, List.setIfInBounds_toArray, List.set_cons_zero, List.set_cons_succ]; rfl)) (hCont (v134, v137) _ ⟨hHeld, Kd.R_mono HO1.out (fun _ hk => hk.2), Kd.R_mono HO2b.out (fun _ hk => hk.2), HB2.out⟩)
                rintro ⟨v134, v137⟩ w40 ⟨hS_, h0_, h1_, h2_⟩
                have hHeld : w40.cell? ⟨q, 0, none⟩ = some (.string id) ∧ w40.cell? ⟨q, 1, none⟩ = some (.string tx) := hS_
                have HO1 := Aside0.mk h0_
                have HO2 := Aside0.mk h1_
                have HB3 := Aside0.mk h2_
                clear hS_ h0_ h1_ h2_
                obtain ⟨Ao42, co42, eo42⟩ := Kd.R_slice HO2.out
                obtain rfl : v137 = .slice Ao42 1 co42 := eo42
                refine norm_ (a' := ?_) ?_ ?_
                rotate_left
                · simp only [putAll, Act.put, List.setIfInBounds_toArray, List.set_cons_zero, List.set_cons_succ]
                  rfl
                refine one_ (i := 6) (N := some 64) #[true, true, true, true, true, true, true, false] rfl rfl (one_of HT_.out (by kernel_rfl)) (by decide) (fun K hK => ?_)
                refine Kd.R_append_rows_step k36 (w0 := w5) w5.heap.size (by rfl) (.tmp 61) (.tmp 63) 22 36 (.agg #[(.string ⟨#[]⟩), (.string ⟨#[]⟩)]) 32 rfl Tryz.underlying22 info36 rfl (by decide) (by omega) v134 (l.take i) [(⟨id, tx⟩ : S36)] _ _ _ (fun _ => True) (fun _ => False) rfl rfl (Kd.R_mono HO1.out (fun _ _ => trivial)) (Kd.R_reads' HO2.out).2.2 (fun _ _ h => h) (fun _ h => h.elim) (fun _ _ => trivial) HB3.out HB3.out.size (by have := HLL.out; have := HY.out; have := HIL.out; omega) ?_
                intro v44 w41 ho hb hg_ hnew_
                have HR44 := Aside0.mk ho
                have HB44 := Aside0.mk hb
                clear ho hb hg_ hnew_ HO1 HO2 HB3
                have hq44 := (HB44.out.block q (blk_lt HQD.out)).trans HQD.out
                refine hK.out _ _ ⟨(blk_cell hq44 0).trans rfl, (blk_cell hq44 1).trans rfl⟩ (fun hHeld => ?_)
                clear hK K hq44
                refine norm_ (a' := ?_) ?_ ?_
                rotate_left
                · show Act.put _ (some 64) _ = _
                  simp only [Act.put, List.setIfInBounds_toArray, List.set_cons_zero, List.set_cons_succ, i64_w, i32_w]
                  rfl
                refine pure_ (i := 7) (N := some 7) (v := ?_) (a' := ?_) #[true, true, true, true, true, true, true, true] rfl rfl (any_of HT_.out (by kernel_rfl)) (fun _ _ _ h => h) (Or.inl ⟨by rfl, ?_⟩) ?_ ?_
                rotate_left
                · intro w'
                  go_simp
                  with_reducible rfl
                rotate_left
                · simp only [Act.put, List.setIfInBounds_toArray, List.set_cons_zero, List.set_cons_succ, i64_w, i32_w]
                  rfl
                refine done_ (done_of HT_.out (by kernel_rfl)) ?_
                have hr43 := Kd.C_drop (m := i) (c := c) HC.out HIL.out HCC.out
                have HRX := Aside0.mk (Kd.C_below hr43 (below_step HBD.out HB44.out))
                have HY43 : Aside0 ((l.drop i).length = l.length - i) := ⟨List.length_drop⟩
                have hrx : Kd.C k36 w41 (if c = i then A else A.map (·.add (i * 2))) (l.length - i) (l.drop i) := by rw [← HY43.out]; exact HRX.out
                clear hr43
                obtain ⟨L1, hL1⟩ : ∃ L, L = l.take i ++ [(⟨id, tx⟩ : S36)] := ⟨_, rfl⟩
                have hr44 := HR44.out
                rw [← hL1] at hr44
                have HRL := Aside0.mk hr44
                have HLE : Aside0 (L1.length = i + 1) := ⟨by rw [hL1]; simp only [List.length_append, List.length_cons, List.length_nil]; have := HY.out; omega⟩
                have HL1 := Aside0.mk hL1
                clear hr44 hL1 HR44
                obtain ⟨A44, c44, rfl⟩ := Kd.R_slice HRL.out
                by_cases hci : c = i
                · rw [if_pos hci] at hrx
                  have HX := Aside0.mk hrx
                  have hci1 : (c = i) = True := eq_true hci
                  clear hrx hci
                  go_wp2_with (first | ((with_reducible refine gate_builtin (b := .append) (xs := #[.tmp 65, .tmp 68]) rfl ?_); (try (refine gate_guard (by rfl) ?_; dsimp only)); at_builtin; refine Kd.R_append_rows k36 (w0 := w5) w5.heap.size rfl (.tmp 65) (.tmp 68) 22 36 (.agg #[(.string ⟨#[]⟩), (.string ⟨#[]⟩)]) 32 rfl Tryz.underlying22 info36 rfl (by decide) (by omega) _ L1 (l.drop i) _ _ _ (fun _ => True) (fun _ => False) rfl rfl HRL.out HX.out (fun _ _ h => h) (fun _ h => h.elim) (fun _ _ => trivial) HB44.out HB44.out.size (by have := HLL.out; have := HLE.out; have := HY43.out; have := HIL.out; omega) ?_; intro v50 w50 ho hb hg hat; have HR50 := Aside0.mk ho; have HB50 := Aside0.mk hb; clear ho hb hg hat))
                  go_ret2
                  have hM : docs (ins id.data.toList tx.data.toList (pairs l)) = l.take i ++ [(⟨id, tx⟩ : S36)] ++ l.drop i := by
                    rw [ins_split _ _ (pairs l) i (by simpa [pairs] using HIL.out) HLO.out HGE.out]
                    have e1 : docs ((pairs l).take i) = l.take i := by rw [show (pairs l).take i = pairs (l.take i) by simp [pairs, List.map_take]]; exact docs_pairs _
                    have e2 : docs ((pairs l).drop i) = l.drop i := by rw [show (pairs l).drop i = pairs (l.drop i) by simp [pairs, List.map_drop]]; exact docs_pairs _
                    unfold docs at *
                    rw [List.map_append, List.map_cons, e1, e2, List.append_assoc]
                    have e3 : doc (id.data.toList, tx.data.toList) = (⟨id, tx⟩ : S36) := doc_pr ⟨id, tx⟩
                    rw [e3]
                    rfl
                  exact ⟨_, rfl, .inr (by rw [hM, ← HL1.out]; exact Kd.R_lower HR50.out HBD.out.size), below_step HBD.out HB50.out⟩
                · rw [if_neg hci] at hrx
                  have HX := Aside0.mk hrx
                  have hci1 : (c = i) = False := eq_false hci
                  clear hrx hci
                  go_wp2_with (first | ((with_reducible refine gate_builtin (b := .append) (xs := #[.tmp 65, .tmp 68]) rfl ?_); (try (refine gate_guard (by rfl) ?_; dsimp only)); at_builtin; refine Kd.R_append_rows k36 (w0 := w5) w5.heap.size rfl (.tmp 65) (.tmp 68) 22 36 (.agg #[(.string ⟨#[]⟩), (.string ⟨#[]⟩)]) 32 rfl Tryz.underlying22 info36 rfl (by decide) (by omega) _ L1 (l.drop i) _ _ _ (fun _ => True) (fun _ => False) rfl rfl HRL.out HX.out (fun _ _ h => h) (fun _ h => h.elim) (fun _ _ => trivial) HB44.out HB44.out.size (by have := HLL.out; have := HLE.out; have := HY43.out; have := HIL.out; omega) ?_; intro v50 w50 ho hb hg hat; have HR50 := Aside0.mk ho; have HB50 := Aside0.mk hb; clear ho hb hg hat))
                  go_ret2
                  have hM : docs (ins id.data.toList tx.data.toList (pairs l)) = l.take i ++ [(⟨id, tx⟩ : S36)] ++ l.drop i := by
                    rw [ins_split _ _ (pairs l) i (by simpa [pairs] using HIL.out) HLO.out HGE.out]
                    have e1 : docs ((pairs l).take i) = l.take i := by rw [show (pairs l).take i = pairs (l.take i) by simp [pairs, List.map_take]]; exact docs_pairs _
                    have e2 : docs ((pairs l).drop i) = l.drop i := by rw [show (pairs l).drop i = pairs (l.drop i) by simp [pairs, List.map_drop]]; exact docs_pairs _
                    unfold docs at *
                    rw [List.map_append, List.map_cons, e1, e2, List.append_assoc]
                    have e3 : doc (id.data.toList, tx.data.toList) = (⟨id, tx⟩ : S36) := doc_pr ⟨id, tx⟩
                    rw [e3]
                    rfl
                  exact ⟨_, rfl, .inr (by rw [hM, ← HL1.out]; exact Kd.R_lower HR50.out HBD.out.size), below_step HBD.out HB50.out⟩
  · have hv : addV (pairs l) id.data.toList tx.data.toList = (pairs l, 1) := by unfold addV; rw [HID.out.1, if_neg hn]
    obtain ⟨rfl, rfl⟩ := Prod.mk.inj (hv.symm.trans HADD.out)
    by_cases hz : id.size = 0
    · have hn1 : (id.toList == []) = true := beq_iff_eq.mpr ((ne_nil id).2 hz)
      have hn2 : (id.toList = []) = True := eq_true ((ne_nil id).2 hz)
      clear hv hn hz
      go_wp2_with fail
      go_ret2
      exact ⟨_, rfl, .inl ⟨rfl, rfl⟩, HB2.out⟩
    · have hn1 : (id.toList == []) = false := by rw [beq_eq_false_iff_ne]; exact fun e => hz ((ne_nil id).1 e)
      have hn2 : (id.toList = []) = False := eq_false (fun e => hz ((ne_nil id).1 e))
      have hn3 : decide ((64 : Int) < (id.size : Int)) = true := decide_eq_true (by omega)
      have hn4 : decide (64 < id.size) = true := decide_eq_true (by omega)
      clear hv hn hz
      go_wp2_with fail
      go_ret2
      exact ⟨_, rfl, .inl ⟨rfl, rfl⟩, HB2.out⟩
end Go.Proofs.YtpeldaogdeefeaaGreat.H
