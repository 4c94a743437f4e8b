/- MachineSearches: the law's walk. -/
import Derived.Test.YtpeldaogdeefeaaGreatMSrc
import Derived.Test.YtpeldaogdeefeaaGreatMG10
import Derived.Test.YtpeldaogdeefeaaGreatMWake
import Derived.Test.YtpeldaogdeefeaaGreatMx0
import Derived.Test.YtpeldaogdeefeaaGreatMx46
import Derived.Test.YtpeldaogdeefeaaGreatMx40
import Derived.Test.YtpeldaogdeefeaaGreatMSta
namespace Go.Proofs.YtpeldaogdeefeaaGreat.M
open Go.Proofs.YtpeldaogdeefeaaGreat.H Go.RowKit Go.Maps Go.Sort Go.Proofs.YtpeldaogdeefeaaGreatW.PrintWords Go.Proofs.YtpeldaogdeefeaaGreatW.PrintLast Go.Proofs.YtpeldaogdeefeaaGreatW.PrintMore Go.Proofs.YtpeldaogdeefeaaGreat.Base
set_option linter.unusedVariables false
set_option linter.unusedSimpArgs false
theorem searchV_len (M : List (Bs × Bs)) (p : ByteArray) (n : Int) : (searchV M p n).1.length ≤ 1000 := by
  unfold searchV
  split
  · exact Nat.zero_le _
  · split
    · exact Nat.zero_le _
    · rename_i h
      show (List.take n.toNat (hitsM M p)).length ≤ 1000
      rw [List.length_take]
      omega
set_option maxRecDepth 100000 in
set_option maxHeartbeats 1600000 in
theorem searches_walk (ix : Int) (l : List S36) (ss : List S140) (L : List S75) (A1 A2 A3 : Option Addr) (c1 c2 c3 : Nat) (w : World) (hC1 : Kd.C k36 w A1 l.length l) (hc1 : l.length ≤ c1) (hC2 : Kd.C k140 w A2 ss.length ss) (hc2 : ss.length ≤ c2) (hC3 : Kd.C k75 w A3 L.length L) (hc3 : L.length ≤ c3)
    (kh : Nat) (hb : Bool) (hheavy : lecternlaw15_Heavy.f kh ix l ss L = some hb) (ks : Nat) (sb : Bool) (hst : lecternref14_State.f ks ix l ss = some sb) (hok : sb = true → OnlyOk ix l ss ∧ mayP ss)
    (m : Int) (hm0 : w.cell? ⟨0, 0, none⟩ = some (.int .i64 m)) :
    Calls Tryz.prog 16 #[.agg #[.int .i64 ix, .slice A1 l.length c1, .slice A2 ss.length c2, .slice A3 L.length c3]] w fun e w' => e = .returned (.bool true) ∧ Below w.heap.size w w' := by
  have HC1 := Aside0.mk hC1
  have HC2 := Aside0.mk hC2
  have HC3 := Aside0.mk hC3
  have HCC := Aside0.mk (And.intro hc1 (And.intro hc2 hc3))
  have HHV := Aside0.mk hheavy
  have HST := Aside0.mk hst
  have HOK := Aside0.mk hok
  have HM0 : Aside0 (∀ W, Below w.heap.size w W → W.cell? ⟨0, 0, none⟩ = some (.int .i64 m)) := ⟨fun W hb => (hb.cell (World.block_lt_of_cell? w _ hm0)).trans hm0⟩
  have hu63 := Tryz.underlying63
  have hu60 := Tryz.underlying60
  clear hC1 hC2 hC3 hc1 hc2 hc3 hheavy hst hok hm0
  go_enter Tryz.func16, Tryz.ntmps16
  go_upto_region 1 with (fail)
  have hq := heap_alloc_new w (.cells #[.int .i64 ix, .slice A1 l.length c1, .slice A2 ss.length c2, .slice A3 L.length c3] 63)
  have hB1 : Below w.heap.size w (w.alloc (.cells #[.int .i64 ix, .slice A1 l.length c1, .slice A2 ss.length c2, .slice A3 L.length c3] 63)) := below_alloc (Below.refl _ _) _
  obtain ⟨q, hqe⟩ : ∃ b, b = w.heap.size := ⟨_, rfl⟩
  obtain ⟨w1, hw1⟩ : ∃ z, z = w.alloc (.cells #[.int .i64 ix, .slice A1 l.length c1, .slice A2 ss.length c2, .slice A3 L.length c3] 63) := ⟨_, rfl⟩
  rw [← hqe, ← hw1] at hq ⊢
  rw [← hw1] at hB1
  have HQ1 := Aside0.mk hq
  have HB1 := Aside0.mk hB1
  have x0 : w1.cell? ⟨q, 0, none⟩ = some (.int .i64 ix) := (blk_cell hq 0).trans rfl
  have x1 : w1.cell? ⟨q, 1, none⟩ = some (.slice A1 l.length c1) := (blk_cell hq 1).trans rfl
  have x2 : w1.cell? ⟨q, 2, none⟩ = some (.slice A2 ss.length c2) := (blk_cell hq 2).trans rfl
  have x3 : w1.cell? ⟨q, 3, none⟩ = some (.slice A3 L.length c3) := (blk_cell hq 3).trans rfl
  clear hq hB1 hw1 hqe
  go_wp2_with fail
  refine (lecternlaw15_Heavy.calls kh ix A1 c1 l A2 c2 ss A3 c3 L hb w1 (Kd.C_below HC1.out HB1.out) HCC.out.1 (Kd.C_below HC2.out HB1.out) HCC.out.2.1 (Kd.C_below HC3.out HB1.out) HCC.out.2.2 HHV.out).mono ?_
  rintro e w2 ⟨rfl, hb2⟩
  have HB2 : Aside0 (Below w.heap.size w w2) := ⟨below_step HB1.out hb2⟩
  have hq2 := blk_below HQ1.out hb2
  have HQ2 := Aside0.mk hq2
  clear x0 x1 x2 x3
  have x0 : w2.cell? ⟨q, 0, none⟩ = some (.int .i64 ix) := (blk_cell hq2 0).trans rfl
  have x1 : w2.cell? ⟨q, 1, none⟩ = some (.slice A1 l.length c1) := (blk_cell hq2 1).trans rfl
  have x2 : w2.cell? ⟨q, 2, none⟩ = some (.slice A2 ss.length c2) := (blk_cell hq2 2).trans rfl
  clear hb2 hq2
  cases hb
  · go_wp2_with fail
    refine (lecternref14_State.calls ks ix A1 c1 l A2 c2 ss sb w2 (Kd.C_below HC1.out HB2.out) HCC.out.1 (Kd.C_below HC2.out HB2.out) HCC.out.2.1 HST.out).mono ?_
    rintro e w3 ⟨rfl, hb3⟩
    have HB3 : Aside0 (Below w.heap.size w w3) := ⟨below_step HB2.out hb3⟩
    have HQ3 := Aside0.mk (blk_below HQ2.out hb3)
    clear hb3 x0 x1 x2
    cases sb
    · go_wp2_with fail
      go_ret
      exact ⟨rfl, HB3.out⟩
    · have HOO := Aside0.mk (HOK.out rfl)
      have x0 : w3.cell? ⟨q, 0, none⟩ = some (.int .i64 ix) := (blk_cell HQ3.out 0).trans rfl
      have x1 : w3.cell? ⟨q, 1, none⟩ = some (.slice A1 l.length c1) := (blk_cell HQ3.out 1).trans rfl
      have x2 : w3.cell? ⟨q, 2, none⟩ = some (.slice A2 ss.length c2) := (blk_cell HQ3.out 2).trans rfl
      clear HHV HST HOK HQ1 HQ2 HB1 HB2
      go_wp2_with fail
      obtain ⟨km, hmay⟩ := HOO.out.1.may
      refine (mnew_calls ix A1 c1 l A2 c2 ss w3 (Kd.C_below HC1.out HB3.out) HCC.out.1 (Kd.C_below HC2.out HB3.out) HCC.out.2.1 HOO.out.1.docs km hmay HOO.out.1.len).mono ?_
      rintro e w5 ⟨g, U, rfl, hm5, hb5⟩
      rw [HOO.out.1.noh] at hm5
      have HM5 := Aside0.mk hm5
      have HB5 : Aside0 (Below w3.heap.size w3 w5) := ⟨hb5⟩
      clear hm5 hb5 hmay x0 x1 x2
      go_wp2_with fail
      refine (num42 0 w5).mono ?_
      rintro e w' ⟨rfl, hww⟩
      have hww' : w5 = w' := hww.symm
      clear hww
      subst hww'
      go_wp2_with fail
      go_loopg [5] 20 (fun kq v5 w' => ∃ i : Nat, Aside0 (i + kq = 20) ∧ v5 = .int .i64 i ∧ Aside0 (Below w5.heap.size w5 w'))
      case atStart => exact ⟨0, ⟨by omega⟩, rfl, ⟨Below.refl _ _⟩⟩
      case round =>
        obtain ⟨i, HIK, rfl, HBW⟩ := hrel
        have HBR : Aside0 (Below w3.heap.size w3 wr) := ⟨below_step HB5.out HBW.out⟩
        have x3 : wr.cell? ⟨q, 3, none⟩ = some (.slice A3 L.length c3) := (blk_cell (blk_below HQ3.out HBR.out) 3).trans rfl
        have hw1 : wrap64 ((i : Int) + 1) = ((i + 1 : Nat) : Int) := wrn i (by have := HIK.out; omega)
        by_cases hlt : i < L.length ∧ i < 20
        · have hd1 : decide ((i : Int) < (L.length : Int)) = true := decide_eq_true (by omega)
          have hd2 : decide (i < L.length) = true := decide_eq_true hlt.1
          have hd3 : decide ((i : Int) < 20) = true := decide_eq_true (by omega)
          have hd4 : decide (i < 20) = true := decide_eq_true hlt.2
          have HLT := Aside0.mk hlt
          obtain ⟨ad, eA, k0, k1, k2, k3, k4, k5, k6, k7, k8, k9⟩ := at_T75 HC3.out (i : Int) (by omega) (by omega)
          rw [Int.toNat_natCast] at k0 k1 k2 k3 k4 k5 k6 k7 k8 k9
          obtain ⟨a, ha⟩ : ∃ a, a = rd_T75 L (i : Int) := ⟨_, rfl⟩
          rw [← ha] at k0 k1 k2 k3 k4 k5 k6 k7 k8 k9
          obtain ⟨pa, hpa⟩ : ∃ z, z = ad.add (i * 10) := ⟨_, rfl⟩
          have KA : Aside0 (∀ W, Below w.heap.size w W → W.cell? ⟨(ad.add (i * 10)).block, (ad.add (i * 10)).off + 8, none⟩ = some (.string a.f4) ∧ W.cell? ⟨(ad.add (i * 10)).block, (ad.add (i * 10)).off + 9, none⟩ = some (.int .i64 a.f5)) := ⟨fun W hb => by
            have cc : ∀ {A : Addr} {v : Value}, w.cell? A = some v → W.cell? A = some v := fun h => (hb.cell (World.block_lt_of_cell? w _ h)).trans h
            exact ⟨cc k8, cc k9⟩⟩
          clear k0 k1 k2 k3 k4 k5 k6 k7 k8 k9 hlt ha hpa
          have q0 : ((i : Int) < (L.length : Int)) = True := eq_true (by have := HLT.out.1; omega)
          have p0 : ((0 : Int) ≤ (i : Int)) = True := eq_true (by omega)
          subst eA
          have KP : Aside0 (∀ W, Below w3.heap.size w3 W → W.cell? ⟨q, 0, none⟩ = some (.int .i64 ix) ∧ W.cell? ⟨q, 1, none⟩ = some (.slice A1 l.length c1) ∧ W.cell? ⟨q, 2, none⟩ = some (.slice A2 ss.length c2) ∧ W.cell? ⟨q, 3, none⟩ = some (.slice (some ad) L.length c3) ∧ W.cell? ⟨(ad.add (i * 10)).block, (ad.add (i * 10)).off + 8, none⟩ = some (.string a.f4) ∧ W.cell? ⟨(ad.add (i * 10)).block, (ad.add (i * 10)).off + 9, none⟩ = some (.int .i64 a.f5)) := ⟨fun W hb => by
            have hq := blk_below HQ3.out hb
            exact ⟨(blk_cell hq 0).trans rfl, (blk_cell hq 1).trans rfl, (blk_cell hq 2).trans rfl, (blk_cell hq 3).trans rfl, KA.out W (below_step HB3.out hb)⟩⟩
          obtain ⟨rv, nv, ev, hsv⟩ : ∃ rv nv ev, searchV (pairs l) a.f4 a.f5 = (rv, nv, ev) := ⟨_, _, _, rfl⟩
          have HSV := Aside0.mk hsv
          have hrl : rv.length ≤ 1000 := by have := searchV_len (pairs l) a.f4 a.f5; rw [hsv] at this; exact this
          obtain ⟨ke, hke⟩ := Ev.some (eqReply_is ev nv rv (by omega))
          have HEQ := Aside0.mk hke
          clear hsv hrl hke KA
          go_upto_region 9 with (fail)
          have HB9 : Aside0 (Below w3.heap.size w3 wr.drew) := ⟨below_drew1 HBR.out⟩
          have HM9 : Aside0 (Mch wr.drew w3.heap.size U g 64 (pairs l) ix ss) := ⟨HM5.out.below (below_drew1 HBW.out)⟩
          have HV9 : Aside0 (Below w5.heap.size w5 wr.drew) := ⟨below_drew1 HBW.out⟩
          clear x3
          refine start_ (n := 31) (S := fun w' => w'.cell? ⟨q, 0, none⟩ = some (.int .i64 ix) ∧ w'.cell? ⟨q, 1, none⟩ = some (.slice A1 l.length c1) ∧ w'.cell? ⟨q, 2, none⟩ = some (.slice A2 ss.length c2) ∧ w'.cell? ⟨q, 3, none⟩ = some (.slice (some ad) L.length c3) ∧ w'.cell? ⟨(ad.add (i * 10)).block, (ad.add (i * 10)).off + 8, none⟩ = some (.string a.f4) ∧ w'.cell? ⟨(ad.add (i * 10)).block, (ad.add (i * 10)).off + 9, none⟩ = some (.int .i64 a.f5)) (ds := []) #[false, false, false, false, false, false, false, false, false, false, false, false, false, false, false, false, false, false, false, false, false, false, false, false, false, false, false, false, false, false, false] (by kernel_rfl) rfl rfl ⟨(KP.out _ HB9.out).1, (KP.out _ HB9.out).2.1, (KP.out _ HB9.out).2.2.1, (KP.out _ HB9.out).2.2.2.1, (KP.out _ HB9.out).2.2.2.2.1, (KP.out _ HB9.out).2.2.2.2.2⟩ (fun hHeld => ?_)
          generalize wr.drew = w9 at HB9 HM9 HV9 hHeld ⊢
          refine pure_ (i := 0) (N := some 38) (v := ?_) (a' := ?_) #[true, false, false, false, false, false, false, false, false, false, false, false, false, false, false, false, false, false, false, false, false, false, false, false, false, false, false, false, false, false, false] rfl rfl (by kernel_rfl) (fun _ _ _ h => h) (Or.inl ⟨by rfl, ?_⟩) ?_ ?_
          rotate_left
          · intro w'
            go_simp
            with_reducible rfl
          rotate_left
          · simp only [Act.put, List.setIfInBounds_toArray, List.set_cons_zero, List.set_cons_succ, i64_w, i32_w]
            rfl
          refine pure_ (i := 1) (N := some 39) (v := ?_) (a' := ?_) #[true, true, false, false, false, false, false, false, false, false, false, false, false, false, false, false, false, false, false, false, false, false, false, false, false, false, false, false, false, false, false] rfl rfl (by kernel_rfl) (fun _ _ _ h => h) (Or.inl ⟨by rfl, ?_⟩) ?_ ?_
          rotate_left
          · intro w'
            go_simp
            with_reducible rfl
          rotate_left
          · simp only [Act.put, List.setIfInBounds_toArray, List.set_cons_zero, List.set_cons_succ, i64_w, i32_w]
            rfl
          refine pure_ (i := 3) (N := some 41) (v := ?_) (a' := ?_) #[true, true, false, true, false, false, false, false, false, false, false, false, false, false, false, false, false, false, false, false, false, false, false, false, false, false, false, false, false, false, false] rfl rfl (by kernel_rfl) (fun _ _ _ h => h) (Or.inl ⟨by rfl, ?_⟩) ?_ ?_
          rotate_left
          · intro w'
            go_simp
            with_reducible rfl
          rotate_left
          · simp only [Act.put, List.setIfInBounds_toArray, List.set_cons_zero, List.set_cons_succ, i64_w, i32_w]
            rfl
          refine pure_ (i := 7) (N := some 45) (v := ?_) (a' := ?_) #[true, true, false, true, false, false, false, true, false, false, false, false, false, false, false, false, false, false, false, false, false, false, false, false, false, false, false, false, false, false, false] rfl rfl (by kernel_rfl) (fun _ _ _ h => h) (Or.inl ⟨by rfl, ?_⟩) ?_ ?_
          rotate_left
          · intro w'
            go_simp
            with_reducible rfl
          rotate_left
          · simp only [Act.put, List.setIfInBounds_toArray, List.set_cons_zero, List.set_cons_succ, i64_w, i32_w]
            rfl
          refine pure_ (i := 9) (N := some 47) (v := ?_) (a' := ?_) #[true, true, false, true, false, false, false, true, false, true, false, false, false, false, false, false, false, false, false, false, false, false, false, false, false, false, false, false, false, false, false] rfl rfl (by kernel_rfl) (fun _ _ _ h => h) (Or.inl ⟨by rfl, ?_⟩) ?_ ?_
          rotate_left
          · intro w'
            go_simp
            with_reducible rfl
          rotate_left
          · simp only [Act.put, List.setIfInBounds_toArray, List.set_cons_zero, List.set_cons_succ, i64_w, i32_w]
            rfl
          refine pure_ (i := 14) (N := some 52) (v := ?_) (a' := ?_) #[true, true, false, true, false, false, false, true, false, true, false, false, false, false, true, false, false, false, false, false, false, false, false, false, false, false, false, false, false, false, false] rfl rfl (by kernel_rfl) (fun _ _ _ h => h) (Or.inl ⟨by rfl, ?_⟩) ?_ ?_
          rotate_left
          · intro w'
            go_simp
            with_reducible rfl
          rotate_left
          · simp only [Act.put, List.setIfInBounds_toArray, List.set_cons_zero, List.set_cons_succ, i64_w, i32_w]
            rfl
          refine pure_ (i := 16) (N := some 54) (v := ?_) (a' := ?_) #[true, true, false, true, false, false, false, true, false, true, false, false, false, false, true, false, true, false, false, false, false, false, false, false, false, false, false, false, false, false, false] rfl rfl (by kernel_rfl) (fun _ _ _ h => h) (Or.inl ⟨by rfl, ?_⟩) ?_ ?_
          rotate_left
          · intro w'
            go_simp
            with_reducible rfl
          rotate_left
          · simp only [Act.put, List.setIfInBounds_toArray, List.set_cons_zero, List.set_cons_succ, i64_w, i32_w]
            rfl
          refine pure_ (i := 18) (N := some 56) (v := ?_) (a' := ?_) #[true, true, false, true, false, false, false, true, false, true, false, false, false, false, true, false, true, false, true, false, false, false, false, false, false, false, false, false, false, false, false] rfl rfl (by kernel_rfl) (fun _ _ _ h => h) (Or.inl ⟨by rfl, ?_⟩) ?_ ?_
          rotate_left
          · intro w'
            go_simp
            with_reducible rfl
          rotate_left
          · simp only [Act.put, List.setIfInBounds_toArray, List.set_cons_zero, List.set_cons_succ, i64_w, i32_w]
            rfl
          refine pure_ (i := 22) (N := some 60) (v := ?_) (a' := ?_) #[true, true, false, true, false, false, false, true, false, true, false, false, false, false, true, false, true, false, true, false, false, false, true, false, false, false, false, false, false, false, false] rfl rfl (by kernel_rfl) (fun _ _ _ h => h) (Or.inl ⟨by rfl, ?_⟩) ?_ ?_
          rotate_left
          · intro w'
            go_simp
            with_reducible rfl
          rotate_left
          · simp only [Act.put, List.setIfInBounds_toArray, List.set_cons_zero, List.set_cons_succ, i64_w, i32_w]
            rfl
          refine pure_ (i := 24) (N := some 62) (v := ?_) (a' := ?_) #[true, true, false, true, false, false, false, true, false, true, false, false, false, false, true, false, true, false, true, false, false, false, true, false, true, false, false, false, false, false, false] rfl rfl (by kernel_rfl) (fun _ _ _ h => h) (Or.inl ⟨by rfl, ?_⟩) ?_ ?_
          rotate_left
          · intro w'
            go_simp
            with_reducible rfl
          rotate_left
          · simp only [Act.put, List.setIfInBounds_toArray, List.set_cons_zero, List.set_cons_succ, i64_w, i32_w]
            rfl
          refine take_ (i := 2) (N := some 40) (v := ?_) (a' := ?_) #[true, true, true, true, false, false, false, true, false, true, false, false, false, false, true, false, true, false, true, false, false, false, true, false, true, false, false, false, false, false, false] rfl rfl (by kernel_rfl) (fun _ _ _ h => h) (Or.inl ⟨by rfl, ?_⟩) hHeld ?_ ?_
          rotate_left
          · rintro w' ⟨s0, s1, s2, s3, s4, s5⟩
            go_simp
            with_reducible rfl
          rotate_left
          · simp only [Act.put, List.setIfInBounds_toArray, List.set_cons_zero, List.set_cons_succ, i64_w, i32_w]
            rfl
          refine pure_ (i := 4) (N := some 42) (v := ?_) (a' := ?_) #[true, true, true, true, true, false, false, true, false, true, false, false, false, false, true, false, true, false, true, false, false, false, true, false, true, false, false, false, false, false, false] rfl rfl (by kernel_rfl) (fun _ _ _ h => h) (Or.inl ⟨by rfl, ?_⟩) ?_ ?_
          rotate_left
          · intro w'
            go_simp
            with_reducible rfl
          rotate_left
          · simp only [Act.put, List.setIfInBounds_toArray, List.set_cons_zero, List.set_cons_succ, i64_w, i32_w]
            rfl
          refine pure_ (i := 5) (N := some 43) (v := ?_) (a' := ?_) #[true, true, true, true, true, true, false, true, false, true, false, false, false, false, true, false, true, false, true, false, false, false, true, false, true, false, false, false, false, false, false] rfl rfl (by kernel_rfl) (fun _ _ _ h => h) (Or.inl ⟨by rfl, ?_⟩) ?_ ?_
          rotate_left
          · intro w'
            go_simp
            with_reducible rfl
          rotate_left
          · simp only [Act.put, List.setIfInBounds_toArray, List.set_cons_zero, List.set_cons_succ, i64_w, i32_w]
            rfl
          refine take_ (i := 6) (N := some 44) (v := ?_) (a' := ?_) #[true, true, true, true, true, true, true, true, false, true, false, false, false, false, true, false, true, false, true, false, false, false, true, false, true, false, false, false, false, false, false] rfl rfl (by kernel_rfl) (fun _ _ _ h => h) (Or.inl ⟨by rfl, ?_⟩) hHeld ?_ ?_
          rotate_left
          · rintro w' ⟨s0, s1, s2, s3, s4, s5⟩
            go_simp
            with_reducible rfl
          rotate_left
          · simp only [Act.put, List.setIfInBounds_toArray, List.set_cons_zero, List.set_cons_succ, i64_w, i32_w]
            rfl
          refine take_ (i := 8) (N := some 46) (v := ?_) (a' := ?_) #[true, true, true, true, true, true, true, true, true, true, false, false, false, false, true, false, true, false, true, false, false, false, true, false, true, false, false, false, false, false, false] rfl rfl (by kernel_rfl) (fun _ _ _ h => h) (Or.inl ⟨by rfl, ?_⟩) hHeld ?_ ?_
          rotate_left
          · rintro w' ⟨s0, s1, s2, s3, s4, s5⟩
            go_simp
            with_reducible rfl
          rotate_left
          · simp only [Act.put, List.setIfInBounds_toArray, List.set_cons_zero, List.set_cons_succ, i64_w, i32_w]
            rfl
          refine pure_ (i := 10) (N := some 48) (v := ?_) (a' := ?_) #[true, true, true, true, true, true, true, true, true, true, true, false, false, false, true, false, true, false, true, false, false, false, true, false, true, false, false, false, false, false, false] rfl rfl (by kernel_rfl) (fun _ _ _ h => h) (Or.inl ⟨by rfl, ?_⟩) ?_ ?_
          rotate_left
          · intro w'
            go_simp
            with_reducible rfl
          rotate_left
          · simp only [Act.put, List.setIfInBounds_toArray, List.set_cons_zero, List.set_cons_succ, i64_w, i32_w]
            rfl
          refine pure_ (i := 11) (N := some 49) (v := ?_) (a' := ?_) #[true, true, true, true, true, true, true, true, true, true, true, true, false, false, true, false, true, false, true, false, false, false, true, false, true, false, false, false, false, false, false] rfl rfl (by kernel_rfl) (fun _ _ _ h => h) (Or.inl ⟨by rfl, ?_⟩) ?_ ?_
          rotate_left
          · intro w'
            go_simp
            with_reducible rfl
          rotate_left
          · simp only [Act.put, List.setIfInBounds_toArray, List.set_cons_zero, List.set_cons_succ, i64_w, i32_w]
            rfl
          refine take_ (i := 12) (N := some 50) (v := ?_) (a' := ?_) #[true, true, true, true, true, true, true, true, true, true, true, true, true, false, true, false, true, false, true, false, false, false, true, false, true, false, false, false, false, false, false] rfl rfl (by kernel_rfl) (fun _ _ _ h => h) (Or.inl ⟨by rfl, ?_⟩) hHeld ?_ ?_
          rotate_left
          · rintro w' ⟨s0, s1, s2, s3, s4, s5⟩
            go_simp
            with_reducible rfl
          rotate_left
          · simp only [Act.put, List.setIfInBounds_toArray, List.set_cons_zero, List.set_cons_succ, i64_w, i32_w]
            rfl
          refine take_ (i := 15) (N := some 53) (v := ?_) (a' := ?_) #[true, true, true, true, true, true, true, true, true, true, true, true, true, false, true, true, true, false, true, false, false, false, true, false, true, false, false, false, false, false, false] rfl rfl (by kernel_rfl) (fun _ _ _ h => h) (Or.inl ⟨by rfl, ?_⟩) hHeld ?_ ?_
          rotate_left
          · rintro w' ⟨s0, s1, s2, s3, s4, s5⟩
            go_simp
            with_reducible rfl
          rotate_left
          · simp only [Act.put, List.setIfInBounds_toArray, List.set_cons_zero, List.set_cons_succ, i64_w, i32_w]
            rfl
          refine take_ (i := 17) (N := some 55) (v := ?_) (a' := ?_) #[true, true, true, true, true, true, true, true, true, true, true, true, true, false, true, true, true, true, true, false, false, false, true, false, true, false, false, false, false, false, false] rfl rfl (by kernel_rfl) (fun _ _ _ h => h) (Or.inl ⟨by rfl, ?_⟩) hHeld ?_ ?_
          rotate_left
          · rintro w' ⟨s0, s1, s2, s3, s4, s5⟩
            go_simp
            with_reducible rfl
          rotate_left
          · simp only [Act.put, List.setIfInBounds_toArray, List.set_cons_zero, List.set_cons_succ, i64_w, i32_w]
            rfl
          refine pure_ (i := 19) (N := some 57) (v := ?_) (a' := ?_) #[true, true, true, true, true, true, true, true, true, true, true, true, true, false, true, true, true, true, true, true, false, false, true, false, true, false, false, false, false, false, false] rfl rfl (by kernel_rfl) (fun _ _ _ h => h) (Or.inl ⟨by rfl, ?_⟩) ?_ ?_
          rotate_left
          · intro w'
            go_simp
            with_reducible rfl
          rotate_left
          · simp only [Act.put, List.setIfInBounds_toArray, List.set_cons_zero, List.set_cons_succ, i64_w, i32_w]
            rfl
          refine pure_ (i := 20) (N := some 58) (v := ?_) (a' := ?_) #[true, true, true, true, true, true, true, true, true, true, true, true, true, false, true, true, true, true, true, true, true, false, true, false, true, false, false, false, false, false, false] rfl rfl (by kernel_rfl) (fun _ _ _ h => h) (Or.inl ⟨by rfl, ?_⟩) ?_ ?_
          rotate_left
          · intro w'
            go_simp
            with_reducible rfl
          rotate_left
          · simp only [Act.put, List.setIfInBounds_toArray, List.set_cons_zero, List.set_cons_succ, i64_w, i32_w]
            rfl
          refine take_ (i := 21) (N := some 59) (v := ?_) (a' := ?_) #[true, true, true, true, true, true, true, true, true, true, true, true, true, false, true, true, true, true, true, true, true, true, true, false, true, false, false, false, false, false, false] rfl rfl (by kernel_rfl) (fun _ _ _ h => h) (Or.inl ⟨by rfl, ?_⟩) hHeld ?_ ?_
          rotate_left
          · rintro w' ⟨s0, s1, s2, s3, s4, s5⟩
            go_simp
            with_reducible rfl
          rotate_left
          · simp only [Act.put, List.setIfInBounds_toArray, List.set_cons_zero, List.set_cons_succ, i64_w, i32_w]
            rfl
          refine take_ (i := 23) (N := some 61) (v := ?_) (a' := ?_) #[true, true, true, true, true, true, true, true, true, true, true, true, true, false, true, true, true, true, true, true, true, true, true, true, true, false, false, false, false, false, false] rfl rfl (by kernel_rfl) (fun _ _ _ h => h) (Or.inl ⟨by rfl, ?_⟩) hHeld ?_ ?_
          rotate_left
          · rintro w' ⟨s0, s1, s2, s3, s4, s5⟩
            go_simp
            with_reducible rfl
          rotate_left
          · simp only [Act.put, List.setIfInBounds_toArray, List.set_cons_zero, List.set_cons_succ, i64_w, i32_w]
            rfl
          refine pure_ (i := 25) (N := some 63) (v := ?_) (a' := ?_) #[true, true, true, true, true, true, true, true, true, true, true, true, true, false, true, true, true, true, true, true, true, true, true, true, true, true, false, false, false, false, false] rfl rfl (by kernel_rfl) (fun _ _ _ h => h) (Or.inl ⟨by rfl, ?_⟩) ?_ ?_
          rotate_left
          · intro w'
            go_simp
            with_reducible rfl
          rotate_left
          · simp only [Act.put, List.setIfInBounds_toArray, List.set_cons_zero, List.set_cons_succ, i64_w, i32_w]
            rfl
          refine pure_ (i := 26) (N := some 64) (v := ?_) (a' := ?_) #[true, true, true, true, true, true, true, true, true, true, true, true, true, false, true, true, true, true, true, true, true, true, true, true, true, true, true, false, false, false, false] rfl rfl (by kernel_rfl) (fun _ _ _ h => h) (Or.inl ⟨by rfl, ?_⟩) ?_ ?_
          rotate_left
          · intro w'
            go_simp
            with_reducible rfl
          rotate_left
          · simp only [Act.put, List.setIfInBounds_toArray, List.set_cons_zero, List.set_cons_succ, i64_w, i32_w]
            rfl
          refine take_ (i := 27) (N := some 65) (v := ?_) (a' := ?_) #[true, true, true, true, true, true, true, true, true, true, true, true, true, false, true, true, true, true, true, true, true, true, true, true, true, true, true, true, false, false, false] rfl rfl (by kernel_rfl) (fun _ _ _ h => h) (Or.inl ⟨by rfl, ?_⟩) hHeld ?_ ?_
          rotate_left
          · rintro w' ⟨s0, s1, s2, s3, s4, s5⟩
            go_simp
            with_reducible rfl
          rotate_left
          · simp only [Act.put, List.setIfInBounds_toArray, List.set_cons_zero, List.set_cons_succ, i64_w, i32_w]
            rfl
          refine one_ (i := 13) (N := some 51) #[true, true, true, true, true, true, true, true, true, true, true, true, true, true, true, true, true, true, true, true, true, true, true, true, true, true, true, true, false, false, false] rfl rfl (by kernel_rfl) (by decide) (fun K hK => ?_)
          refine goes_ Tryz.func51 (by kernel_rfl) rfl #[.pointer (some ⟨g, 0, none⟩), .string a.f4, .int .i64 a.f5] (by rfl) rfl rfl (by simp only [List.map_toArray, List.map_cons, List.map_nil]; rfl) ?_
          with_reducible refine (search51 HM9.out a.f4 a.f5 m (HM0.out _ (below_step HB3.out HB9.out)) HSV.out).mono ?_
          rintro e w10 ⟨A10, c10, rfl, hr10, hC10, hb10⟩
          refine ⟨_, rfl, ?_⟩
          have HR10 := Aside0.mk hr10
          have HC10 := Aside0.mk hC10
          have HB10 : Aside0 (Below w3.heap.size w3 w10) := ⟨below_step HB9.out hb10⟩
          have HV10 : Aside0 (Below w5.heap.size w5 w10) := ⟨below_step HV9.out hb10⟩
          clear hr10 hC10 hb10
          refine hK.out _ _ ⟨(KP.out _ HB10.out).1, (KP.out _ HB10.out).2.1, (KP.out _ HB10.out).2.2.1, (KP.out _ HB10.out).2.2.2.1, (KP.out _ HB10.out).2.2.2.2.1, (KP.out _ HB10.out).2.2.2.2.2⟩ (fun hHeld => ?_)
          clear hK K
          refine norm_ (a' := ?_) ?_ ?_
          rotate_left
          · show Act.put _ (some 51) _ = _
            simp only [Act.put, List.setIfInBounds_toArray, List.set_cons_zero, List.set_cons_succ, i64_w, i32_w]
            rfl
          refine one_ (i := 28) (N := some 66) #[true, true, true, true, true, true, true, true, true, true, true, true, true, true, true, true, true, true, true, true, true, true, true, true, true, true, true, true, true, false, false] rfl rfl (by kernel_rfl) (by decide) (fun K hK => ?_)
          refine goes_ Tryz.func54 (by kernel_rfl) rfl #[.agg #[.int .i64 ix, .slice A1 l.length c1, .slice A2 ss.length c2], .string a.f4, .int .i64 a.f5] (by rfl) rfl rfl (by simp only [List.map_toArray, List.map_cons, List.map_nil]; rfl) ?_
          with_reducible refine (search54 HOO.out.1.docs ix A1 c1 A2 c2 ss a.f4 a.f5 w10 (Kd.C_below HC1.out (below_step HB3.out HB10.out)) HCC.out.1 HSV.out).mono ?_
          rintro e w11 ⟨A11, c11, rfl, hr11, hC11, hb11⟩
          refine ⟨_, rfl, ?_⟩
          have HR11 := Aside0.mk hr11
          have HC11 := Aside0.mk hC11
          have HCA := Aside0.mk (Kd.C_below HC10.out hb11)
          have HB11 : Aside0 (Below w3.heap.size w3 w11) := ⟨below_step HB10.out hb11⟩
          have HV11 : Aside0 (Below w5.heap.size w5 w11) := ⟨below_step HV10.out hb11⟩
          clear hr11 hC11 hb11
          refine hK.out _ _ ⟨(KP.out _ HB11.out).1, (KP.out _ HB11.out).2.1, (KP.out _ HB11.out).2.2.1, (KP.out _ HB11.out).2.2.2.1, (KP.out _ HB11.out).2.2.2.2.1, (KP.out _ HB11.out).2.2.2.2.2⟩ (fun hHeld => ?_)
          clear hK K
          refine norm_ (a' := ?_) ?_ ?_
          rotate_left
          · show Act.put _ (some 66) _ = _
            simp only [Act.put, List.setIfInBounds_toArray, List.set_cons_zero, List.set_cons_succ, i64_w, i32_w]
            rfl
          refine one_ (i := 29) (N := some 67) #[true, true, true, true, true, true, true, true, true, true, true, true, true, true, true, true, true, true, true, true, true, true, true, true, true, true, true, true, true, true, false] rfl rfl (by kernel_rfl) (by decide) (fun K hK => ?_)
          refine goes_ Tryz.func46 (by kernel_rfl) rfl #[.agg #[.int .i64 ev, .int .i64 nv, .slice A10 rv.length c10], .agg #[.int .i64 ev, .int .i64 nv, .slice A11 rv.length c11]] (by rfl) rfl rfl (by simp only [List.map_toArray, List.map_cons, List.map_nil]; rfl) ?_
          with_reducible refine (lecternref0_EqReply.calls ke ev nv A10 c10 rv ev nv A11 c11 rv true w11 HCA.out HR10.out HC11.out HR11.out HEQ.out).mono ?_
          rintro e w12 ⟨rfl, hb12⟩
          refine ⟨_, rfl, ?_⟩
          have HB12 : Aside0 (Below w3.heap.size w3 w12) := ⟨below_step HB11.out hb12⟩
          have HV12 : Aside0 (Below w5.heap.size w5 w12) := ⟨below_step HV11.out hb12⟩
          clear hb12
          refine hK.out _ _ ⟨(KP.out _ HB12.out).1, (KP.out _ HB12.out).2.1, (KP.out _ HB12.out).2.2.1, (KP.out _ HB12.out).2.2.2.1, (KP.out _ HB12.out).2.2.2.2.1, (KP.out _ HB12.out).2.2.2.2.2⟩ (fun hHeld => ?_)
          clear hK K
          refine norm_ (a' := ?_) ?_ ?_
          rotate_left
          · show Act.put _ (some 67) _ = _
            simp only [Act.put, List.setIfInBounds_toArray, List.set_cons_zero, List.set_cons_succ, i64_w, i32_w]
            rfl
          refine pure_ (i := 30) (N := some 68) (v := ?_) (a' := ?_) #[true, true, true, true, true, true, true, true, true, true, true, true, true, true, true, true, true, true, true, true, true, true, true, true, true, true, true, true, true, true, true] rfl rfl (by kernel_rfl) (fun _ _ _ h => h) (Or.inl ⟨by rfl, ?_⟩) ?_ ?_
          rotate_left
          · intro w'
            go_simp
            with_reducible rfl
          rotate_left
          · simp only [Act.put, List.setIfInBounds_toArray, List.set_cons_zero, List.set_cons_succ, i64_w, i32_w]
            rfl
          refine done_ (by kernel_rfl) ?_
          have HBZ : Aside0 (Below w5.heap.size w5 w12) := HV12
          go_wp2_with fail
          go_roundg (gk - 1)
          case measure => have := HIK.out; have := HLT.out; omega
          case rel => exact ⟨i + 1, ⟨by have := HIK.out; have := HLT.out; omega⟩, by rw [hw1], HBZ⟩
        · obtain ⟨k2, hk2⟩ := HOO.out.1.eqs ix
          have HK2 := Aside0.mk hk2
          clear hk2
          have hd1 : decide ((i : Int) < (L.length : Int)) = decide (i < L.length) := by
            by_cases h : i < L.length
            · rw [decide_eq_true h, decide_eq_true (by omega)]
            · rw [decide_eq_false h, decide_eq_false (by omega)]
          have HB9 : Aside0 (Below w3.heap.size w3 wr.drew) := ⟨below_drew1 HBR.out⟩
          have HM9 : Aside0 (Mch wr.drew w3.heap.size U g 64 (pairs l) ix ss) := ⟨HM5.out.below (below_drew1 HBW.out)⟩
          have HQ9 : Aside0 (wr.drew.heap[q]? = some (.cells #[.int .i64 ix, .slice A1 l.length c1, .slice A2 ss.length c2, .slice A3 L.length c3] 63 (0, 0))) := ⟨blk_below HQ3.out HB9.out⟩
          by_cases h1 : i < L.length
          · have hd2 : decide (i < L.length) = true := decide_eq_true h1
            have hd3 : decide ((i : Int) < 20) = false := decide_eq_false (by omega)
            have hd4 : decide (i < 20) = false := decide_eq_false (by omega)
            rw [hd2] at hd1
            clear h1 hlt
            go_upto_region 11 with (fail)
            clear x3
            refine start_ (n := 9) (S := fun w' => w'.cell? ⟨q, 0, none⟩ = some (.int .i64 ix) ∧ w'.cell? ⟨q, 1, none⟩ = some (.slice A1 l.length c1) ∧ w'.cell? ⟨q, 2, none⟩ = some (.slice A2 ss.length c2)) (ds := []) #[false, false, false, false, false, false, false, false, false] (by kernel_rfl) rfl rfl ⟨((blk_cell HQ9.out 0).trans rfl), ((blk_cell HQ9.out 1).trans rfl), ((blk_cell HQ9.out 2).trans rfl)⟩ (fun hHeld => ?_)
            generalize wr.drew = w9 at HB9 HM9 HQ9 hHeld ⊢
            refine pure_ (i := 0) (N := some 69) (v := ?_) (a' := ?_) #[true, false, false, false, false, false, false, false, false] rfl rfl (by kernel_rfl) (fun _ _ _ h => h) (Or.inl ⟨by rfl, ?_⟩) ?_ ?_
            rotate_left
            · intro w'
              go_simp
              with_reducible rfl
            rotate_left
            · simp only [Act.put, List.setIfInBounds_toArray, List.set_cons_zero, List.set_cons_succ, i64_w, i32_w]
              rfl
            refine pure_ (i := 2) (N := some 71) (v := ?_) (a' := ?_) #[true, false, true, false, false, false, false, false, false] rfl rfl (by kernel_rfl) (fun _ _ _ h => h) (Or.inl ⟨by rfl, ?_⟩) ?_ ?_
            rotate_left
            · intro w'
              go_simp
              with_reducible rfl
            rotate_left
            · simp only [Act.put, List.setIfInBounds_toArray, List.set_cons_zero, List.set_cons_succ, i64_w, i32_w]
              rfl
            refine take_ (i := 3) (N := some 72) (v := ?_) (a' := ?_) #[true, false, true, true, false, false, false, false, false] rfl rfl (by kernel_rfl) (fun _ _ _ h => h) (Or.inl ⟨by rfl, ?_⟩) hHeld ?_ ?_
            rotate_left
            · rintro w' ⟨s0, s1, s2⟩
              go_simp
              with_reducible rfl
            rotate_left
            · simp only [Act.put, List.setIfInBounds_toArray, List.set_cons_zero, List.set_cons_succ, i64_w, i32_w]
              rfl
            refine one_ (i := 1) (N := some 70) #[true, true, true, true, false, false, false, false, false] rfl rfl (by kernel_rfl) (by decide) (fun K hK => ?_)
            refine goes_ Tryz.func45 (by kernel_rfl) rfl #[.pointer (some ⟨g, 0, none⟩)] (by rfl) rfl rfl (by simp only [List.map_toArray, List.map_cons, List.map_nil]; rfl) ?_
            with_reducible refine (mstate_calls HM9.out HOO.out.1.len).mono ?_
            rintro e w12 ⟨v1, v2, rfl, hr1, hr2, hb12⟩
            refine ⟨_, rfl, ?_⟩
            rw [docs_pairs] at hr1
            rw [HOO.out.1.noh] at hr2
            obtain ⟨A12, c12, rfl⟩ := Kd.R_slice hr1
            obtain ⟨A13, c13, rfl⟩ := Kd.R_slice (Kd.S_R hr2)
            have HR1 := Aside0.mk (Kd.R_reads' hr1).2
            have HR2 := Aside0.mk (Kd.R_reads' (Kd.S_R hr2)).2
            have HB12 : Aside0 (Below w3.heap.size w3 w12) := ⟨below_step HB9.out hb12⟩
            have HQ12 := Aside0.mk (blk_below HQ9.out hb12)
            clear hb12 hr1 hr2
            refine hK.out _ _ ⟨((blk_cell HQ12.out 0).trans rfl), ((blk_cell HQ12.out 1).trans rfl), ((blk_cell HQ12.out 2).trans rfl)⟩ (fun hHeld => ?_)
            clear hK K
            refine norm_ (a' := ?_) ?_ ?_
            rotate_left
            · show Act.put _ (some 70) _ = _
              simp only [Act.put, List.setIfInBounds_toArray, List.set_cons_zero, List.set_cons_succ, i64_w, i32_w]
              rfl
            refine one_ (i := 4) (N := some 73) #[true, true, true, true, true, false, false, false, false] rfl rfl (by kernel_rfl) (by decide) (fun K hK => ?_)
            refine goes_ Tryz.func52 (by kernel_rfl) rfl #[.agg #[.int .i64 ix, .slice A12 l.length c12, .slice A13 ss.length c13], .agg #[.int .i64 ix, .slice A1 l.length c1, .slice A2 ss.length c2]] (by rfl) rfl rfl (by simp only [List.map_toArray, List.map_cons, List.map_nil]; rfl) ?_
            with_reducible refine (lecternref0_EqState.calls k2 ix A12 c12 l A13 c13 ss ix A1 c1 l A2 c2 ss true w12 HR1.out.2 HR1.out.1 HR2.out.2 HR2.out.1 (Kd.C_below HC1.out (below_step HB3.out HB12.out)) HCC.out.1 (Kd.C_below HC2.out (below_step HB3.out HB12.out)) HCC.out.2.1 HK2.out).mono ?_
            rintro e w13 ⟨rfl, hb13⟩
            refine ⟨_, rfl, ?_⟩
            have HB13 : Aside0 (Below w3.heap.size w3 w13) := ⟨below_step HB12.out hb13⟩
            have HQ13 := Aside0.mk (blk_below HQ12.out hb13)
            clear hb13
            refine hK.out _ _ ⟨((blk_cell HQ13.out 0).trans rfl), ((blk_cell HQ13.out 1).trans rfl), ((blk_cell HQ13.out 2).trans rfl)⟩ (fun hHeld => ?_)
            clear hK K
            refine norm_ (a' := ?_) ?_ ?_
            rotate_left
            · show Act.put _ (some 73) _ = _
              simp only [Act.put, List.setIfInBounds_toArray, List.set_cons_zero, List.set_cons_succ, i64_w, i32_w]
              rfl
            refine pure_ (i := 5) (N := some 74) (v := ?_) (a' := ?_) #[true, true, true, true, true, true, false, false, false] rfl rfl (by kernel_rfl) (fun _ _ _ h => h) (Or.inl ⟨by rfl, ?_⟩) ?_ ?_
            rotate_left
            · intro w'
              go_simp
              with_reducible rfl
            rotate_left
            · simp only [Act.put, List.setIfInBounds_toArray, List.set_cons_zero, List.set_cons_succ, i64_w, i32_w]
              rfl
            refine one_ (i := 6) (N := some 75) #[true, true, true, true, true, true, true, false, false] rfl rfl (by kernel_rfl) (by decide) (fun K hK => ?_)
            refine goes_ Tryz.func47 (by kernel_rfl) rfl #[] (by rfl) rfl rfl (by simp only [List.map_toArray, List.map_cons, List.map_nil]) ?_
            with_reducible refine (wakes47 w13).mono ?_
            rintro e w14 ⟨rfl, hb14⟩
            refine ⟨_, rfl, ?_⟩
            have HB14 : Aside0 (Below w3.heap.size w3 w14) := ⟨below_step HB13.out hb14⟩
            have HQ14 := Aside0.mk (blk_below HQ13.out hb14)
            clear hb14
            refine hK.out _ _ ⟨((blk_cell HQ14.out 0).trans rfl), ((blk_cell HQ14.out 1).trans rfl), ((blk_cell HQ14.out 2).trans rfl)⟩ (fun hHeld => ?_)
            clear hK K
            refine norm_ (a' := ?_) ?_ ?_
            rotate_left
            · show Act.put _ (some 75) _ = _
              simp only [Act.put, List.setIfInBounds_toArray, List.set_cons_zero, List.set_cons_succ, i64_w, i32_w]
              rfl
            refine pure_ (i := 7) (N := some 76) (v := ?_) (a' := ?_) #[true, true, true, true, true, true, true, true, false] rfl rfl (by kernel_rfl) (fun _ _ _ h => h) (Or.inl ⟨by rfl, ?_⟩) ?_ ?_
            rotate_left
            · intro w'
              go_simp
              with_reducible rfl
            rotate_left
            · simp only [Act.put, List.setIfInBounds_toArray, List.set_cons_zero, List.set_cons_succ, i64_w, i32_w]
              rfl
            refine pure_ (i := 8) (N := some 2) (v := ?_) (a' := ?_) #[true, true, true, true, true, true, true, true, true] rfl rfl (by kernel_rfl) (fun _ _ _ h => h) (Or.inl ⟨by rfl, ?_⟩) ?_ ?_
            rotate_left
            · intro w'
              go_simp
              with_reducible rfl
            rotate_left
            · simp only [Act.put, List.setIfInBounds_toArray, List.set_cons_zero, List.set_cons_succ, i64_w, i32_w]
              rfl
            refine done_ (by kernel_rfl) ?_
            go_wp2_with fail
            go_ret
            exact ⟨rfl, below_step HB3.out HB14.out⟩
          · have hd2 : decide (i < L.length) = false := decide_eq_false h1
            rw [hd2] at hd1
            clear h1 hlt
            go_upto_region 11 with (fail)
            clear x3
            refine start_ (n := 9) (S := fun w' => w'.cell? ⟨q, 0, none⟩ = some (.int .i64 ix) ∧ w'.cell? ⟨q, 1, none⟩ = some (.slice A1 l.length c1) ∧ w'.cell? ⟨q, 2, none⟩ = some (.slice A2 ss.length c2)) (ds := []) #[false, false, false, false, false, false, false, false, false] (by kernel_rfl) rfl rfl ⟨((blk_cell HQ9.out 0).trans rfl), ((blk_cell HQ9.out 1).trans rfl), ((blk_cell HQ9.out 2).trans rfl)⟩ (fun hHeld => ?_)
            generalize wr.drew = w9 at HB9 HM9 HQ9 hHeld ⊢
            refine pure_ (i := 0) (N := some 69) (v := ?_) (a' := ?_) #[true, false, false, false, false, false, false, false, false] rfl rfl (by kernel_rfl) (fun _ _ _ h => h) (Or.inl ⟨by rfl, ?_⟩) ?_ ?_
            rotate_left
            · intro w'
              go_simp
              with_reducible rfl
            rotate_left
            · simp only [Act.put, List.setIfInBounds_toArray, List.set_cons_zero, List.set_cons_succ, i64_w, i32_w]
              rfl
            refine pure_ (i := 2) (N := some 71) (v := ?_) (a' := ?_) #[true, false, true, false, false, false, false, false, false] rfl rfl (by kernel_rfl) (fun _ _ _ h => h) (Or.inl ⟨by rfl, ?_⟩) ?_ ?_
            rotate_left
            · intro w'
              go_simp
              with_reducible rfl
            rotate_left
            · simp only [Act.put, List.setIfInBounds_toArray, List.set_cons_zero, List.set_cons_succ, i64_w, i32_w]
              rfl
            refine take_ (i := 3) (N := some 72) (v := ?_) (a' := ?_) #[true, false, true, true, false, false, false, false, false] rfl rfl (by kernel_rfl) (fun _ _ _ h => h) (Or.inl ⟨by rfl, ?_⟩) hHeld ?_ ?_
            rotate_left
            · rintro w' ⟨s0, s1, s2⟩
              go_simp
              with_reducible rfl
            rotate_left
            · simp only [Act.put, List.setIfInBounds_toArray, List.set_cons_zero, List.set_cons_succ, i64_w, i32_w]
              rfl
            refine one_ (i := 1) (N := some 70) #[true, true, true, true, false, false, false, false, false] rfl rfl (by kernel_rfl) (by decide) (fun K hK => ?_)
            refine goes_ Tryz.func45 (by kernel_rfl) rfl #[.pointer (some ⟨g, 0, none⟩)] (by rfl) rfl rfl (by simp only [List.map_toArray, List.map_cons, List.map_nil]; rfl) ?_
            with_reducible refine (mstate_calls HM9.out HOO.out.1.len).mono ?_
            rintro e w12 ⟨v1, v2, rfl, hr1, hr2, hb12⟩
            refine ⟨_, rfl, ?_⟩
            rw [docs_pairs] at hr1
            rw [HOO.out.1.noh] at hr2
            obtain ⟨A12, c12, rfl⟩ := Kd.R_slice hr1
            obtain ⟨A13, c13, rfl⟩ := Kd.R_slice (Kd.S_R hr2)
            have HR1 := Aside0.mk (Kd.R_reads' hr1).2
            have HR2 := Aside0.mk (Kd.R_reads' (Kd.S_R hr2)).2
            have HB12 : Aside0 (Below w3.heap.size w3 w12) := ⟨below_step HB9.out hb12⟩
            have HQ12 := Aside0.mk (blk_below HQ9.out hb12)
            clear hb12 hr1 hr2
            refine hK.out _ _ ⟨((blk_cell HQ12.out 0).trans rfl), ((blk_cell HQ12.out 1).trans rfl), ((blk_cell HQ12.out 2).trans rfl)⟩ (fun hHeld => ?_)
            clear hK K
            refine norm_ (a' := ?_) ?_ ?_
            rotate_left
            · show Act.put _ (some 70) _ = _
              simp only [Act.put, List.setIfInBounds_toArray, List.set_cons_zero, List.set_cons_succ, i64_w, i32_w]
              rfl
            refine one_ (i := 4) (N := some 73) #[true, true, true, true, true, false, false, false, false] rfl rfl (by kernel_rfl) (by decide) (fun K hK => ?_)
            refine goes_ Tryz.func52 (by kernel_rfl) rfl #[.agg #[.int .i64 ix, .slice A12 l.length c12, .slice A13 ss.length c13], .agg #[.int .i64 ix, .slice A1 l.length c1, .slice A2 ss.length c2]] (by rfl) rfl rfl (by simp only [List.map_toArray, List.map_cons, List.map_nil]; rfl) ?_
            with_reducible refine (lecternref0_EqState.calls k2 ix A12 c12 l A13 c13 ss ix A1 c1 l A2 c2 ss true w12 HR1.out.2 HR1.out.1 HR2.out.2 HR2.out.1 (Kd.C_below HC1.out (below_step HB3.out HB12.out)) HCC.out.1 (Kd.C_below HC2.out (below_step HB3.out HB12.out)) HCC.out.2.1 HK2.out).mono ?_
            rintro e w13 ⟨rfl, hb13⟩
            refine ⟨_, rfl, ?_⟩
            have HB13 : Aside0 (Below w3.heap.size w3 w13) := ⟨below_step HB12.out hb13⟩
            have HQ13 := Aside0.mk (blk_below HQ12.out hb13)
            clear hb13
            refine hK.out _ _ ⟨((blk_cell HQ13.out 0).trans rfl), ((blk_cell HQ13.out 1).trans rfl), ((blk_cell HQ13.out 2).trans rfl)⟩ (fun hHeld => ?_)
            clear hK K
            refine norm_ (a' := ?_) ?_ ?_
            rotate_left
            · show Act.put _ (some 73) _ = _
              simp only [Act.put, List.setIfInBounds_toArray, List.set_cons_zero, List.set_cons_succ, i64_w, i32_w]
              rfl
            refine pure_ (i := 5) (N := some 74) (v := ?_) (a' := ?_) #[true, true, true, true, true, true, false, false, false] rfl rfl (by kernel_rfl) (fun _ _ _ h => h) (Or.inl ⟨by rfl, ?_⟩) ?_ ?_
            rotate_left
            · intro w'
              go_simp
              with_reducible rfl
            rotate_left
            · simp only [Act.put, List.setIfInBounds_toArray, List.set_cons_zero, List.set_cons_succ, i64_w, i32_w]
              rfl
            refine one_ (i := 6) (N := some 75) #[true, true, true, true, true, true, true, false, false] rfl rfl (by kernel_rfl) (by decide) (fun K hK => ?_)
            refine goes_ Tryz.func47 (by kernel_rfl) rfl #[] (by rfl) rfl rfl (by simp only [List.map_toArray, List.map_cons, List.map_nil]) ?_
            with_reducible refine (wakes47 w13).mono ?_
            rintro e w14 ⟨rfl, hb14⟩
            refine ⟨_, rfl, ?_⟩
            have HB14 : Aside0 (Below w3.heap.size w3 w14) := ⟨below_step HB13.out hb14⟩
            have HQ14 := Aside0.mk (blk_below HQ13.out hb14)
            clear hb14
            refine hK.out _ _ ⟨((blk_cell HQ14.out 0).trans rfl), ((blk_cell HQ14.out 1).trans rfl), ((blk_cell HQ14.out 2).trans rfl)⟩ (fun hHeld => ?_)
            clear hK K
            refine norm_ (a' := ?_) ?_ ?_
            rotate_left
            · show Act.put _ (some 75) _ = _
              simp only [Act.put, List.setIfInBounds_toArray, List.set_cons_zero, List.set_cons_succ, i64_w, i32_w]
              rfl
            refine pure_ (i := 7) (N := some 76) (v := ?_) (a' := ?_) #[true, true, true, true, true, true, true, true, false] rfl rfl (by kernel_rfl) (fun _ _ _ h => h) (Or.inl ⟨by rfl, ?_⟩) ?_ ?_
            rotate_left
            · intro w'
              go_simp
              with_reducible rfl
            rotate_left
            · simp only [Act.put, List.setIfInBounds_toArray, List.set_cons_zero, List.set_cons_succ, i64_w, i32_w]
              rfl
            refine pure_ (i := 8) (N := some 2) (v := ?_) (a' := ?_) #[true, true, true, true, true, true, true, true, true] rfl rfl (by kernel_rfl) (fun _ _ _ h => h) (Or.inl ⟨by rfl, ?_⟩) ?_ ?_
            rotate_left
            · intro w'
              go_simp
              with_reducible rfl
            rotate_left
            · simp only [Act.put, List.setIfInBounds_toArray, List.set_cons_zero, List.set_cons_succ, i64_w, i32_w]
              rfl
            refine done_ (by kernel_rfl) ?_
            go_wp2_with fail
            go_ret
            exact ⟨rfl, below_step HB3.out HB14.out⟩
  · go_wp2_with fail
    go_ret
    exact ⟨rfl, HB2.out⟩
end Go.Proofs.YtpeldaogdeefeaaGreat.M
