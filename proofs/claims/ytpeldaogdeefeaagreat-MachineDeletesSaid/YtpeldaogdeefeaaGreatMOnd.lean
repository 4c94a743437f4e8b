/- The law's 'only', of the command that deletes a document. -/
import Derived.Test.YtpeldaogdeefeaaGreatMRfd
import Derived.Test.YtpeldaogdeefeaaGreatMG16
import Derived.Test.YtpeldaogdeefeaaGreatMG17
import Derived.Test.YtpeldaogdeefeaaGreatMx42
import Derived.Test.YtpeldaogdeefeaaGreatMx46
import Derived.Test.YtpeldaogdeefeaaGreatMx40
import Derived.Test.YtpeldaogdeefeaaGreatMG11
import Derived.Test.YtpeldaogdeefeaaGreatMx36
import Derived.Test.YtpeldaogdeefeaaGreatMx53
namespace Go.Proofs.YtpeldaogdeefeaaGreat.M
open Go.Proofs.YtpeldaogdeefeaaGreat.H Go.RowKit Go.Maps Go.Sort Go.Proofs.YtpeldaogdeefeaaGreatW.PrintWords Go.Proofs.YtpeldaogdeefeaaGreatW.PrintLast Go.Proofs.YtpeldaogdeefeaaGreatW.PrintMore Go.Proofs.YtpeldaogdeefeaaGreat.Base
set_option linter.unusedVariables false
set_option linter.unusedSimpArgs false
/-- One command's turn: whatever it is, the machine and the reference say the same and stand in the same state. -/
def TurnD (ix k : Int) (l : List S36) (ss : List S140) (a q : Int) (id : ByteArray) : Prop := ∃ (j e0 n0 : Int) (rs : List S140) (ld : List S36), (∀ (W : World) (A1 : Option Addr) (c1 : Nat) (A2 : Option Addr) (c2 : Nat) (S : Nat → Prop), Kd.C k36 W A1 l.length l → l.length ≤ c1 → Kd.C k140 W A2 ss.length ss → ss.length ≤ c2 → (∀ i, S i → i < W.heap.size) → (∀ W', Kept W W' S → Kd.C k36 W' A1 l.length l) → (∀ W', Kept W W' S → Kd.C k140 W' A2 ss.length ss) → Calls Tryz.prog 61 #[.agg #[.int .i64 ix, .slice A1 l.length c1, .slice A2 ss.length c2], .int .i64 k, .agg #[.int .i64 3, .int .i64 a, .int .i64 q, .string id, .string ⟨#[]⟩]] W (RefD W S j ld rs e0 n0)) ∧ EqS j ld rs ∧ rs.map clr = rs ∧ rs.length ≤ 1000000 ∧ (∀ {W : World} {B U g cnt : Nat}, Mch W B U g cnt (pairs l) ix ss → Calls Tryz.prog 43 #[.pointer (some ⟨g, 0, none⟩), .int .i64 k, .agg #[.int .i64 3, .int .i64 a, .int .i64 q, .string id, .string ⟨#[]⟩]] W fun e w' => ∃ A10 c10, e = .returned (.agg #[.int .i64 e0, .int .i64 n0, .slice A10 0 c10]) ∧ Mch w' B U g cnt (pairs ld) j rs ∧ Below B W w' ∧ (∀ i, i < W.heap.size → i ≠ g → (i < B ∨ U ≤ i) → w'.heap[i]? = W.heap[i]?))
theorem delA_ok {l : List S36} (h : DocsOk l) {ss : List S140} (hm : mayP ss) (a q : Int) (id : Bs) (k : Int) : noHits (delA (pairs l) ss a q id k).1.2 ∧ (delA (pairs l) ss a q id k).1.2.length ≤ 8 ∧ DocsOk (docs (delA (pairs l) ss a q id k).2) := by
  unfold delA
  split
  · split
    · exact ⟨noHits_may hm, hm.2, by rw [docs_pairs]; exact h⟩
    · exact ⟨noHits_done _ _ _ _ _ _, by rw [done_len]; exact hm.2, docsOk_delV h id⟩
  · exact ⟨noHits_may hm, hm.2, by rw [docs_pairs]; exact h⟩
theorem turnD (ix k : Int) (l : List S36) (ss : List S140) (a q : Int) (id : ByteArray) (hid : id.size ≤ 140737488351232) (h : OnlyOk ix l ss) (hm : mayP ss) : TurnD ix k l ss a q id := by
  have hfew := h.docs.few
  by_cases hk : (ix < k ∧ 1 ≤ k ∧ k < 1099511627776) ∧ mayD a q id = true
  · obtain ⟨kc, hcs⟩ := h.copy
    obtain ⟨h1, h2, h3⟩ := delA_ok h.docs hm a q id.data.toList k
    have h4 := h3.few
    refine ⟨k, _, _, _, _, fun W A1 c1 A2 c2 S x b c d e f h' => rfd_yes x b c d e f h' k a q id hid hm h.docs hk.1 hk.2 kc hcs, eqS_is k _ _ (by omega) (by omega) h1, clr_all h1, by omega, fun hm' => (apd_yes hm' k a q id hid hm hk.2 hk.1).mono ?_⟩
    rintro e w' ⟨A, c, rfl, g1, g2, g3⟩
    exact ⟨A, c, rfl, by rw [pairs_docs]; exact g1, g2, g3⟩
  · refine ⟨ix, 1, 0, ss, l, fun W A1 c1 A2 c2 S x b c d e f h' => rfd_no x b c d e f h' k a q id hid (fun h1 => Bool.eq_false_iff.2 (fun h2 => hk ⟨h1, h2⟩)), h.eqs ix, h.noh, h.len, fun hm' => ?_⟩
    cases hv : mayD a q id
    · refine (apd_form hm' k a q id hid hv).mono ?_
      rintro e w' ⟨rfl, hb⟩
      exact ⟨_, _, rfl, hm'.below hb, hb.mono (Nat.le_trans hm'.size.2 hm'.size.1), fun i hi _ _ => hb.block i hi⟩
    · refine (apd_no hm' k a q id hid hv (fun h1 => hk ⟨h1, hv⟩)).mono ?_
      rintro e w' ⟨rfl, hb⟩
      exact ⟨_, _, rfl, hm'.below hb, hb.mono (Nat.le_trans hm'.size.2 hm'.size.1), fun i hi _ _ => hb.block i hi⟩
set_option maxRecDepth 100000 in
set_option maxHeartbeats 1600000 in
theorem only_del (ix : Int) (l : List S36) (ss : List S140) (L : List S75) (A1 A2 A3 : Option Addr) (c1 c2 c3 : Nat) (w : World) (hC1 : Kd.C k36 w A1 l.length l) (hc1 : l.length ≤ c1) (hC2 : Kd.C k140 w A2 ss.length ss) (hc2 : ss.length ≤ c2) (hC3 : Kd.C k75 w A3 L.length L) (hc3 : L.length ≤ c3)
    (kh : Nat) (hb : Bool) (hheavy : lecternlaw15_Heavy.f kh ix l ss L = some hb) (ks : Nat) (sb : Bool) (hst : lecternref14_State.f ks ix l ss = some sb) (hok : sb = true → OnlyOk ix l ss ∧ mayP ss)
    (hids : ∀ i : Nat, i < L.length → (rd_T75 L (i : Int)).f3.f3.size ≤ 140737488351232) (hix : ∀ a : S75, ∃ r, lecternlaw15_index.f ix l ss a.f0 a.f1 a.f2 a.f3.f0 a.f3.f1 a.f3.f2 a.f3.f3 a.f3.f4 a.f4 a.f5 = some r) :
    Calls Tryz.prog 40 #[.agg #[.int .i64 ix, .slice A1 l.length c1, .slice A2 ss.length c2, .slice A3 L.length c3], .int .i64 3] w fun e w' => e = .returned (.bool true) ∧ Below w.heap.size w w' := by
  have HC1 := Aside0.mk hC1
  have HC2 := Aside0.mk hC2
  have HC3 := Aside0.mk hC3
  have HCC := Aside0.mk (And.intro hc1 (And.intro hc2 hc3))
  have HHV := Aside0.mk hheavy
  have HST := Aside0.mk hst
  have HOK := Aside0.mk hok
  have HIX := Aside0.mk hix
  have HIDS := Aside0.mk hids
  have hu63 := Tryz.underlying63
  have hu60 := Tryz.underlying60
  have hu73 := Tryz.underlying73
  clear hC1 hC2 hC3 hc1 hc2 hc3 hheavy hst hok hix hids
  go_enter Tryz.func40, Tryz.ntmps40
  go_upto_region 1 with (fail)
  have hq := heap_alloc_new w (.cells #[.int .i64 ix, .slice A1 l.length c1, .slice A2 ss.length c2, .slice A3 L.length c3] 63)
  have hB1 : Below w.heap.size w (w.alloc (.cells #[.int .i64 ix, .slice A1 l.length c1, .slice A2 ss.length c2, .slice A3 L.length c3] 63)) := below_alloc (Below.refl _ _) _
  obtain ⟨q, hqe⟩ : ∃ b, b = w.heap.size := ⟨_, rfl⟩
  obtain ⟨w1, hw1⟩ : ∃ z, z = w.alloc (.cells #[.int .i64 ix, .slice A1 l.length c1, .slice A2 ss.length c2, .slice A3 L.length c3] 63) := ⟨_, rfl⟩
  rw [← hqe, ← hw1] at hq ⊢
  rw [← hw1] at hB1
  have HQ1 := Aside0.mk hq
  have HB1 := Aside0.mk hB1
  have x0 : w1.cell? ⟨q, 0, none⟩ = some (.int .i64 ix) := (blk_cell hq 0).trans rfl
  have x1 : w1.cell? ⟨q, 1, none⟩ = some (.slice A1 l.length c1) := (blk_cell hq 1).trans rfl
  have x2 : w1.cell? ⟨q, 2, none⟩ = some (.slice A2 ss.length c2) := (blk_cell hq 2).trans rfl
  have x3 : w1.cell? ⟨q, 3, none⟩ = some (.slice A3 L.length c3) := (blk_cell hq 3).trans rfl
  clear hq hB1 hw1 hqe
  go_wp2_with fail
  refine (lecternlaw15_Heavy.calls kh ix A1 c1 l A2 c2 ss A3 c3 L hb w1 (Kd.C_below HC1.out HB1.out) HCC.out.1 (Kd.C_below HC2.out HB1.out) HCC.out.2.1 (Kd.C_below HC3.out HB1.out) HCC.out.2.2 HHV.out).mono ?_
  rintro e w2 ⟨rfl, hb2⟩
  have HB2 : Aside0 (Below w.heap.size w w2) := ⟨below_step HB1.out hb2⟩
  have hq2 := blk_below HQ1.out hb2
  have HQ2 := Aside0.mk hq2
  clear x0 x1 x2 x3
  have x0 : w2.cell? ⟨q, 0, none⟩ = some (.int .i64 ix) := (blk_cell hq2 0).trans rfl
  have x1 : w2.cell? ⟨q, 1, none⟩ = some (.slice A1 l.length c1) := (blk_cell hq2 1).trans rfl
  have x2 : w2.cell? ⟨q, 2, none⟩ = some (.slice A2 ss.length c2) := (blk_cell hq2 2).trans rfl
  clear hb2 hq2
  cases hb
  · go_wp2_with fail
    refine (lecternref14_State.calls ks ix A1 c1 l A2 c2 ss sb w2 (Kd.C_below HC1.out HB2.out) HCC.out.1 (Kd.C_below HC2.out HB2.out) HCC.out.2.1 HST.out).mono ?_
    rintro e w3 ⟨rfl, hb3⟩
    have HB3 : Aside0 (Below w.heap.size w w3) := ⟨below_step HB2.out hb3⟩
    have HQ3 := Aside0.mk (blk_below HQ2.out hb3)
    clear hb3 x0 x1 x2
    cases sb
    · go_wp2_with fail
      go_ret
      exact ⟨rfl, HB3.out⟩
    · have HOO := Aside0.mk (HOK.out rfl)
      clear HHV HST HOK HQ1 HQ2 HB1 HB2
      go_wp2_with fail
      go_loopg [5] 10 (fun kq v5 w' => ∃ i : Nat, Aside0 (i + kq = 10) ∧ v5 = .int .i64 i ∧ Aside0 (Below w3.heap.size w3 w'))
      case atStart => exact ⟨0, ⟨by omega⟩, rfl, ⟨Below.refl _ _⟩⟩
      case round =>
        obtain ⟨i, HIK, rfl, HBW⟩ := hrel
        have x3 : wr.cell? ⟨q, 3, none⟩ = some (.slice A3 L.length c3) := (blk_cell (blk_below HQ3.out HBW.out) 3).trans rfl
        have hw1 : wrap64 ((i : Int) + 1) = ((i + 1 : Nat) : Int) := wrn i (by have := HIK.out; omega)
        have HBR : Aside0 (Below w.heap.size w wr) := ⟨below_step HB3.out HBW.out⟩
        by_cases hlt : i < L.length ∧ i < 10
        · have hd1 : decide ((i : Int) < (L.length : Int)) = true := decide_eq_true (by omega)
          have hd2 : decide (i < L.length) = true := decide_eq_true hlt.1
          have hd3 : decide ((i : Int) < 10) = true := decide_eq_true (by omega)
          have hd4 : decide (i < 10) = true := decide_eq_true hlt.2
          have HLT := Aside0.mk hlt
          obtain ⟨ad, eA, k0, k1, k2, k3, k4, k5, k6, k7, k8, k9⟩ := at_T75 HC3.out (i : Int) (by omega) (by omega)
          rw [Int.toNat_natCast] at k0 k1 k2 k3 k4 k5 k6 k7 k8 k9
          obtain ⟨a, ha⟩ : ∃ a, a = rd_T75 L (i : Int) := ⟨_, rfl⟩
          have HIDA : Aside0 (a.f3.f3.size ≤ 140737488351232) := ⟨by rw [ha]; exact HIDS.out i HLT.out.1⟩
          rw [← ha] at k0 k1 k2 k3 k4 k5 k6 k7 k8 k9
          obtain ⟨pa, hpa⟩ : ∃ z, z = ad.add (i * 10) := ⟨_, rfl⟩
          have KA : Aside0 (∀ W, Below w.heap.size w W → W.cell? (ad.add (i * 10)) = some (.int .i64 a.f0) ∧ W.cell? ⟨(ad.add (i * 10)).block, (ad.add (i * 10)).off + 1, none⟩ = some (.int .i64 a.f1) ∧ W.cell? ⟨(ad.add (i * 10)).block, (ad.add (i * 10)).off + 2, none⟩ = some (.bool a.f2) ∧ W.cell? ⟨(ad.add (i * 10)).block, (ad.add (i * 10)).off + 3, none⟩ = some (.int .i64 a.f3.f0) ∧ W.cell? ⟨(ad.add (i * 10)).block, (ad.add (i * 10)).off + 4, none⟩ = some (.int .i64 a.f3.f1) ∧ W.cell? ⟨(ad.add (i * 10)).block, (ad.add (i * 10)).off + 5, none⟩ = some (.int .i64 a.f3.f2) ∧ W.cell? ⟨(ad.add (i * 10)).block, (ad.add (i * 10)).off + 6, none⟩ = some (.string a.f3.f3) ∧ W.cell? ⟨(ad.add (i * 10)).block, (ad.add (i * 10)).off + 7, none⟩ = some (.string a.f3.f4) ∧ W.cell? ⟨(ad.add (i * 10)).block, (ad.add (i * 10)).off + 8, none⟩ = some (.string a.f4) ∧ W.cell? ⟨(ad.add (i * 10)).block, (ad.add (i * 10)).off + 9, none⟩ = some (.int .i64 a.f5)) := ⟨fun W hb => by
            have cc : ∀ {A : Addr} {v : Value}, w.cell? A = some v → W.cell? A = some v := fun h => (hb.cell (World.block_lt_of_cell? w _ h)).trans h
            exact ⟨cc k0, cc k1, cc k2, cc k3, cc k4, cc k5, cc k6, cc k7, cc k8, cc k9⟩⟩
          clear k0 k1 k2 k3 k4 k5 k6 k7 k8 k9 hlt ha hpa
          obtain ⟨_, _, _, y3, y4, y5, y6, y7, _, _⟩ := KA.out wr HBR.out
          have q0 : ((i : Int) < (L.length : Int)) = True := eq_true (by have := HLT.out.1; omega)
          have p0 : ((0 : Int) ≤ (i : Int)) = True := eq_true (by omega)
          subst eA
          go_upto_region 14 with (fail)
          have hcb := heap_alloc_new wr (.cells #[.int .i64 3, .int .i64 a.f3.f1, .int .i64 a.f3.f2, .string a.f3.f3, .string ⟨#[]⟩] 73)
          have hb4 : Below wr.heap.size wr (wr.alloc (.cells #[.int .i64 3, .int .i64 a.f3.f1, .int .i64 a.f3.f2, .string a.f3.f3, .string ⟨#[]⟩] 73)) := below_alloc (Below.refl _ _) _
          obtain ⟨p, hpe⟩ : ∃ b, b = wr.heap.size := ⟨_, rfl⟩
          obtain ⟨w4, hw4⟩ : ∃ z, z = wr.alloc (.cells #[.int .i64 3, .int .i64 a.f3.f1, .int .i64 a.f3.f2, .string a.f3.f3, .string ⟨#[]⟩] 73) := ⟨_, rfl⟩
          rw [← hpe, ← hw4] at hcb ⊢
          rw [← hw4] at hb4
          have HP4 := Aside0.mk hcb
          have HB4 : Aside0 (Below w3.heap.size w3 w4) := ⟨below_step HBW.out hb4⟩
          have hq4 := blk_below HQ3.out HB4.out
          have HQ4 := Aside0.mk hq4
          clear x3 y3 y4 y5 y6 y7 hcb hb4 hw4 hpe
          have x0 : w4.cell? ⟨q, 0, none⟩ = some (.int .i64 ix) := (blk_cell hq4 0).trans rfl
          have x1 : w4.cell? ⟨q, 1, none⟩ = some (.slice A1 l.length c1) := (blk_cell hq4 1).trans rfl
          have x2 : w4.cell? ⟨q, 2, none⟩ = some (.slice A2 ss.length c2) := (blk_cell hq4 2).trans rfl
          clear hq4
          go_wp2_with fail
          obtain ⟨km, hmay⟩ := HOO.out.1.may
          refine (mnew_calls ix A1 c1 l A2 c2 ss w4 (Kd.C_below HC1.out (below_step HB3.out HB4.out)) HCC.out.1 (Kd.C_below HC2.out (below_step HB3.out HB4.out)) HCC.out.2.1 HOO.out.1.docs km hmay HOO.out.1.len).mono ?_
          rintro e w5 ⟨g, U, rfl, hm5, hb5⟩
          rw [HOO.out.1.noh] at hm5
          have HM5 := Aside0.mk hm5
          have HB5 : Aside0 (Below w3.heap.size w3 w5) := ⟨below_step HB4.out hb5⟩
          have HP5 := Aside0.mk (blk_below HP4.out hb5)
          have HSZ : Aside0 (w4.heap.size ≤ w5.heap.size) := ⟨hb5.size⟩
          clear hm5 hb5 x0 x1 x2 hmay
          go_wp2_with fail
          refine (num42 0 w5).mono ?_
          rintro e w' ⟨rfl, hww⟩
          have hww' : w5 = w' := hww.symm
          clear hww
          subst hww'
          go_wp2_with fail
          obtain ⟨r, hr⟩ := HIX.out a
          have HR := Aside0.mk hr
          clear hr
          have KP : Aside0 (∀ W, Below w5.heap.size w5 W → W.cell? ⟨q, 0, none⟩ = some (.int .i64 ix) ∧ W.cell? ⟨q, 1, none⟩ = some (.slice A1 l.length c1) ∧ W.cell? ⟨q, 2, none⟩ = some (.slice A2 ss.length c2) ∧ W.cell? ⟨q, 3, none⟩ = some (.slice (some ad) L.length c3) ∧ W.cell? (ad.add (i * 10)) = some (.int .i64 a.f0) ∧ W.cell? ⟨(ad.add (i * 10)).block, (ad.add (i * 10)).off + 1, none⟩ = some (.int .i64 a.f1) ∧ W.cell? ⟨(ad.add (i * 10)).block, (ad.add (i * 10)).off + 2, none⟩ = some (.bool a.f2) ∧ W.cell? ⟨(ad.add (i * 10)).block, (ad.add (i * 10)).off + 3, none⟩ = some (.int .i64 a.f3.f0) ∧ W.cell? ⟨(ad.add (i * 10)).block, (ad.add (i * 10)).off + 4, none⟩ = some (.int .i64 a.f3.f1) ∧ W.cell? ⟨(ad.add (i * 10)).block, (ad.add (i * 10)).off + 5, none⟩ = some (.int .i64 a.f3.f2) ∧ W.cell? ⟨(ad.add (i * 10)).block, (ad.add (i * 10)).off + 6, none⟩ = some (.string a.f3.f3) ∧ W.cell? ⟨(ad.add (i * 10)).block, (ad.add (i * 10)).off + 7, none⟩ = some (.string a.f3.f4) ∧ W.cell? ⟨(ad.add (i * 10)).block, (ad.add (i * 10)).off + 8, none⟩ = some (.string a.f4) ∧ W.cell? ⟨(ad.add (i * 10)).block, (ad.add (i * 10)).off + 9, none⟩ = some (.int .i64 a.f5)) := ⟨fun W hb => by
            have hq := blk_below HQ3.out (below_step HB5.out hb)
            exact ⟨(blk_cell hq 0).trans rfl, (blk_cell hq 1).trans rfl, (blk_cell hq 2).trans rfl, (blk_cell hq 3).trans rfl, KA.out W (below_step HB3.out (below_step HB5.out hb))⟩⟩
          have H50 : Aside0 (∀ W, Below w5.heap.size w5 W → Calls Tryz.prog 50 #[.agg #[.int .i64 ix, .slice A1 l.length c1, .slice A2 ss.length c2], .agg #[.int .i64 a.f0, .int .i64 a.f1, .bool a.f2, .int .i64 a.f3.f0, .int .i64 a.f3.f1, .int .i64 a.f3.f2, .string a.f3.f3, .string a.f3.f4, .string a.f4, .int .i64 a.f5]] W fun e w' => e = .returned (.int .i64 r) ∧ (w'.cell? ⟨q, 0, none⟩ = some (.int .i64 ix) ∧ w'.cell? ⟨q, 1, none⟩ = some (.slice A1 l.length c1) ∧ w'.cell? ⟨q, 2, none⟩ = some (.slice A2 ss.length c2) ∧ w'.cell? ⟨q, 3, none⟩ = some (.slice (some ad) L.length c3) ∧ w'.cell? (ad.add (i * 10)) = some (.int .i64 a.f0) ∧ w'.cell? ⟨(ad.add (i * 10)).block, (ad.add (i * 10)).off + 1, none⟩ = some (.int .i64 a.f1) ∧ w'.cell? ⟨(ad.add (i * 10)).block, (ad.add (i * 10)).off + 2, none⟩ = some (.bool a.f2) ∧ w'.cell? ⟨(ad.add (i * 10)).block, (ad.add (i * 10)).off + 3, none⟩ = some (.int .i64 a.f3.f0) ∧ w'.cell? ⟨(ad.add (i * 10)).block, (ad.add (i * 10)).off + 4, none⟩ = some (.int .i64 a.f3.f1) ∧ w'.cell? ⟨(ad.add (i * 10)).block, (ad.add (i * 10)).off + 5, none⟩ = some (.int .i64 a.f3.f2) ∧ w'.cell? ⟨(ad.add (i * 10)).block, (ad.add (i * 10)).off + 6, none⟩ = some (.string a.f3.f3) ∧ w'.cell? ⟨(ad.add (i * 10)).block, (ad.add (i * 10)).off + 7, none⟩ = some (.string a.f3.f4) ∧ w'.cell? ⟨(ad.add (i * 10)).block, (ad.add (i * 10)).off + 8, none⟩ = some (.string a.f4) ∧ w'.cell? ⟨(ad.add (i * 10)).block, (ad.add (i * 10)).off + 9, none⟩ = some (.int .i64 a.f5)) ∧ Below w5.heap.size w5 w') := ⟨fun W hb => by
            refine (lecternlaw15_index.calls ix A1 c1 l A2 c2 ss a.f0 a.f1 a.f2 a.f3.f0 a.f3.f1 a.f3.f2 a.f3.f3 a.f3.f4 a.f4 a.f5 r W (Kd.C_below HC1.out (below_step HB3.out (below_step HB5.out hb))) HCC.out.1 (Kd.C_below HC2.out (below_step HB3.out (below_step HB5.out hb))) HCC.out.2.1 HR.out).mono ?_
            rintro e w' ⟨rfl, h2⟩
            exact ⟨rfl, KP.out w' (below_step hb h2), below_step hb h2⟩⟩
          go_region_held3 (fun w' => w'.cell? ⟨q, 0, none⟩ = some (.int .i64 ix) ∧ w'.cell? ⟨q, 1, none⟩ = some (.slice A1 l.length c1) ∧ w'.cell? ⟨q, 2, none⟩ = some (.slice A2 ss.length c2) ∧ w'.cell? ⟨q, 3, none⟩ = some (.slice (some ad) L.length c3) ∧ w'.cell? (ad.add (i * 10)) = some (.int .i64 a.f0) ∧ w'.cell? ⟨(ad.add (i * 10)).block, (ad.add (i * 10)).off + 1, none⟩ = some (.int .i64 a.f1) ∧ w'.cell? ⟨(ad.add (i * 10)).block, (ad.add (i * 10)).off + 2, none⟩ = some (.bool a.f2) ∧ w'.cell? ⟨(ad.add (i * 10)).block, (ad.add (i * 10)).off + 3, none⟩ = some (.int .i64 a.f3.f0) ∧ w'.cell? ⟨(ad.add (i * 10)).block, (ad.add (i * 10)).off + 4, none⟩ = some (.int .i64 a.f3.f1) ∧ w'.cell? ⟨(ad.add (i * 10)).block, (ad.add (i * 10)).off + 5, none⟩ = some (.int .i64 a.f3.f2) ∧ w'.cell? ⟨(ad.add (i * 10)).block, (ad.add (i * 10)).off + 6, none⟩ = some (.string a.f3.f3) ∧ w'.cell? ⟨(ad.add (i * 10)).block, (ad.add (i * 10)).off + 7, none⟩ = some (.string a.f3.f4) ∧ w'.cell? ⟨(ad.add (i * 10)).block, (ad.add (i * 10)).off + 8, none⟩ = some (.string a.f4) ∧ w'.cell? ⟨(ad.add (i * 10)).block, (ad.add (i * 10)).off + 9, none⟩ = some (.int .i64 a.f5))
            (first | exact (Aside0.out ‹Aside0 (_ ∧ _)›) | exact KP.out _ (by repeat (first | exact Below.refl _ _ | exact (Aside0.out ‹Aside0 (Below _ _ _)›) | apply pw_below_drewN | apply below_drew1 | apply below_alloc)))
            (first
              | (go_at_call 50; refine (H50.out _ (by repeat (first | exact Below.refl _ _ | apply pw_below_drewN | apply below_drew1))).mono ?_; rintro e w6 ⟨rfl, hS6, h2⟩; have HS6 := Aside0.mk hS6; have HB6 := Aside0.mk h2; clear hS6 h2))
          clear H50 KP
          obtain ⟨j, e0, n0, rs, ld, href, heq, hnoh, hlen, happ⟩ := turnD ix r l ss a.f3.f1 a.f3.f2 a.f3.f3 HIDA.out HOO.out.1 HOO.out.2
          have HEQ := Aside0.mk heq
          have HNO := Aside0.mk (And.intro hnoh hlen)
          have HAP := Aside0.mk @happ
          have HM6 := Aside0.mk (HM5.out.below HB6.out)
          have hp6 := blk_below HP5.out HB6.out
          have HP6 := Aside0.mk hp6
          have hb36 := below_step HB5.out HB6.out
          have HB36 := Aside0.mk hb36
          have hbw6 := below_step HB3.out hb36
          have hq6 := blk_below HQ3.out hb36
          obtain ⟨gs6, vs6, hg6, -, -⟩ := HM6.out.ex
          have hgw : w.heap.size ≤ g := by
            have h1 := HM5.out.size.2
            have h2 := HM5.out.lo
            have h3 := HB3.out.size
            have h4 := HB4.out.size
            omega
          have hSB : ∀ i, (i = g ∨ (w4.heap.size ≤ i ∧ i < U)) → w.heap.size ≤ i := fun i hi => by
            have h3 := HB3.out.size
            have h4 := HB4.out.size
            rcases hi with rfl | hi
            · exact hgw
            · omega
          have hSL : ∀ i, (i = g ∨ (w4.heap.size ≤ i ∧ i < U)) → i < w6.heap.size := fun i hi => by
            have h1 := blk_lt hg6
            have h2 := HM6.out.size.1
            rcases hi with rfl | hi
            · exact h1
            · omega
          have hs1 : ∀ W', Kept w6 W' (fun i => i = g ∨ (w4.heap.size ≤ i ∧ i < U)) → Kd.C k36 W' A1 l.length l := Kd.C_kept_came k36_heap HC1.out hbw6 hSB
          have hs2 : ∀ W', Kept w6 W' (fun i => i = g ∨ (w4.heap.size ≤ i ∧ i < U)) → Kd.C k140 W' A2 ss.length ss := Kd.C_kept_came k140_heap HC2.out hbw6 hSB
          have HRF := Aside0.mk (href w6 A1 c1 A2 c2 _ (Kd.C_below HC1.out hbw6) HCC.out.1 (Kd.C_below HC2.out hbw6) HCC.out.2.1 hSL hs1 hs2)
          clear href heq hnoh hlen happ hb36 hs1 hs2 hSB hSL hgw hg6 HS6
          have x0 : w6.cell? ⟨q, 0, none⟩ = some (.int .i64 ix) := (blk_cell hq6 0).trans rfl
          have x1 : w6.cell? ⟨q, 1, none⟩ = some (.slice A1 l.length c1) := (blk_cell hq6 1).trans rfl
          have x2 : w6.cell? ⟨q, 2, none⟩ = some (.slice A2 ss.length c2) := (blk_cell hq6 2).trans rfl
          have z0 : w6.cell? ⟨p, 0, none⟩ = some (.int .i64 3) := (blk_cell hp6 0).trans rfl
          have z1 : w6.cell? ⟨p, 1, none⟩ = some (.int .i64 a.f3.f1) := (blk_cell hp6 1).trans rfl
          have z2 : w6.cell? ⟨p, 2, none⟩ = some (.int .i64 a.f3.f2) := (blk_cell hp6 2).trans rfl
          have z3 : w6.cell? ⟨p, 3, none⟩ = some (.string a.f3.f3) := (blk_cell hp6 3).trans rfl
          have z4 : w6.cell? ⟨p, 4, none⟩ = some (.string ⟨#[]⟩) := (blk_cell hp6 4).trans rfl
          clear hp6 hq6 hbw6
          go_wp2_with fail
          refine HRF.out.mono ?_
          rintro e w7 ⟨A7, c7, A8, c8, A9, c9, rfl, hl7, hC7, hl8, hC8, hb7⟩
          have HL78 := Aside0.mk (And.intro hl7 hl8)
          have HC7 := Aside0.mk hC7
          have HC8 := Aside0.mk hC8
          have HB7 := Aside0.mk hb7
          clear hl7 hl8 hC7 hC8 hb7 x0 x1 x2 z0 z1 z2 z3 z4 HRF
          go_upto_region 19 with (fail)
          obtain ⟨s, hse⟩ : ∃ b, b = w7.heap.size := ⟨_, rfl⟩
          obtain ⟨t, hte⟩ : ∃ b, b = w7.heap.size + 1 := ⟨_, rfl⟩
          obtain ⟨wa, hwa⟩ : ∃ z, z = w7.alloc (.cells #[.int .i64 j, .slice A7 ld.length c7, .slice A8 rs.length c8] 60) := ⟨_, rfl⟩
          obtain ⟨w8, hw8⟩ : ∃ z, z = wa.alloc (.cells #[.int .i64 e0, .int .i64 n0, .slice A9 0 c9] 70) := ⟨_, rfl⟩
          have hsa : wa.heap.size = w7.heap.size + 1 := by rw [hwa]; exact Array.size_push _
          have hs8 : w8.heap[s]? = some (.cells #[.int .i64 j, .slice A7 ld.length c7, .slice A8 rs.length c8] 60 (0, 0)) := by rw [hw8]; refine blk_alloc ?_ _; rw [hwa, hse]; exact heap_alloc_new w7 _
          have ht8 : w8.heap[t]? = some (.cells #[.int .i64 e0, .int .i64 n0, .slice A9 0 c9] 70 (0, 0)) := by rw [hw8, hte, ← hsa]; exact heap_alloc_new wa _
          have hb78 : Below w7.heap.size w7 w8 := by rw [hw8, hwa]; exact below_alloc (below_alloc (Below.refl _ _) _) _
          try rw [← hte]
          rw [← hse, ← hwa, ← hw8]
          have hb79 := below_drew hb78
          have HS9 : Aside0 (w8.drew.heap[s]? = some (.cells #[.int .i64 j, .slice A7 ld.length c7, .slice A8 rs.length c8] 60 (0, 0))) := ⟨blk_drew hs8⟩
          have HT9 : Aside0 (w8.drew.heap[t]? = some (.cells #[.int .i64 e0, .int .i64 n0, .slice A9 0 c9] 70 (0, 0))) := ⟨blk_drew ht8⟩
          have HB9 : Aside0 (Below w6.heap.size w6 w8.drew) := ⟨below_step HB7.out hb79⟩
          have HP9 : Aside0 (w8.drew.heap[p]? = some (.cells #[.int .i64 3, .int .i64 a.f3.f1, .int .i64 a.f3.f2, .string a.f3.f3, .string ⟨#[]⟩] 73 (0, 0))) := ⟨blk_below HP6.out HB9.out⟩
          have HM9 := Aside0.mk (HM6.out.below HB9.out)
          have HC79 : Aside0 (∀ W', Kept w8.drew W' (fun i => i = g ∨ (w4.heap.size ≤ i ∧ i < U)) → Kd.C k36 W' A7 ld.length ld) := ⟨fun W' hw => HC7.out W' ⟨Nat.le_trans hb79.size hw.1, fun i hi hne => (hw.2 i (Nat.lt_of_lt_of_le hi hb79.size) hne).trans (hb79.block i hi)⟩⟩
          have HC89 : Aside0 (∀ W', Kept w8.drew W' (fun i => i = g ∨ (w4.heap.size ≤ i ∧ i < U)) → Kd.C k140 W' A8 rs.length rs) := ⟨fun W' hw => HC8.out W' ⟨Nat.le_trans hb79.size hw.1, fun i hi hne => (hw.2 i (Nat.lt_of_lt_of_le hi hb79.size) hne).trans (hb79.block i hi)⟩⟩
          obtain ⟨k2, hk2⟩ := HEQ.out
          have HK2 := Aside0.mk hk2
          have HU9 : Aside0 (w3.heap.size ≤ w4.heap.size) := ⟨HB4.out.size⟩
          have HSU : Aside0 (p < w4.heap.size ∧ U ≤ s ∧ U ≤ t) := ⟨by have h1 := HM6.out.size.1; have h2 := HB7.out.size; have h3 := blk_lt HP4.out; omega⟩
          clear hse hte hwa hw8 hsa hs8 ht8 hb78 hb79 hk2
          refine start_ (n := 14) (S := fun w' => w'.cell? ⟨p, 0, none⟩ = some (.int .i64 3) ∧ w'.cell? ⟨p, 1, none⟩ = some (.int .i64 a.f3.f1) ∧ w'.cell? ⟨p, 2, none⟩ = some (.int .i64 a.f3.f2) ∧ w'.cell? ⟨p, 3, none⟩ = some (.string a.f3.f3) ∧ w'.cell? ⟨p, 4, none⟩ = some (.string ⟨#[]⟩) ∧ w'.cell? ⟨t, 0, none⟩ = some (.int .i64 e0) ∧ w'.cell? ⟨t, 1, none⟩ = some (.int .i64 n0) ∧ w'.cell? ⟨t, 2, none⟩ = some (.slice A9 0 c9) ∧ w'.cell? ⟨s, 0, none⟩ = some (.int .i64 j) ∧ w'.cell? ⟨s, 1, none⟩ = some (.slice A7 ld.length c7) ∧ w'.cell? ⟨s, 2, none⟩ = some (.slice A8 rs.length c8)) (ds := []) #[false, false, false, false, false, false, false, false, false, false, false, false, false, false] (by kernel_rfl) rfl rfl ⟨((blk_cell HP9.out 0).trans rfl), ((blk_cell HP9.out 1).trans rfl), ((blk_cell HP9.out 2).trans rfl), ((blk_cell HP9.out 3).trans rfl), ((blk_cell HP9.out 4).trans rfl), ((blk_cell HT9.out 0).trans rfl), ((blk_cell HT9.out 1).trans rfl), ((blk_cell HT9.out 2).trans rfl), ((blk_cell HS9.out 0).trans rfl), ((blk_cell HS9.out 1).trans rfl), ((blk_cell HS9.out 2).trans rfl)⟩ (fun hHeld => ?_)
          generalize w8.drew = w9 at HB9 HS9 HT9 HP9 HM9 HC79 HC89 hHeld ⊢
          refine pure_ (i := 0) (N := some 82) (v := ?_) (a' := ?_) #[true, false, false, false, false, false, false, false, false, false, false, false, false, false] rfl rfl (by kernel_rfl) (fun _ _ _ h => h) (Or.inl ⟨by rfl, ?_⟩) ?_ ?_
          rotate_left
          · intro w'
            go_simp
            with_reducible rfl
          rotate_left
          · simp only [Act.put, List.setIfInBounds_toArray, List.set_cons_zero, List.set_cons_succ, i64_w, i32_w]
            rfl
          refine pure_ (i := 1) (N := some 83) (v := ?_) (a' := ?_) #[true, true, false, false, false, false, false, false, false, false, false, false, false, false] rfl rfl (by kernel_rfl) (fun _ _ _ h => h) (Or.inl ⟨by rfl, ?_⟩) ?_ ?_
          rotate_left
          · intro w'
            go_simp
            with_reducible rfl
          rotate_left
          · simp only [Act.put, List.setIfInBounds_toArray, List.set_cons_zero, List.set_cons_succ, i64_w, i32_w]
            rfl
          refine take_ (i := 2) (N := some 84) (v := ?_) (a' := ?_) #[true, true, true, false, false, false, false, false, false, false, false, false, false, false] rfl rfl (by kernel_rfl) (fun _ _ _ h => h) (Or.inl ⟨by rfl, ?_⟩) hHeld ?_ ?_
          rotate_left
          · rintro w' ⟨s0, s1, s2, s3, s4, s5, s6, s7, s8, s9, s10⟩
            go_simp
            with_reducible rfl
          rotate_left
          · simp only [Act.put, List.setIfInBounds_toArray, List.set_cons_zero, List.set_cons_succ, i64_w, i32_w]
            rfl
          refine take_ (i := 4) (N := some 86) (v := ?_) (a' := ?_) #[true, true, true, false, true, false, false, false, false, false, false, false, false, false] rfl rfl (by kernel_rfl) (fun _ _ _ h => h) (Or.inl ⟨by rfl, ?_⟩) hHeld ?_ ?_
          rotate_left
          · rintro w' ⟨s0, s1, s2, s3, s4, s5, s6, s7, s8, s9, s10⟩
            go_simp
            with_reducible rfl
          rotate_left
          · simp only [Act.put, List.setIfInBounds_toArray, List.set_cons_zero, List.set_cons_succ, i64_w, i32_w]
            rfl
          refine one_ (i := 3) (N := some 85) #[true, true, true, true, true, false, false, false, false, false, false, false, false, false] rfl rfl (by kernel_rfl) (by decide) (fun K hK => ?_)
          refine goes_ Tryz.func43 (by kernel_rfl) rfl #[.pointer (some ⟨g, 0, none⟩), .int .i64 r, .agg #[.int .i64 3, .int .i64 a.f3.f1, .int .i64 a.f3.f2, .string a.f3.f3, .string ⟨#[]⟩]] (by rfl) rfl rfl (by simp only [List.map_toArray, List.map_cons, List.map_nil]; rfl) ?_
          with_reducible refine (HAP.out HM9.out).mono ?_
          rintro e w10 ⟨A10, c10, rfl, hm10, hb10, hk10⟩
          refine ⟨_, rfl, ?_⟩
          obtain ⟨_, _, hg9, _, _⟩ := HM9.out.ex
          have HP10 := Aside0.mk ((hk10 p (blk_lt HP9.out) (blk_ne HP9.out hg9 (by decide)) (.inl HSU.out.1)).trans HP9.out)
          have HT10 := Aside0.mk ((hk10 t (blk_lt HT9.out) (blk_ne HT9.out hg9 (by decide)) (.inr HSU.out.2.2)).trans HT9.out)
          have HS10 := Aside0.mk ((hk10 s (blk_lt HS9.out) (blk_ne HS9.out hg9 (by decide)) (.inr HSU.out.2.1)).trans HS9.out)
          have HM10 := Aside0.mk hm10
          have HB10 := Aside0.mk hb10
          have HC710 := Aside0.mk (HC79.out w10 ⟨hb10.size, fun i hi hne => hk10 i hi (fun e => hne (.inl e)) (by have : ¬ (w4.heap.size ≤ i ∧ i < U) := fun e => hne (.inr e); omega)⟩)
          have HC810 := Aside0.mk (HC89.out w10 ⟨hb10.size, fun i hi hne => hk10 i hi (fun e => hne (.inl e)) (by have : ¬ (w4.heap.size ≤ i ∧ i < U) := fun e => hne (.inr e); omega)⟩)
          clear hm10 hb10 hk10 hg9
          refine hK.out _ _ ⟨((blk_cell HP10.out 0).trans rfl), ((blk_cell HP10.out 1).trans rfl), ((blk_cell HP10.out 2).trans rfl), ((blk_cell HP10.out 3).trans rfl), ((blk_cell HP10.out 4).trans rfl), ((blk_cell HT10.out 0).trans rfl), ((blk_cell HT10.out 1).trans rfl), ((blk_cell HT10.out 2).trans rfl), ((blk_cell HS10.out 0).trans rfl), ((blk_cell HS10.out 1).trans rfl), ((blk_cell HS10.out 2).trans rfl)⟩ (fun hHeld => ?_)
          clear hK K
          refine norm_ (a' := ?_) ?_ ?_
          rotate_left
          · show Act.put _ (some 85) _ = _
            simp only [Act.put, List.setIfInBounds_toArray, List.set_cons_zero, List.set_cons_succ, i64_w, i32_w]
            rfl
          refine one_ (i := 5) (N := some 87) #[true, true, true, true, true, true, false, false, false, false, false, false, false, false] rfl rfl (by kernel_rfl) (by decide) (fun K hK => ?_)
          refine goes_ Tryz.func46 (by kernel_rfl) rfl #[.agg #[.int .i64 e0, .int .i64 n0, .slice A10 0 c10], .agg #[.int .i64 e0, .int .i64 n0, .slice A9 0 c9]] (by rfl) rfl rfl (by simp only [List.map_toArray, List.map_cons, List.map_nil]; rfl) ?_
          with_reducible refine (reply_hits e0 n0 A10 c10 A9 c9 w10).mono ?_
          rintro e w11 ⟨rfl, hb11⟩
          refine ⟨_, rfl, ?_⟩
          have HB11 := Aside0.mk hb11
          have HP11 := Aside0.mk (blk_below HP10.out hb11)
          have HT11 := Aside0.mk (blk_below HT10.out hb11)
          have HS11 := Aside0.mk (blk_below HS10.out hb11)
          clear hb11
          refine hK.out _ _ ⟨((blk_cell HP11.out 0).trans rfl), ((blk_cell HP11.out 1).trans rfl), ((blk_cell HP11.out 2).trans rfl), ((blk_cell HP11.out 3).trans rfl), ((blk_cell HP11.out 4).trans rfl), ((blk_cell HT11.out 0).trans rfl), ((blk_cell HT11.out 1).trans rfl), ((blk_cell HT11.out 2).trans rfl), ((blk_cell HS11.out 0).trans rfl), ((blk_cell HS11.out 1).trans rfl), ((blk_cell HS11.out 2).trans rfl)⟩ (fun hHeld => ?_)
          clear hK K
          refine norm_ (a' := ?_) ?_ ?_
          rotate_left
          · show Act.put _ (some 87) _ = _
            simp only [Act.put, List.setIfInBounds_toArray, List.set_cons_zero, List.set_cons_succ, i64_w, i32_w]
            rfl
          refine pure_ (i := 6) (N := some 88) (v := ?_) (a' := ?_) #[true, true, true, true, true, true, true, false, false, false, false, false, false, false] rfl rfl (by kernel_rfl) (fun _ _ _ h => h) (Or.inl ⟨by rfl, ?_⟩) ?_ ?_
          rotate_left
          · intro w'
            go_simp
            with_reducible rfl
          rotate_left
          · simp only [Act.put, List.setIfInBounds_toArray, List.set_cons_zero, List.set_cons_succ, i64_w, i32_w]
            rfl
          refine pure_ (i := 7) (N := some 89) (v := ?_) (a' := ?_) #[true, true, true, true, true, true, true, true, false, false, false, false, false, false] rfl rfl (by kernel_rfl) (fun _ _ _ h => h) (Or.inl ⟨by rfl, ?_⟩) ?_ ?_
          rotate_left
          · intro w'
            go_simp
            with_reducible rfl
          rotate_left
          · simp only [Act.put, List.setIfInBounds_toArray, List.set_cons_zero, List.set_cons_succ, i64_w, i32_w]
            rfl
          refine pure_ (i := 8) (N := some 90) (v := ?_) (a' := ?_) #[true, true, true, true, true, true, true, true, true, false, false, false, false, false] rfl rfl (by kernel_rfl) (fun _ _ _ h => h) (Or.inl ⟨by rfl, ?_⟩) ?_ ?_
          rotate_left
          · intro w'
            go_simp
            with_reducible rfl
          rotate_left
          · simp only [Act.put, List.setIfInBounds_toArray, List.set_cons_zero, List.set_cons_succ, i64_w, i32_w]
            rfl
          refine take_ (i := 10) (N := some 92) (v := ?_) (a' := ?_) #[true, true, true, true, true, true, true, true, true, false, true, false, false, false] rfl rfl (by kernel_rfl) (fun _ _ _ h => h) (Or.inl ⟨by rfl, ?_⟩) hHeld ?_ ?_
          rotate_left
          · rintro w' ⟨s0, s1, s2, s3, s4, s5, s6, s7, s8, s9, s10⟩
            go_simp
            with_reducible rfl
          rotate_left
          · simp only [Act.put, List.setIfInBounds_toArray, List.set_cons_zero, List.set_cons_succ, i64_w, i32_w]
            rfl
          refine one_ (i := 9) (N := some 91) #[true, true, true, true, true, true, true, true, true, true, true, false, false, false] rfl rfl (by kernel_rfl) (by decide) (fun K hK => ?_)
          refine goes_ Tryz.func45 (by kernel_rfl) rfl #[.pointer (some ⟨g, 0, none⟩)] (by rfl) rfl rfl (by simp only [List.map_toArray, List.map_cons, List.map_nil]; rfl) ?_
          with_reducible refine (mstate_calls (HM10.out.below HB11.out) HNO.out.2).mono ?_
          rintro e w12 ⟨v1, v2, rfl, hr1, hr2, hb12⟩
          refine ⟨_, rfl, ?_⟩
          rw [docs_pairs] at hr1
          rw [HNO.out.1] at hr2
          obtain ⟨A12, c12, rfl⟩ := Kd.R_slice hr1
          obtain ⟨A13, c13, rfl⟩ := Kd.R_slice (Kd.S_R hr2)
          have HR1 := Aside0.mk (Kd.R_reads' hr1).2
          have HR2 := Aside0.mk (Kd.R_reads' (Kd.S_R hr2)).2
          have HB12 := Aside0.mk hb12
          have HP12 := Aside0.mk (blk_below HP11.out hb12)
          have HT12 := Aside0.mk (blk_below HT11.out hb12)
          have HS12 := Aside0.mk (blk_below HS11.out hb12)
          clear hb12 hr1 hr2
          refine hK.out _ _ ⟨((blk_cell HP12.out 0).trans rfl), ((blk_cell HP12.out 1).trans rfl), ((blk_cell HP12.out 2).trans rfl), ((blk_cell HP12.out 3).trans rfl), ((blk_cell HP12.out 4).trans rfl), ((blk_cell HT12.out 0).trans rfl), ((blk_cell HT12.out 1).trans rfl), ((blk_cell HT12.out 2).trans rfl), ((blk_cell HS12.out 0).trans rfl), ((blk_cell HS12.out 1).trans rfl), ((blk_cell HS12.out 2).trans rfl)⟩ (fun hHeld => ?_)
          clear hK K
          refine norm_ (a' := ?_) ?_ ?_
          rotate_left
          · show Act.put _ (some 91) _ = _
            simp only [Act.put, List.setIfInBounds_toArray, List.set_cons_zero, List.set_cons_succ, i64_w, i32_w]
            rfl
          refine one_ (i := 11) (N := some 93) #[true, true, true, true, true, true, true, true, true, true, true, true, false, false] rfl rfl (by kernel_rfl) (by decide) (fun K hK => ?_)
          refine goes_ Tryz.func52 (by kernel_rfl) rfl #[.agg #[.int .i64 j, .slice A12 ld.length c12, .slice A13 rs.length c13], .agg #[.int .i64 j, .slice A7 ld.length c7, .slice A8 rs.length c8]] (by rfl) rfl rfl (by simp only [List.map_toArray, List.map_cons, List.map_nil]; rfl) ?_
          with_reducible refine (lecternref0_EqState.calls k2 j A12 c12 ld A13 c13 rs j A7 c7 ld A8 c8 rs true w12 HR1.out.2 HR1.out.1 HR2.out.2 HR2.out.1 (Kd.C_below (Kd.C_below HC710.out HB11.out) HB12.out) HL78.out.1 (Kd.C_below (Kd.C_below HC810.out HB11.out) HB12.out) HL78.out.2 HK2.out).mono ?_
          rintro e w13 ⟨rfl, hb13⟩
          refine ⟨_, rfl, ?_⟩
          have HB13 := Aside0.mk hb13
          have HP13 := Aside0.mk (blk_below HP12.out hb13)
          have HT13 := Aside0.mk (blk_below HT12.out hb13)
          have HS13 := Aside0.mk (blk_below HS12.out hb13)
          clear hb13
          refine hK.out _ _ ⟨((blk_cell HP13.out 0).trans rfl), ((blk_cell HP13.out 1).trans rfl), ((blk_cell HP13.out 2).trans rfl), ((blk_cell HP13.out 3).trans rfl), ((blk_cell HP13.out 4).trans rfl), ((blk_cell HT13.out 0).trans rfl), ((blk_cell HT13.out 1).trans rfl), ((blk_cell HT13.out 2).trans rfl), ((blk_cell HS13.out 0).trans rfl), ((blk_cell HS13.out 1).trans rfl), ((blk_cell HS13.out 2).trans rfl)⟩ (fun hHeld => ?_)
          clear hK K
          refine norm_ (a' := ?_) ?_ ?_
          rotate_left
          · show Act.put _ (some 93) _ = _
            simp only [Act.put, List.setIfInBounds_toArray, List.set_cons_zero, List.set_cons_succ, i64_w, i32_w]
            rfl
          refine pure_ (i := 12) (N := some 94) (v := ?_) (a' := ?_) #[true, true, true, true, true, true, true, true, true, true, true, true, true, false] rfl rfl (by kernel_rfl) (fun _ _ _ h => h) (Or.inl ⟨by rfl, ?_⟩) ?_ ?_
          rotate_left
          · intro w'
            go_simp
            with_reducible rfl
          rotate_left
          · simp only [Act.put, List.setIfInBounds_toArray, List.set_cons_zero, List.set_cons_succ, i64_w, i32_w]
            rfl
          refine pure_ (i := 13) (N := some 95) (v := ?_) (a' := ?_) #[true, true, true, true, true, true, true, true, true, true, true, true, true, true] rfl rfl (by kernel_rfl) (fun _ _ _ h => h) (Or.inl ⟨by rfl, ?_⟩) ?_ ?_
          rotate_left
          · intro w'
            go_simp
            with_reducible rfl
          rotate_left
          · simp only [Act.put, List.setIfInBounds_toArray, List.set_cons_zero, List.set_cons_succ, i64_w, i32_w]
            rfl
          refine done_ (by kernel_rfl) ?_
          have hbz := below_step (below_step (below_step ((below_step HB36.out HB9.out).trans (HB10.out.mono HU9.out)) HB11.out) HB12.out) HB13.out
          have HBZ := Aside0.mk hbz
          clear hbz
          go_wp2_with fail
          go_roundg (gk - 1)
          case measure => have := HIK.out; have := HLT.out; omega
          case rel => exact ⟨i + 1, ⟨by have := HIK.out; have := HLT.out; omega⟩, by rw [hw1], HBZ⟩
        · have hd1 : decide ((i : Int) < (L.length : Int)) = decide (i < L.length) := by
            by_cases h : i < L.length
            · rw [decide_eq_true h, decide_eq_true (by omega)]
            · rw [decide_eq_false h, decide_eq_false (by omega)]
          by_cases h1 : i < L.length
          · have hd2 : decide (i < L.length) = true := decide_eq_true h1
            have hd3 : decide ((i : Int) < 10) = false := decide_eq_false (by omega)
            have hd4 : decide (i < 10) = false := decide_eq_false (by omega)
            rw [hd2] at hd1
            clear h1 hlt
            go_wp2_with fail
            refine (wakes47 wr).mono ?_
            rintro e w9 ⟨rfl, hb9⟩
            go_wp2_with fail
            go_ret
            exact ⟨rfl, below_step HBR.out hb9⟩
          · have hd2 : decide (i < L.length) = false := decide_eq_false h1
            rw [hd2] at hd1
            clear h1 hlt
            go_wp2_with fail
            refine (wakes47 wr).mono ?_
            rintro e w9 ⟨rfl, hb9⟩
            go_wp2_with fail
            go_ret
            exact ⟨rfl, below_step HBR.out hb9⟩
  · go_wp2_with fail
    go_ret
    exact ⟨rfl, HB2.out⟩
set_option maxRecDepth 100000 in
theorem deletes_walk (ix : Int) (l : List S36) (ss : List S140) (L : List S75) (A1 A2 A3 : Option Addr) (c1 c2 c3 : Nat) (w : World) (hC1 : Kd.C k36 w A1 l.length l) (hc1 : l.length ≤ c1) (hC2 : Kd.C k140 w A2 ss.length ss) (hc2 : ss.length ≤ c2) (hC3 : Kd.C k75 w A3 L.length L) (hc3 : L.length ≤ c3)
    (kh : Nat) (hb : Bool) (hheavy : lecternlaw15_Heavy.f kh ix l ss L = some hb) (ks : Nat) (sb : Bool) (hst : lecternref14_State.f ks ix l ss = some sb) (hok : sb = true → OnlyOk ix l ss ∧ mayP ss)
    (hids : ∀ i : Nat, i < L.length → (rd_T75 L (i : Int)).f3.f3.size ≤ 140737488351232) (hix : ∀ a : S75, ∃ r, lecternlaw15_index.f ix l ss a.f0 a.f1 a.f2 a.f3.f0 a.f3.f1 a.f3.f2 a.f3.f3 a.f3.f4 a.f4 a.f5 = some r) :
    Calls Tryz.prog 12 #[.agg #[.int .i64 ix, .slice A1 l.length c1, .slice A2 ss.length c2, .slice A3 L.length c3]] w fun e w' => e = .returned (.bool true) ∧ Below w.heap.size w w' := by
  have hu63 := Tryz.underlying63
  have hb1 : Below w.heap.size w (w.alloc (.cells #[.int .i64 ix, .slice A1 l.length c1, .slice A2 ss.length c2, .slice A3 L.length c3] 63)) := below_alloc (Below.refl _ _) _
  have HO := Aside0.mk (only_del ix l ss L A1 A2 A3 c1 c2 c3 (w.alloc (.cells #[.int .i64 ix, .slice A1 l.length c1, .slice A2 ss.length c2, .slice A3 L.length c3] 63)) (Kd.C_below hC1 hb1) hc1 (Kd.C_below hC2 hb1) hc2 (Kd.C_below hC3 hb1) hc3 kh hb hheavy ks sb hst hok hids hix)
  have HB1 := Aside0.mk hb1
  clear hC1 hc1 hC2 hc2 hC3 hc3 hheavy hst hok hix hids hb1
  go_enter Tryz.func12, Tryz.ntmps12
  go_wp2_with fail
  refine HO.out.mono ?_
  rintro e w2 ⟨rfl, hb2⟩
  go_wp2_with fail
  go_ret
  exact ⟨rfl, below_step HB1.out hb2⟩
end Go.Proofs.YtpeldaogdeefeaaGreat.M
