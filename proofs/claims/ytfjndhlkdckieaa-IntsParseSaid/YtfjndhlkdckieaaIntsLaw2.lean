/- IntsParse, walked. -/
import Derived.Test.YtfjndhlkdckieaaIntsLaw
namespace Go.Proofs.Ytfjndhlkdckieaa.I
open Go.RowKit Go.Proofs.YtfjndhlkdckieaaW.PrintWords Go.Proofs.YtfjndhlkdckieaaW.PrintLast Go.Proofs.YtfjndhlkdckieaaW.PrintMore Go.Proofs.Ytfjndhlkdckieaa.Opening Go.Proofs.Ytfjndhlkdckieaa.Base Go.Proofs.Ytfjndhlkdckieaa.Bits
set_option linter.unusedVariables false
set_option linter.unusedSimpArgs false

set_option maxHeartbeats 2000000 in
set_option maxRecDepth 100000 in
theorem parse_walk (A : Option Addr) (c : Nat) (l : List Ask) (w : World) (hC : Kd.C kAsk w A l.length l) (hc : l.length ≤ c) (ok : l.length * 64 ≤ 140737488351232 ∧ ∀ x ∈ l, AOk x) :
    Calls Try.prog 9 #[.slice A l.length c] w fun e w' => e = .returned (.bool true) ∧ Below w.heap.size w w' := by
  have HC := Aside0.mk hC
  have HOK := Aside0.mk ok.2
  have hlen : l.length ≤ 140737488351232 := by omega
  clear hC ok
  have hu44 := Try.underlying44
  have hu57 := Try.underlying57
  go_enter Try.func9, Try.ntmps9
  go_wp2_with fail
  go_loopg [3, 4, 5, 6, 7, 8, 9] l.length (fun kq v3 v4 v5 v6 v7 v8 v9 w' => ∃ i : Nat, v3 = .int .i64 (i : Int) ∧ Aside0 (kq + i = l.length) ∧ Aside0 (Below w.heap.size w w'))
  case atStart => exact ⟨0, rfl, ⟨by omega⟩, ⟨Below.refl _ _⟩⟩
  case round =>
    obtain ⟨i, rfl, HK, HB⟩ := hrel
    have done : ∀ (w2 : World), Below w.heap.size w w2 → ∀ e w', (e = Ending.returned (.bool true) ∧ Below w2.heap.size w2 w') → e = Ending.returned (.bool true) ∧ Below w.heap.size w w' := fun w2 h2 e w' h => ⟨h.1, below_then h2 h2.size h.2⟩
    have HD := Aside0.mk done
    clear done
    by_cases hi : i < l.length
    · by_cases h8 : i < 8
      · have hb8 : decide ((i : Int) < 8) = true := decide_eq_true (by omega)
        obtain ⟨ad, A1, c1, A3, c3, rfl, hx0, hx1, hx2, hx3, hl1, hC1, hl3, hC3⟩ := at_ask (Kd.C_below HC.out HB.out) i hi
        have hok := HOK.out _ (List.getElem_mem hi)
        have HU := Aside0.mk hok.u64
        have HAB := Aside0.mk hok.bytes
        generalize (l[i]).w = pw at *
        generalize (l[i]).l = pl at *
        generalize (l[i]).n = pn at *
        generalize (l[i]).b = pb at *
        have HL1 := Aside0.mk hl1
        have HL3 := Aside0.mk hl3
        have HC1 := Aside0.mk hC1
        have HC3 := Aside0.mk hC3
        clear hok hl1 hl3 hC1 hC3
        go_wp2_with fail
        generalize hG0 : wr.heap.size = g0 at *
        have hg0 : (wr.alloc (.cells #[.int .i64 pw, .slice A1 pl.length c1, .int .i64 pn, .slice A3 pb.length c3] 44)).heap[g0]? = some (.cells #[.int .i64 pw, .slice A1 pl.length c1, .int .i64 pn, .slice A3 pb.length c3] 44 (0, 0)) := by rw [← hG0]; exact heap_alloc_new wr _
        have hB1 : Below w.heap.size w (wr.alloc (.cells #[.int .i64 pw, .slice A1 pl.length c1, .int .i64 pn, .slice A3 pb.length c3] 44)) := HB.out.alloc HB.out.size _
        have HC1' := Aside0.mk (Kd.C_alloc HC1.out (.cells #[.int .i64 pw, .slice A1 pl.length c1, .int .i64 pn, .slice A3 pb.length c3] 44))
        have HC3' := Aside0.mk (Kd.C_alloc HC3.out (.cells #[.int .i64 pw, .slice A1 pl.length c1, .int .i64 pn, .slice A3 pb.length c3] 44))
        have HG0 := Aside0.mk hg0
        have HB1 := Aside0.mk hB1
        clear hG0 hg0 hB1 hx0 hx1 hx2 hx3
        generalize wr.alloc (.cells #[.int .i64 pw, .slice A1 pl.length c1, .int .i64 pn, .slice A3 pb.length c3] 44) = w1 at *
        by_cases hv : pl.length > 300 ∨ pb.length > 2000
        · have AH : Aside0 (lecternlaw2_heavy.f pw pl pn pb = some true) := ⟨by
            unfold lecternlaw2_heavy.f
            by_cases h3 : (pl.length : Int) > 300
            · rw [if_pos h3]
            · rw [if_neg h3, decide_eq_true (by omega)]⟩
          refine (lecternlaw2_heavy.calls _ _ _ _ _ _ _ _ true _ HC1'.out HL1.out HC3'.out HL3.out AH.out).mono ?_
          rintro e w2 ⟨rfl, hb2⟩
          have HB2 := Aside0.mk hb2
          clear hb2
          go_wp2_with fail
          go_ret
          exact ⟨rfl, below_then HB1.out HB1.out.size HB2.out⟩
        · have hv1 : pl.length ≤ 300 := by omega
          have hv2 : pb.length ≤ 2000 := by omega
          have AH : Aside0 (lecternlaw2_heavy.f pw pl pn pb = some false) := ⟨by
            unfold lecternlaw2_heavy.f
            rw [if_neg (by omega), decide_eq_false (by omega)]⟩
          clear hv
          refine (lecternlaw2_heavy.calls _ _ _ _ _ _ _ _ false _ HC1'.out HL1.out HC3'.out HL3.out AH.out).mono ?_
          rintro e w2 ⟨rfl, hb2⟩
          have HB2 : Aside0 (Below w.heap.size w w2) := ⟨below_then HB1.out HB1.out.size hb2⟩
          have HG2 : Aside0 (w2.heap[g0]? = some (.cells #[.int .i64 pw, .slice A1 pl.length c1, .int .i64 pn, .slice A3 pb.length c3] 44 (0, 0))) := ⟨(hb2.block g0 (blk_lt HG0.out)).trans HG0.out⟩
          have HC2 := Aside0.mk (Kd.C_below HC3'.out hb2)
          clear hb2 HC3 HC3' HC1 HC1'
          have k2 : w2.cell? ⟨g0, 2, none⟩ = some (.int .i64 pn) := (blk_cell HG2.out 2).trans rfl
          have k3 : w2.cell? ⟨g0, 3, none⟩ = some (.slice A3 pb.length c3) := (blk_cell HG2.out 3).trans rfl
          by_cases hmid : 4000 < pn ∧ pn ≤ 131072
          · obtain ⟨hm1, hm2⟩ := hmid
            have hd1 : decide (4000 < pn) = true := decide_eq_true hm1
            have hd2 : decide (pn ≤ 131072) = true := decide_eq_true hm2
            go_wp2_with fail
            go_ret
            exact ⟨rfl, HB2.out⟩
          · have hd : (decide (4000 < pn) && decide (pn ≤ 131072)) = false := by
              rw [Bool.and_eq_false_iff, decide_eq_false_iff_not, decide_eq_false_iff_not]; omega
            have HMID := Aside0.mk hmid
            clear hmid
            rcases Bool.eq_false_or_eq_true (decide (4000 < pn)) with hd1 | hd1
            · have hd2 : decide (pn ≤ 131072) = false := by rw [hd1, Bool.true_and] at hd; exact hd
              clear hd
              go_wp2_with fail
              clear k2 k3
              have AC : Aside0 (lecternref0_CopyBytes.f 3000 pb = some pb) := ⟨copyb_is pb (by omega) 3000 (by omega)⟩
              refine (lecternref0_CopyBytes.calls 3000 _ _ _ _ _ HC2.out HL3.out AC.out).mono ?_
              rintro e w3 ⟨v5, rfl, hr3, hb3⟩
              obtain ⟨P3, c5, rfl, hc5, hC5⟩ := Kd.R_reads hr3
              have HR3 := Aside0.mk hr3
              have HL5 := Aside0.mk hc5
              have HC5 := Aside0.mk hC5
              have HB3 := Aside0.mk hb3
              have HG3 : Aside0 (w3.heap[g0]? = some (.cells #[.int .i64 pw, .slice A1 pl.length c1, .int .i64 pn, .slice A3 pb.length c3] 44 (0, 0))) := ⟨(hb3.block g0 (blk_lt HG2.out)).trans HG2.out⟩
              clear hr3 hc5 hC5 hb3
              have k0 : w3.cell? ⟨g0, 0, none⟩ = some (.int .i64 pw) := (blk_cell HG3.out 0).trans rfl
              have k2 : w3.cell? ⟨g0, 2, none⟩ = some (.int .i64 pn) := (blk_cell HG3.out 2).trans rfl
              go_wp2_with fail
              clear k0 k2
              have AO : Aside0 (lecternlaw0_Bytes.f 3000 pb = some ()) := ⟨over_is pb (by omega) 3000 (by omega)⟩
              have AQ : Aside0 (∀ z, lecternlaw2_num.f z = some z) := ⟨fun z => rfl⟩
              cases hfit : fitB pw pn pb
              · have AP : Aside0 (lecternref1_Parse.f 20000000 pw pn pb = some ([], false)) := ⟨ref_parse_no pw pn pb 20000000 (by omega) hfit⟩
                refine (parse_no pw pn pb hfit (by omega) _ _ _).mono ?_
                clear hfit
                rintro e w' ⟨rfl, ⟨nn, rfl⟩⟩
                have HB34 : Aside0 (Below w2.heap.size w2 (w3.drewN nn)) := ⟨pw_below_drewN HB3.out _⟩
                have HR34 : Aside0 (Kd.R (Kd.int .u8) 5 (w3.drewN nn) w2.heap.size (fun k => w2.heap.size ≤ k ∧ k < w3.heap.size) (.slice P3 pb.length c5) pb) := ⟨Kd.R_drewN (Kd.R_mono (Kd.R_bound HR3.out) (fun k hk => ⟨hk.2.1, hk.2.2.1⟩)) _⟩
                go_wp2_with fail
                refine (lecternlaw0_Bytes.calls 3000 (fun k => w2.heap.size ≤ k ∧ k < w3.heap.size) _ pb w2 _ HB34.out HR34.out AO.out).mono ?_
                rintro e w5 ⟨rfl, hb5, hk5⟩
                have HB5 := Aside0.mk hb5
                have HG5 : Aside0 (w5.heap[g0]? = some (.cells #[.int .i64 pw, .slice A1 pl.length c1, .int .i64 pn, .slice A3 pb.length c3] 44 (0, 0))) := ⟨(hb5.block g0 (blk_lt HG2.out)).trans HG2.out⟩
                have HC5' := Aside0.mk (Kd.C_below HC2.out hb5)
                clear hb5 hk5
                have k0 : w5.cell? ⟨g0, 0, none⟩ = some (.int .i64 pw) := (blk_cell HG5.out 0).trans rfl
                have k2 : w5.cell? ⟨g0, 2, none⟩ = some (.int .i64 pn) := (blk_cell HG5.out 2).trans rfl
                have k3 : w5.cell? ⟨g0, 3, none⟩ = some (.slice A3 pb.length c3) := (blk_cell HG5.out 3).trans rfl
                go_wp2_with fail
                refine (lecternref1_Parse.calls 20000000 _ _ _ _ pb [] false _ HC5'.out HL3.out AP.out).mono ?_
                rintro e w6 ⟨v8, rfl, hr6, hb6⟩
                obtain ⟨P8, c8, rfl, hc8, hC8⟩ := Kd.R_reads hr6
                have HL8 := Aside0.mk hc8
                have HC8 := Aside0.mk hC8
                have HB6 : Aside0 (Below w2.heap.size w2 w6) := ⟨below_then HB5.out HB5.out.size hb6⟩
                clear hr6 hc8 hC8 hb6 k0 k2 k3
                go_wp2_with fail
                refine (lecternlaw2_num.calls 1 1 _ (AQ.out 1)).mono ?_
                rintro e w' ⟨rfl, ⟨m161, rfl⟩⟩
                go_wp2_with fail
                refine (lecternlaw2_num.calls 1 1 _ (AQ.out 1)).mono ?_
                rintro e w' ⟨rfl, ⟨q161, rfl⟩⟩
                go_wp2_with fail
                go_roundg (l.length - (i + 1))
                case measure => have := HK.out; omega
                case rel => exact ⟨i + 1, by go_num, ⟨by have := HK.out; omega⟩, ⟨pw_below_drewN (below_then HB2.out HB2.out.size HB6.out) _⟩⟩
              · obtain ⟨f1, f2, f3, f4, f5⟩ := fit_of hfit
                obtain ⟨wd, rfl⟩ := Int.eq_ofNat_of_zero_le f1
                obtain ⟨n, rfl⟩ := Int.eq_ofNat_of_zero_le f3
                simp only [Int.toNat_natCast] at f5
                have hw64 : wd ≤ 64 := by omega
                have hn2 : n ≤ 131072 := by omega
                have AP : Aside0 (lecternref1_Parse.f 20000000 (wd : Int) (n : Int) pb = some (parsed pb wd n, decide (enc wd (parsed pb wd n) = pb))) := ⟨ref_parse_is wd n pb HAB.out 20000000 (by omega) hfit⟩
                have HF5 := Aside0.mk f5
                clear hfit f1 f2 f3 f4 f5
                refine (parse_yes wd n hw64 hn2 pb HAB.out HF5.out _ _ _ HC5.out HL5.out).mono ?_
                rintro e w4 ⟨hb4, ⟨hT, g, rfl, ho4⟩ | ⟨hT, rfl⟩⟩
                · have hdec : decide (enc wd (parsed pb wd n) = pb) = true := decide_eq_true ((enc_parsed pb HAB.out wd n HF5.out).2 hT)
                  rw [hdec] at AP
                  have HO4 := Aside0.mk ho4
                  have HB34 : Aside0 (Below w2.heap.size w2 w4) := ⟨below_then HB3.out HB3.out.size hb4⟩
                  have HR34 : Aside0 (Kd.R (Kd.int .u8) 5 w4 w2.heap.size (fun k => w2.heap.size ≤ k ∧ k < w3.heap.size) (.slice P3 pb.length c5) pb) := ⟨Kd.R_below (Kd.R_mono (Kd.R_bound HR3.out) (fun k hk => ⟨hk.2.1, hk.2.2.1⟩)) hb4⟩
                  clear hb4 hT hdec ho4
                  go_wp2_with fail
                  refine (lecternlaw0_Bytes.calls 3000 (fun k => w2.heap.size ≤ k ∧ k < w3.heap.size) _ pb w2 _ HB34.out HR34.out AO.out).mono ?_
                  rintro e w5 ⟨rfl, hb5, hk5⟩
                  have HB5 := Aside0.mk hb5
                  have HO5 := Aside0.mk (HO4.out.kept hk5 (fun k hk => hk.2))
                  have HG5 : Aside0 (w5.heap[g0]? = some (.cells #[.int .i64 (wd : Int), .slice A1 pl.length c1, .int .i64 (n : Int), .slice A3 pb.length c3] 44 (0, 0))) := ⟨(hb5.block g0 (blk_lt HG2.out)).trans HG2.out⟩
                  have HC5' := Aside0.mk (Kd.C_below HC2.out hb5)
                  clear hb5 hk5
                  have k0 : w5.cell? ⟨g0, 0, none⟩ = some (.int .i64 (wd : Int)) := (blk_cell HG5.out 0).trans rfl
                  have k2 : w5.cell? ⟨g0, 2, none⟩ = some (.int .i64 (n : Int)) := (blk_cell HG5.out 2).trans rfl
                  have k3 : w5.cell? ⟨g0, 3, none⟩ = some (.slice A3 pb.length c3) := (blk_cell HG5.out 3).trans rfl
                  go_wp2_with fail
                  refine (lecternref1_Parse.calls 20000000 _ _ _ _ pb _ true _ HC5'.out HL3.out AP.out).mono ?_
                  rintro e w6 ⟨v8, rfl, hr6, hb6⟩
                  obtain ⟨P8, c8, rfl, hc8, hC8⟩ := Kd.R_reads hr6
                  have HL8 := Aside0.mk hc8
                  have HC8 := Aside0.mk hC8
                  have HO6 := Aside0.mk (HO5.out.below hb6)
                  have HG6 : Aside0 (w6.heap[g0]? = some (.cells #[.int .i64 (wd : Int), .slice A1 pl.length c1, .int .i64 (n : Int), .slice A3 pb.length c3] 44 (0, 0))) := ⟨(hb6.block g0 (blk_lt HG5.out)).trans HG5.out⟩
                  have HB6 : Aside0 (Below w2.heap.size w2 w6) := ⟨below_then HB5.out HB5.out.size hb6⟩
                  clear hr6 hc8 hC8 hb6 k0 k2 k3
                  have k0 : w6.cell? ⟨g0, 0, none⟩ = some (.int .i64 (wd : Int)) := (blk_cell HG6.out 0).trans rfl
                  go_wp2_with fail
                  refine (lecternlaw2_num.calls 0 0 _ (AQ.out 0)).mono ?_
                  rintro e w' ⟨rfl, ⟨m180, rfl⟩⟩
                  go_wp2_with fail
                  have hpl : (parsed pb wd n).length = n := nums_len pb wd n n 0
                  refine (same_calls w3.heap.size g wd hw64 (parsed pb wd n) (nums_u64 pb wd n n 0 hw64 (by omega)) (by omega) pb HAB.out (by rw [hpl]; exact HF5.out) (fun i hi => (parsed_num pb wd n i (by omega)).symm) _ _ _ (Kd.C_drewN HC8.out _) (by rw [hpl]; exact HO6.out.drewN _)).mono ?_
                  rintro e w' ⟨rfl, ⟨n9, rfl⟩⟩
                  go_wp2_with fail
                  go_roundg (l.length - (i + 1))
                  case measure => have := HK.out; omega
                  case rel => exact ⟨i + 1, by go_num, ⟨by have := HK.out; omega⟩, ⟨pw_below_drewN (below_then HB2.out HB2.out.size HB6.out) _⟩⟩
                · have hdec : decide (enc wd (parsed pb wd n) = pb) = false := decide_eq_false (fun h => hT ((enc_parsed pb HAB.out wd n HF5.out).1 h))
                  rw [hdec] at AP
                  have HB34 : Aside0 (Below w2.heap.size w2 w4) := ⟨below_then HB3.out HB3.out.size hb4⟩
                  have HR34 : Aside0 (Kd.R (Kd.int .u8) 5 w4 w2.heap.size (fun k => w2.heap.size ≤ k ∧ k < w3.heap.size) (.slice P3 pb.length c5) pb) := ⟨Kd.R_below (Kd.R_mono (Kd.R_bound HR3.out) (fun k hk => ⟨hk.2.1, hk.2.2.1⟩)) hb4⟩
                  clear hb4 hT hdec
                  go_wp2_with fail
                  refine (lecternlaw0_Bytes.calls 3000 (fun k => w2.heap.size ≤ k ∧ k < w3.heap.size) _ pb w2 _ HB34.out HR34.out AO.out).mono ?_
                  rintro e w5 ⟨rfl, hb5, hk5⟩
                  have HB5 := Aside0.mk hb5
                  have HG5 : Aside0 (w5.heap[g0]? = some (.cells #[.int .i64 (wd : Int), .slice A1 pl.length c1, .int .i64 (n : Int), .slice A3 pb.length c3] 44 (0, 0))) := ⟨(hb5.block g0 (blk_lt HG2.out)).trans HG2.out⟩
                  have HC5' := Aside0.mk (Kd.C_below HC2.out hb5)
                  clear hb5 hk5
                  have k0 : w5.cell? ⟨g0, 0, none⟩ = some (.int .i64 (wd : Int)) := (blk_cell HG5.out 0).trans rfl
                  have k2 : w5.cell? ⟨g0, 2, none⟩ = some (.int .i64 (n : Int)) := (blk_cell HG5.out 2).trans rfl
                  have k3 : w5.cell? ⟨g0, 3, none⟩ = some (.slice A3 pb.length c3) := (blk_cell HG5.out 3).trans rfl
                  go_wp2_with fail
                  refine (lecternref1_Parse.calls 20000000 _ _ _ _ pb _ false _ HC5'.out HL3.out AP.out).mono ?_
                  rintro e w6 ⟨v8, rfl, hr6, hb6⟩
                  obtain ⟨P8, c8, rfl, hc8, hC8⟩ := Kd.R_reads hr6
                  have HL8 := Aside0.mk hc8
                  have HC8 := Aside0.mk hC8
                  have HB6 : Aside0 (Below w2.heap.size w2 w6) := ⟨below_then HB5.out HB5.out.size hb6⟩
                  clear hr6 hc8 hC8 hb6 k0 k2 k3
                  go_wp2_with fail
                  refine (lecternlaw2_num.calls 1 1 _ (AQ.out 1)).mono ?_
                  rintro e w' ⟨rfl, ⟨m181, rfl⟩⟩
                  go_wp2_with fail
                  refine (lecternlaw2_num.calls 1 1 _ (AQ.out 1)).mono ?_
                  rintro e w' ⟨rfl, ⟨q181, rfl⟩⟩
                  go_wp2_with fail
                  go_roundg (l.length - (i + 1))
                  case measure => have := HK.out; omega
                  case rel => exact ⟨i + 1, by go_num, ⟨by have := HK.out; omega⟩, ⟨pw_below_drewN (below_then HB2.out HB2.out.size HB6.out) _⟩⟩
            · clear hd
              go_wp2_with fail
              clear k2 k3
              have AC : Aside0 (lecternref0_CopyBytes.f 3000 pb = some pb) := ⟨copyb_is pb (by omega) 3000 (by omega)⟩
              refine (lecternref0_CopyBytes.calls 3000 _ _ _ _ _ HC2.out HL3.out AC.out).mono ?_
              rintro e w3 ⟨v5, rfl, hr3, hb3⟩
              obtain ⟨P3, c5, rfl, hc5, hC5⟩ := Kd.R_reads hr3
              have HR3 := Aside0.mk hr3
              have HL5 := Aside0.mk hc5
              have HC5 := Aside0.mk hC5
              have HB3 := Aside0.mk hb3
              have HG3 : Aside0 (w3.heap[g0]? = some (.cells #[.int .i64 pw, .slice A1 pl.length c1, .int .i64 pn, .slice A3 pb.length c3] 44 (0, 0))) := ⟨(hb3.block g0 (blk_lt HG2.out)).trans HG2.out⟩
              clear hr3 hc5 hC5 hb3
              have k0 : w3.cell? ⟨g0, 0, none⟩ = some (.int .i64 pw) := (blk_cell HG3.out 0).trans rfl
              have k2 : w3.cell? ⟨g0, 2, none⟩ = some (.int .i64 pn) := (blk_cell HG3.out 2).trans rfl
              go_wp2_with fail
              clear k0 k2
              have AO : Aside0 (lecternlaw0_Bytes.f 3000 pb = some ()) := ⟨over_is pb (by omega) 3000 (by omega)⟩
              have AQ : Aside0 (∀ z, lecternlaw2_num.f z = some z) := ⟨fun z => rfl⟩
              cases hfit : fitB pw pn pb
              · have AP : Aside0 (lecternref1_Parse.f 20000000 pw pn pb = some ([], false)) := ⟨ref_parse_no pw pn pb 20000000 (by omega) hfit⟩
                refine (parse_no pw pn pb hfit (by omega) _ _ _).mono ?_
                clear hfit
                rintro e w' ⟨rfl, ⟨nn, rfl⟩⟩
                have HB34 : Aside0 (Below w2.heap.size w2 (w3.drewN nn)) := ⟨pw_below_drewN HB3.out _⟩
                have HR34 : Aside0 (Kd.R (Kd.int .u8) 5 (w3.drewN nn) w2.heap.size (fun k => w2.heap.size ≤ k ∧ k < w3.heap.size) (.slice P3 pb.length c5) pb) := ⟨Kd.R_drewN (Kd.R_mono (Kd.R_bound HR3.out) (fun k hk => ⟨hk.2.1, hk.2.2.1⟩)) _⟩
                go_wp2_with fail
                refine (lecternlaw0_Bytes.calls 3000 (fun k => w2.heap.size ≤ k ∧ k < w3.heap.size) _ pb w2 _ HB34.out HR34.out AO.out).mono ?_
                rintro e w5 ⟨rfl, hb5, hk5⟩
                have HB5 := Aside0.mk hb5
                have HG5 : Aside0 (w5.heap[g0]? = some (.cells #[.int .i64 pw, .slice A1 pl.length c1, .int .i64 pn, .slice A3 pb.length c3] 44 (0, 0))) := ⟨(hb5.block g0 (blk_lt HG2.out)).trans HG2.out⟩
                have HC5' := Aside0.mk (Kd.C_below HC2.out hb5)
                clear hb5 hk5
                have k0 : w5.cell? ⟨g0, 0, none⟩ = some (.int .i64 pw) := (blk_cell HG5.out 0).trans rfl
                have k2 : w5.cell? ⟨g0, 2, none⟩ = some (.int .i64 pn) := (blk_cell HG5.out 2).trans rfl
                have k3 : w5.cell? ⟨g0, 3, none⟩ = some (.slice A3 pb.length c3) := (blk_cell HG5.out 3).trans rfl
                go_wp2_with fail
                refine (lecternref1_Parse.calls 20000000 _ _ _ _ pb [] false _ HC5'.out HL3.out AP.out).mono ?_
                rintro e w6 ⟨v8, rfl, hr6, hb6⟩
                obtain ⟨P8, c8, rfl, hc8, hC8⟩ := Kd.R_reads hr6
                have HL8 := Aside0.mk hc8
                have HC8 := Aside0.mk hC8
                have HB6 : Aside0 (Below w2.heap.size w2 w6) := ⟨below_then HB5.out HB5.out.size hb6⟩
                clear hr6 hc8 hC8 hb6 k0 k2 k3
                go_wp2_with fail
                refine (lecternlaw2_num.calls 1 1 _ (AQ.out 1)).mono ?_
                rintro e w' ⟨rfl, ⟨m161, rfl⟩⟩
                go_wp2_with fail
                refine (lecternlaw2_num.calls 1 1 _ (AQ.out 1)).mono ?_
                rintro e w' ⟨rfl, ⟨q161, rfl⟩⟩
                go_wp2_with fail
                go_roundg (l.length - (i + 1))
                case measure => have := HK.out; omega
                case rel => exact ⟨i + 1, by go_num, ⟨by have := HK.out; omega⟩, ⟨pw_below_drewN (below_then HB2.out HB2.out.size HB6.out) _⟩⟩
              · obtain ⟨f1, f2, f3, f4, f5⟩ := fit_of hfit
                obtain ⟨wd, rfl⟩ := Int.eq_ofNat_of_zero_le f1
                obtain ⟨n, rfl⟩ := Int.eq_ofNat_of_zero_le f3
                simp only [Int.toNat_natCast] at f5
                have hw64 : wd ≤ 64 := by omega
                have hn2 : n ≤ 131072 := by omega
                have AP : Aside0 (lecternref1_Parse.f 20000000 (wd : Int) (n : Int) pb = some (parsed pb wd n, decide (enc wd (parsed pb wd n) = pb))) := ⟨ref_parse_is wd n pb HAB.out 20000000 (by omega) hfit⟩
                have HF5 := Aside0.mk f5
                clear hfit f1 f2 f3 f4 f5
                refine (parse_yes wd n hw64 hn2 pb HAB.out HF5.out _ _ _ HC5.out HL5.out).mono ?_
                rintro e w4 ⟨hb4, ⟨hT, g, rfl, ho4⟩ | ⟨hT, rfl⟩⟩
                · have hdec : decide (enc wd (parsed pb wd n) = pb) = true := decide_eq_true ((enc_parsed pb HAB.out wd n HF5.out).2 hT)
                  rw [hdec] at AP
                  have HO4 := Aside0.mk ho4
                  have HB34 : Aside0 (Below w2.heap.size w2 w4) := ⟨below_then HB3.out HB3.out.size hb4⟩
                  have HR34 : Aside0 (Kd.R (Kd.int .u8) 5 w4 w2.heap.size (fun k => w2.heap.size ≤ k ∧ k < w3.heap.size) (.slice P3 pb.length c5) pb) := ⟨Kd.R_below (Kd.R_mono (Kd.R_bound HR3.out) (fun k hk => ⟨hk.2.1, hk.2.2.1⟩)) hb4⟩
                  clear hb4 hT hdec ho4
                  go_wp2_with fail
                  refine (lecternlaw0_Bytes.calls 3000 (fun k => w2.heap.size ≤ k ∧ k < w3.heap.size) _ pb w2 _ HB34.out HR34.out AO.out).mono ?_
                  rintro e w5 ⟨rfl, hb5, hk5⟩
                  have HB5 := Aside0.mk hb5
                  have HO5 := Aside0.mk (HO4.out.kept hk5 (fun k hk => hk.2))
                  have HG5 : Aside0 (w5.heap[g0]? = some (.cells #[.int .i64 (wd : Int), .slice A1 pl.length c1, .int .i64 (n : Int), .slice A3 pb.length c3] 44 (0, 0))) := ⟨(hb5.block g0 (blk_lt HG2.out)).trans HG2.out⟩
                  have HC5' := Aside0.mk (Kd.C_below HC2.out hb5)
                  clear hb5 hk5
                  have k0 : w5.cell? ⟨g0, 0, none⟩ = some (.int .i64 (wd : Int)) := (blk_cell HG5.out 0).trans rfl
                  have k2 : w5.cell? ⟨g0, 2, none⟩ = some (.int .i64 (n : Int)) := (blk_cell HG5.out 2).trans rfl
                  have k3 : w5.cell? ⟨g0, 3, none⟩ = some (.slice A3 pb.length c3) := (blk_cell HG5.out 3).trans rfl
                  go_wp2_with fail
                  refine (lecternref1_Parse.calls 20000000 _ _ _ _ pb _ true _ HC5'.out HL3.out AP.out).mono ?_
                  rintro e w6 ⟨v8, rfl, hr6, hb6⟩
                  obtain ⟨P8, c8, rfl, hc8, hC8⟩ := Kd.R_reads hr6
                  have HL8 := Aside0.mk hc8
                  have HC8 := Aside0.mk hC8
                  have HO6 := Aside0.mk (HO5.out.below hb6)
                  have HG6 : Aside0 (w6.heap[g0]? = some (.cells #[.int .i64 (wd : Int), .slice A1 pl.length c1, .int .i64 (n : Int), .slice A3 pb.length c3] 44 (0, 0))) := ⟨(hb6.block g0 (blk_lt HG5.out)).trans HG5.out⟩
                  have HB6 : Aside0 (Below w2.heap.size w2 w6) := ⟨below_then HB5.out HB5.out.size hb6⟩
                  clear hr6 hc8 hC8 hb6 k0 k2 k3
                  have k0 : w6.cell? ⟨g0, 0, none⟩ = some (.int .i64 (wd : Int)) := (blk_cell HG6.out 0).trans rfl
                  go_wp2_with fail
                  refine (lecternlaw2_num.calls 0 0 _ (AQ.out 0)).mono ?_
                  rintro e w' ⟨rfl, ⟨m180, rfl⟩⟩
                  go_wp2_with fail
                  have hpl : (parsed pb wd n).length = n := nums_len pb wd n n 0
                  refine (same_calls w3.heap.size g wd hw64 (parsed pb wd n) (nums_u64 pb wd n n 0 hw64 (by omega)) (by omega) pb HAB.out (by rw [hpl]; exact HF5.out) (fun i hi => (parsed_num pb wd n i (by omega)).symm) _ _ _ (Kd.C_drewN HC8.out _) (by rw [hpl]; exact HO6.out.drewN _)).mono ?_
                  rintro e w' ⟨rfl, ⟨n9, rfl⟩⟩
                  go_wp2_with fail
                  go_roundg (l.length - (i + 1))
                  case measure => have := HK.out; omega
                  case rel => exact ⟨i + 1, by go_num, ⟨by have := HK.out; omega⟩, ⟨pw_below_drewN (below_then HB2.out HB2.out.size HB6.out) _⟩⟩
                · have hdec : decide (enc wd (parsed pb wd n) = pb) = false := decide_eq_false (fun h => hT ((enc_parsed pb HAB.out wd n HF5.out).1 h))
                  rw [hdec] at AP
                  have HB34 : Aside0 (Below w2.heap.size w2 w4) := ⟨below_then HB3.out HB3.out.size hb4⟩
                  have HR34 : Aside0 (Kd.R (Kd.int .u8) 5 w4 w2.heap.size (fun k => w2.heap.size ≤ k ∧ k < w3.heap.size) (.slice P3 pb.length c5) pb) := ⟨Kd.R_below (Kd.R_mono (Kd.R_bound HR3.out) (fun k hk => ⟨hk.2.1, hk.2.2.1⟩)) hb4⟩
                  clear hb4 hT hdec
                  go_wp2_with fail
                  refine (lecternlaw0_Bytes.calls 3000 (fun k => w2.heap.size ≤ k ∧ k < w3.heap.size) _ pb w2 _ HB34.out HR34.out AO.out).mono ?_
                  rintro e w5 ⟨rfl, hb5, hk5⟩
                  have HB5 := Aside0.mk hb5
                  have HG5 : Aside0 (w5.heap[g0]? = some (.cells #[.int .i64 (wd : Int), .slice A1 pl.length c1, .int .i64 (n : Int), .slice A3 pb.length c3] 44 (0, 0))) := ⟨(hb5.block g0 (blk_lt HG2.out)).trans HG2.out⟩
                  have HC5' := Aside0.mk (Kd.C_below HC2.out hb5)
                  clear hb5 hk5
                  have k0 : w5.cell? ⟨g0, 0, none⟩ = some (.int .i64 (wd : Int)) := (blk_cell HG5.out 0).trans rfl
                  have k2 : w5.cell? ⟨g0, 2, none⟩ = some (.int .i64 (n : Int)) := (blk_cell HG5.out 2).trans rfl
                  have k3 : w5.cell? ⟨g0, 3, none⟩ = some (.slice A3 pb.length c3) := (blk_cell HG5.out 3).trans rfl
                  go_wp2_with fail
                  refine (lecternref1_Parse.calls 20000000 _ _ _ _ pb _ false _ HC5'.out HL3.out AP.out).mono ?_
                  rintro e w6 ⟨v8, rfl, hr6, hb6⟩
                  obtain ⟨P8, c8, rfl, hc8, hC8⟩ := Kd.R_reads hr6
                  have HL8 := Aside0.mk hc8
                  have HC8 := Aside0.mk hC8
                  have HB6 : Aside0 (Below w2.heap.size w2 w6) := ⟨below_then HB5.out HB5.out.size hb6⟩
                  clear hr6 hc8 hC8 hb6 k0 k2 k3
                  go_wp2_with fail
                  refine (lecternlaw2_num.calls 1 1 _ (AQ.out 1)).mono ?_
                  rintro e w' ⟨rfl, ⟨m181, rfl⟩⟩
                  go_wp2_with fail
                  refine (lecternlaw2_num.calls 1 1 _ (AQ.out 1)).mono ?_
                  rintro e w' ⟨rfl, ⟨q181, rfl⟩⟩
                  go_wp2_with fail
                  go_roundg (l.length - (i + 1))
                  case measure => have := HK.out; omega
                  case rel => exact ⟨i + 1, by go_num, ⟨by have := HK.out; omega⟩, ⟨pw_below_drewN (below_then HB2.out HB2.out.size HB6.out) _⟩⟩
      · have hb8 : decide ((i : Int) < 8) = false := decide_eq_false (by omega)
        go_wp2_with fail
        refine (wakes_calls _).mono ?_
        rintro e w' ⟨rfl, hb⟩
        go_wp2_with fail
        go_ret
        exact ⟨rfl, below_then HB.out HB.out.size hb⟩
    · go_wp2_with fail
      refine (wakes_calls _).mono ?_
      rintro e w' ⟨rfl, hb⟩
      go_wp2_with fail
      go_ret
      exact ⟨rfl, below_then HB.out HB.out.size hb⟩
end Go.Proofs.Ytfjndhlkdckieaa.I
