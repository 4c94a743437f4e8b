/- Disk (merged). -/
import Derived.Test.YtoonepmnlgfikaaDMPure
/-! DMWalk -/
namespace Go.Proofs.Ytoonepmnlgfikaa.D
open Go.RowKit Go.Proofs.YtoonepmnlgfikaaW.PrintWords Go.Proofs.YtoonepmnlgfikaaW.PrintLast Go.Proofs.YtoonepmnlgfikaaW.PrintMore Go.Proofs.Ytoonepmnlgfikaa.Base Go.Proofs.Ytoonepmnlgfikaa.Opening Go.Maps Go.Sort Go.Shelf
set_option linter.unusedVariables false
set_option linter.unusedSimpArgs false
/-- One more round, or none. -/
def Turns10 (n : Nat) (w1 : World) (k : Nat) (v : Value) (w' : World) : Prop := ∃ i : Nat, i + k = 10 ∧ i ≤ n ∧ v = .int .i64 i ∧ Below w1.heap.size w1 w'
theorem below_le {B : Nat} {w W W2 : World} (h : Below w.heap.size w W) (k : Below B W W2) (hB : w.heap.size ≤ B) : Below w.heap.size w W2 := h.trans (k.mono hB)
theorem below_drewB {B : Nat} {w W : World} (h : Below B w W) (n : Nat) : Below B w (W.drewN n) := pw_below_drewN h n
set_option maxRecDepth 100000 in
set_option maxHeartbeats 6400000 in
theorem moves_walk0 (A0 : Option Addr) (c0 : Nat) (l0 : List S40) (A1 : Option Addr) (c1 : Nat) (l1 : List S30) (w : World) (hr0 : Kd.C k40 w A0 l0.length l0) (hc0 : l0.length ≤ c0) (hr1 : Kd.C k30 w A1 l1.length l1) (hc1 : l1.length ≤ c1)
    (hs0 : ∀ x ∈ l0, x.f1.length ≤ 140737488351232) (hs1 : ∀ x ∈ l1, x.f4.length ≤ 140737488351232 ∧ x.f5.length ≤ 140737488351232) (hl1 : l1.length ≤ 140737488351232) :
    Calls Try.prog 4 #[.agg #[.slice A0 l0.length c0, .slice A1 l1.length c1]] w fun e w' => e = .returned (.bool true) ∧ Below w.heap.size w w' := by
  obtain ⟨b, hb⟩ := heavy_some l0 l1
  have HB := Aside0.mk hb
  have HR0 := Aside0.mk hr0
  have HC0 := Aside0.mk hc0
  have HR1 := Aside0.mk hr1
  have HC1 := Aside0.mk hc1
  have HSM : Aside0 (b = false → ∀ j, j < 40 → j < l1.length → (rd_T30 l1 (j : Int)).f4.length ≤ 10000 ∧ (rd_T30 l1 (j : Int)).f5.length ≤ 10000) := ⟨fun h => light l0 l1 hs0 hs1 (h ▸ hb)⟩
  have hu82 := Try.underlying25
  clear hb hr0 hc0 hr1 hc1 hs1 hs0
  go_enter Try.func4, Try.ntmps4
  go_wp2_with fail
  have hbx := heap_alloc_new w (.cells #[.slice A0 l0.length c0, .slice A1 l1.length c1] 25)
  have hbl : Below w.heap.size w (w.alloc (.cells #[.slice A0 l0.length c0, .slice A1 l1.length c1] 25)) := below_alloc (Below.refl _ _) _
  have HL := Aside0.mk hbl
  clear hbl
  generalize w.alloc (.cells #[.slice A0 l0.length c0, .slice A1 l1.length c1] 25) = w0 at *
  refine (lecternlaw18_heavy.calls 100 A0 c0 l0 A1 c1 l1 b _ (Kd.C_below HR0.out HL.out) HC0.out (Kd.C_below HR1.out HL.out) HC1.out HB.out).mono ?_
  rintro e w1 ⟨rfl, hbel⟩
  have hbx1 := (hbel.block _ (blk_lt hbx)).trans hbx
  have hp1 : w.heap.size < w1.heap.size := blk_lt hbx1
  have HR1' : Aside0 (Kd.C k30 w1 A1 l1.length l1) := ⟨Kd.C_below (Kd.C_below HR1.out HL.out) hbel⟩
  have HL1 : Aside0 (Below w.heap.size w w1) := ⟨below_step HL.out hbel⟩
  clear hbel hbx HR0 HC0 HR1 HL HB
  cases b with
  | true =>
    go_wp2_with fail
    go_ret
    exact ⟨rfl, HL1.out⟩
  | false =>
    have hbb : (false = true) = False := by simp
    go_wp2_with fail
    go_loopg [3, 4, 5, 6, 7, 8, 9, 10, 11] 10 (fun kq v3 v4 v5 v6 v7 v8 v9 v10 v11 w' => Turns10 l1.length w1 kq v3 w')
    case atStart => exact ⟨0, rfl, Nat.zero_le _, rfl, Below.refl _ _⟩
    case round =>
      obtain ⟨i, hik, hil, rfl, hbi⟩ := hrel
      have HBI := Aside0.mk hbi
      have hbxi := (hbi.block _ hp1).trans hbx1
      have x0 : wr.cell? ⟨w.heap.size, 1, none⟩ = some (.slice A1 l1.length c1) := (blk_cell hbxi 1).trans rfl
      clear hbi hbxi
      by_cases hlt : i < l1.length
      · by_cases h40 : i < 10
        · have hd1 : decide (i < l1.length) = true := decide_eq_true hlt
          have hd2 : decide ((i : Int) < 10) = true := decide_eq_true (by omega)
          obtain ⟨ad, A4, c4, A5, c5, hA, e0, e1, e2, e3, e4, e5, hc4, hC4, hc5, hC5⟩ := at_T30 (Kd.C_below HR1'.out HBI.out) (i : Int) (by omega) (by omega)
          obtain ⟨hn4, hn5⟩ := HSM.out (by trivial) i (by omega) hlt
          generalize hact : rd_T30 l1 (i : Int) = act at *
          obtain ⟨do_, nmA, nmB, n_, bs, ps⟩ := act
          dsimp only at *
          have HC4 := Aside0.mk hC4
          have HC5 := Aside0.mk hC5
          have HN4 := Aside0.mk hn4
          have HN5 := Aside0.mk hn5
          have HK4 := Aside0.mk hc4
          have HK5 := Aside0.mk hc5
          rw [Int.toNat_natCast] at e0 e1 e2 e3 e4 e5
          clear hC4 hC5 hn4 hn5 hc4 hc5
          subst hA
          go_upto_region 7 with (fail)
          have hBa : Below wr.heap.size wr (wr.alloc (.cells #[.int .i64 do_, .string nmA, .string nmB, .int .i64 n_, .slice A4 bs.length c4, .slice A5 ps.length c5] 30)) := below_alloc (Below.refl _ _) _
          have hNa := heap_alloc_new wr (.cells #[.int .i64 do_, .string nmA, .string nmB, .int .i64 n_, .slice A4 bs.length c4, .slice A5 ps.length c5] 30)
          generalize wr.alloc (.cells #[.int .i64 do_, .string nmA, .string nmB, .int .i64 n_, .slice A4 bs.length c4, .slice A5 ps.length c5] 30) = wa at *
          obtain ⟨q, hq⟩ : ∃ q, q = wr.heap.size := ⟨_, rfl⟩
          rw [← hq] at hNa
          have HBA := Aside0.mk hBa
          have HNA := Aside0.mk hNa
          have HC4 : Aside0 (Kd.C (Kd.int .u8) wa A4 bs.length bs) := ⟨Kd.C_below HC4.out HBA.out⟩
          have HC5 : Aside0 (Kd.C (Kd.int .i64) wa A5 ps.length ps) := ⟨Kd.C_below HC5.out HBA.out⟩
          have HQA : Aside0 (q < wa.heap.size) := ⟨blk_lt hNa⟩
          have k4 : wa.cell? ⟨q, 4, none⟩ = some (.slice A4 bs.length c4) := (blk_cell hNa 4).trans rfl
          rw [← hq]
          obtain ⟨g0, hg0⟩ : ∃ g0, g0 = gk - 1 := ⟨_, rfl⟩
          have HGM : Aside0 (g0 < gk ∧ i + 1 + g0 = 10 ∧ i + 1 ≤ l1.length) := ⟨by omega⟩
          clear hBa hNa hq e0 e1 e2 e3 e4 e5 hg0
          have kc := fun (w : World) (C : Array Value) (n c : Nat) => Go.Lib.run_convert_bytes_const (P := Try.prog) w 27 5 C n c Try.underlying27 Try.underlying5
          go_wp2_with (go_at_call 15; refine (lecternref0_CopyBytes.calls 20000 A4 c4 bs bs _ HC4.out HK4.out (copyBytes_is bs (by have := HN4.out; omega) 20000 (by have := HN4.out; omega))).mono ?_; rintro e w2 ⟨v2, rfl, hr2, hb2⟩; obtain ⟨A2, c2, rfl⟩ := Kd.R_slice hr2; have HR2 := Aside0.mk hr2; have HB2 := Aside0.mk hb2; clear hr2 hb2)
          have hB2 : Below w2.heap.size w2 ((w2.alloc (.cells #[.int .u8 111, .int .u8 108, .int .u8 100] 5 (3, 4))).alloc (.cells #[.string ⟨#[97]⟩, .slice A2 bs.length c2, .string ⟨#[98]⟩, .slice (some ⟨w2.heap.size, 0, none⟩) 3 3] 40)) := below_alloc (below_alloc (Below.refl _ _) _) _
          have hq2 : ((w2.alloc (.cells #[.int .u8 111, .int .u8 108, .int .u8 100] 5 (3, 4))).alloc (.cells #[.string ⟨#[97]⟩, .slice A2 bs.length c2, .string ⟨#[98]⟩, .slice (some ⟨w2.heap.size, 0, none⟩) 3 3] 40)).heap[w2.heap.size + 1]? = some (.cells #[.string ⟨#[97]⟩, .slice A2 bs.length c2, .string ⟨#[98]⟩, .slice (some ⟨w2.heap.size, 0, none⟩) 3 3] 40 (0, 0)) := by
            have h1 := heap_alloc_new (w2.alloc (.cells #[.int .u8 111, .int .u8 108, .int .u8 100] 5 (3, 4))) (.cells #[.string ⟨#[97]⟩, .slice A2 bs.length c2, .string ⟨#[98]⟩, .slice (some ⟨w2.heap.size, 0, none⟩) 3 3] 40)
            simpa using h1
          have hold : ((w2.alloc (.cells #[.int .u8 111, .int .u8 108, .int .u8 100] 5 (3, 4))).alloc (.cells #[.string ⟨#[97]⟩, .slice A2 bs.length c2, .string ⟨#[98]⟩, .slice (some ⟨w2.heap.size, 0, none⟩) 3 3] 40)).heap[w2.heap.size]? = some (.cells #[.int .u8 111, .int .u8 108, .int .u8 100] 5 (3, 4)) :=
            (Below.heap_alloc _ _ _ (by simp)).trans (heap_alloc_new w2 _)
          obtain ⟨qq, hqq⟩ : ∃ qq, qq = w2.heap.size + 1 := ⟨_, rfl⟩
          rw [← hqq] at hq2 ⊢
          have hB0 : Below wa.heap.size wa ((w2.alloc (.cells #[.int .u8 111, .int .u8 108, .int .u8 100] 5 (3, 4))).alloc (.cells #[.string ⟨#[97]⟩, .slice A2 bs.length c2, .string ⟨#[98]⟩, .slice (some ⟨w2.heap.size, 0, none⟩) 3 3] 40)) := below_step HB2.out hB2
          have HCA := Aside0.mk (Kd.C_below (Kd.R_reads' HR2.out).2.2 hB2)
          have HCAL := Aside0.mk (Kd.R_reads' HR2.out).2.1
          clear HR2 HB2 hB2 kc hqq
          generalize (w2.alloc (.cells #[.int .u8 111, .int .u8 108, .int .u8 100] 5 (3, 4))).alloc (.cells #[.string ⟨#[97]⟩, .slice A2 bs.length c2, .string ⟨#[98]⟩, .slice (some ⟨w2.heap.size, 0, none⟩) 3 3] 40) = w3 at *
          refine (new_calls (some ⟨qq, 0, none⟩) 2 [⟨nA, bs⟩, ⟨nB, oldB⟩] w3 (two_cells (x := ⟨nA, bs⟩) (y := ⟨nB, oldB⟩) hq2 HCA.out HCAL.out (C_oldB _ _ hold) (by decide)) (show 2 ≤ 2 by decide) (twoOk bs HN4.out)).mono ?_
          rintro e w4 ⟨g, b, rfl, ⟨⟨D4, hD4, hDs4⟩, hb4⟩⟩
          have hD4 : Dsk w4 w3.heap.size g b 2 0 D4 (fileMap [⟨nA, bs⟩, ⟨nB, oldB⟩]) := hD4
          have HD4 := Aside0.mk hD4
          have HQ3 : Aside0 (w3.heap[q]? = some (.cells #[.int .i64 do_, .string nmA, .string nmB, .int .i64 n_, .slice A4 bs.length c4, .slice A5 ps.length c5] 30 (0, 0))) := ⟨(hB0.block q HQA.out).trans HNA.out⟩
          have HB4 : Aside0 (Below w3.heap.size w3 w4) := ⟨hb4⟩
          have HC43 : Aside0 (Kd.C (Kd.int .u8) w3 A4 bs.length bs) := ⟨Kd.C_below HC4.out hB0⟩
          have HC53 : Aside0 (Kd.C (Kd.int .i64) w3 A5 ps.length ps) := ⟨Kd.C_below HC5.out hB0⟩
          have HW3 : Aside0 (Below w1.heap.size w1 w3) := ⟨below_step HBI.out (below_step HBA.out hB0)⟩
          have KA : Aside0 (∀ W, Below w3.heap.size w3 W → W.cell? ⟨q, 4, none⟩ = some (.slice A4 bs.length c4) ∧ W.cell? ⟨q, 5, none⟩ = some (.slice A5 ps.length c5)) := ⟨fun W hb => by
            have h1 := (hb.block q (blk_lt HQ3.out)).trans HQ3.out
            exact ⟨(blk_cell h1 4).trans rfl, (blk_cell h1 5).trans rfl⟩⟩
          clear hDs4 hb4 hD4 hq2 hold hB0 HCA HCAL
          go_wp2_with (first
            | (go_at_call 10; refine (lecternlaw18_num.calls _ _ _ rfl).mono ?_; rintro e w' ⟨rfl, ⟨n1, rfl⟩⟩)
            | (go_at_call 16; refine (dsk_rename (HD4.out.drewN n1) (by decide) (by decide) (by decide) nA nB (by decide) (by decide)).mono ?_; rintro e w5 ⟨e5, F5, n5, rfl, hn05, hn15, hst5, hren5⟩; obtain ⟨rfl, rfl⟩ := ab_moved bs F5 e5 hren5; obtain ⟨⟨cn5, D5, hD5, hcn5⟩, hcalm5, hbel5⟩ := hst5; have HD5 := Aside0.mk hD5; have HCN5 := Aside0.mk hcn5; have HNN5 := Aside0.mk hn15; have HN05 := Aside0.mk hn05; have HB5 : Aside0 (Below w3.heap.size w3 w5) := ⟨(pw_below_drewN HB4.out n1).trans hbel5⟩; have k55 : ∀ n, (w5.drewN n).cell? ⟨q, 5, none⟩ = some (.slice A5 ps.length c5) := fun n => (KA.out _ (pw_below_drewN HB5.out n)).2; clear hren5 hD5 hcn5 hcalm5 hbel5 hn05 hn15)
            | (go_at_call 13; refine (dsk_crash (HD5.out.drewN n1) A5 c5 ps (Kd.C_drewN (Kd.C_below HC53.out HB5.out) _) HK5.out).mono ?_; rintro e w6 ⟨v6, L, ss, rfl, hns, hL, hLl, hcl, hb6⟩; obtain rfl := HD5.out.names_one (onlyB_iff bs) hns; obtain ⟨x, rfl⟩ : ∃ x, L = [x] := List.length_eq_one_iff.1 hLl; obtain ⟨nm, hnm, hx0, hxd⟩ := hcl.2 0 (Nat.zero_lt_succ 0); obtain rfl : [98] = nm := Option.some.inj hnm; obtain ⟨x0, d⟩ := x; obtain rfl : x0 = nB := hx0; obtain rfl : d = bs := crashOf_same hxd; obtain ⟨A7, c7, rfl, hc7, hC7⟩ := Kd.S_reads hL; have HD6 := Aside0.mk ((HD5.out.drewN n1).below hb6); have HB6 : Aside0 (Below w3.heap.size w3 w6) := ⟨below_le (pw_below_drewN HB5.out n1) hb6 (HB5.out.size)⟩; have HC7 := Aside0.mk hC7; have HCL7 := Aside0.mk hc7; have k64 := (KA.out w6 HB6.out).1; have HC46 := Aside0.mk (Kd.C_below HC43.out HB6.out); clear hns hL hLl hcl hb6 hnm hxd hC7 hc7 k55 k4))
          have hB7 : Below w6.heap.size w6 (w6.alloc (.cells #[.string ⟨#[98]⟩, .slice A4 d.length c4] 40)) := below_alloc (Below.refl _ _) _
          have hq7 := heap_alloc_new w6 (.cells #[.string ⟨#[98]⟩, .slice A4 d.length c4] 40)
          have HD7 := Aside0.mk (HD6.out.below hB7)
          have HB7 : Aside0 (Below w3.heap.size w3 (w6.alloc (.cells #[.string ⟨#[98]⟩, .slice A4 d.length c4] 40))) := ⟨below_le HB6.out hB7 HB6.out.size⟩
          have HC77 := Aside0.mk (Kd.C_below HC7.out hB7)
          have HC47 := Aside0.mk (Kd.C_below HC46.out hB7)
          have k4n : ∀ n, (w6.drewN n).cell? ⟨q, 4, none⟩ = some (.slice A4 d.length c4) := fun n => k64
          clear hB7 HD6 k64 k4n
          generalize w6.alloc (.cells #[.string ⟨#[98]⟩, .slice A4 d.length c4] 40) = w7 at *
          refine (lecternref0_EqFiles.calls 20002 A7 c7 [⟨nB, d⟩] (some ⟨w6.heap.size, 0, none⟩) 1 [⟨nB, d⟩] true w7 HC77.out HCL7.out (one_cell (x := ⟨nB, d⟩) hq7 HC47.out HK4.out) (show 1 ≤ 1 by decide) (eqFiles_one ⟨nB, d⟩ (show d.length ≤ _ by have := HN4.out; omega) 20000 (show d.length < _ by have := HN4.out; omega))).mono ?_
          rintro e w8 ⟨rfl, hb8⟩
          have HD8 := Aside0.mk (HD7.out.below hb8)
          have HB8 : Aside0 (Below w3.heap.size w3 w8) := ⟨below_le HB7.out hb8 HB7.out.size⟩
          clear hb8 hq7 HD7 HB7 HC77 HC47
          go_wp2_with fail
          refine (dsk_rename HD8.out (by have := HN05.out; omega) (by have := HNN5.out; omega) (by have := HCN5.out; omega) nA nB (by decide) (by decide)).mono ?_
          rintro e w9 ⟨e9, F9, n9, rfl, hn09, hn19, hst9, hren9⟩
          obtain ⟨rfl, rfl⟩ := ab_gone d F9 e9 hren9
          obtain ⟨⟨cn9, D9, hD9, hcn9⟩, hcalm9, hbel9⟩ := hst9
          have HB9 : Aside0 (Below w3.heap.size w3 w9) := ⟨HB8.out.trans hbel9⟩
          have HD9 := Aside0.mk hD9
          have HCN9 : Aside0 (cn9 ≤ 10) := ⟨by have := HCN5.out; omega⟩
          have HN9 : Aside0 (0 ≤ n9 ∧ n9 ≤ 10) := ⟨by have := HNN5.out; exact ⟨hn09, by omega⟩⟩
          clear hren9 hD9 hcn9 hcalm9 hbel9 hn09 hn19 HD8 HB8
          go_wp2_with fail
          refine (lecternlaw18_num.calls _ _ _ rfl).mono ?_
          rintro e w' ⟨rfl, ⟨m9, rfl⟩⟩
          go_wp2_with fail
          refine (dsk_rename (HD9.out.drewN m9) (by have := HN9.out; omega) (by have := HN9.out; omega) (by have := HCN9.out; omega) nB nB (by decide) (by decide)).mono ?_
          rintro e w10 ⟨e10, F10, n10, rfl, hn010, hn110, hst10, hren10⟩
          obtain ⟨rfl, rfl⟩ := bb_same d F10 e10 hren10
          obtain ⟨⟨cn10, D10, hD10, hcn10⟩, hcalm10, hbel10⟩ := hst10
          have HB10 : Aside0 (Below w3.heap.size w3 w10) := ⟨(pw_below_drewN HB9.out m9).trans hbel10⟩
          have HD10 := Aside0.mk hD10
          have HCN10 : Aside0 (cn10 ≤ 20) := ⟨by have := HCN9.out; omega⟩
          have HN10 : Aside0 (0 ≤ n10 ∧ n10 ≤ 20) := ⟨by have := HN9.out; exact ⟨hn010, by omega⟩⟩
          clear hren10 hD10 hcn10 hcalm10 hbel10 hn010 hn110 HD9 HB9
          go_wp2_with fail
          refine (lecternlaw18_num.calls _ _ _ rfl).mono ?_
          rintro e w' ⟨rfl, ⟨m10, rfl⟩⟩
          go_wp2_with fail
          refine (dsk_remove (HD10.out.drewN m10) (by have := HN10.out; omega) (by have := HN10.out; omega) nA (by decide) name_a).mono ?_
          rintro e w11 ⟨e11, F11, rfl, hst11, hren11⟩
          obtain ⟨rfl, rfl⟩ := a_gone d F11 e11 hren11
          obtain ⟨⟨cn11, D11, hD11, hcn11⟩, hcalm11, hbel11⟩ := hst11
          have HB11 : Aside0 (Below w3.heap.size w3 w11) := ⟨(pw_below_drewN HB10.out m10).trans hbel11⟩
          have HD11 := Aside0.mk hD11
          clear hren11 hD11 hcn11 hcalm11 hbel11 HD10 HB10
          go_wp2_with fail
          refine (lecternlaw18_num.calls _ _ _ rfl).mono ?_
          rintro e w' ⟨rfl, ⟨m11, rfl⟩⟩
          go_wp2_with fail
          refine (dsk_remove (HD11.out.drewN m11) (by have := HN10.out; omega) (by have := HN10.out; omega) nB (by decide) name_b).mono ?_
          rintro e w12 ⟨e12, F12, rfl, hst12, hren12⟩
          obtain ⟨rfl, rfl⟩ := b_gone d F12 e12 hren12
          obtain ⟨⟨cn12, D12, hD12, hcn12⟩, hcalm12, hbel12⟩ := hst12
          have HB12 : Aside0 (Below w3.heap.size w3 w12) := ⟨(pw_below_drewN HB11.out m11).trans hbel12⟩
          have HD12 := Aside0.mk hD12
          have HZ12 : Aside0 (Maps.size D12 = 0) := ⟨by rw [← hD12.keys_len, hD12.names_nil (fun _ => rfl)]; rfl⟩
          have k125 : ∀ n, (w12.drewN n).cell? ⟨q, 5, none⟩ = some (.slice A5 ps.length c5) := fun n => (KA.out _ (pw_below_drewN HB12.out n)).2
          clear hren12 hD12 hcn12 hcalm12 hbel12 HD11 HB11
          go_wp2_with fail
          refine (lecternlaw18_num.calls _ _ _ rfl).mono ?_
          rintro e w' ⟨rfl, ⟨m12, rfl⟩⟩
          go_wp2_with fail
          refine (list_calls g b cn12 _ D12 _ (HD12.out.drewN m12).pow (HD12.out.drewN m12).files (by have := HZ12.out; omega)).mono ?_
          rintro e w13 ⟨A13, c13, rfl, hb13⟩
          rw [HZ12.out]
          have HD13 := Aside0.mk ((HD12.out.drewN m12).below hb13)
          have HB13 : Aside0 (Below w3.heap.size w3 w13) := ⟨below_le (pw_below_drewN HB12.out m12) hb13 HB12.out.size⟩
          have k135 : ∀ n, (w13.drewN n).cell? ⟨q, 5, none⟩ = some (.slice A5 ps.length c5) := fun n => (KA.out (w13.drewN n) (pw_below_drewN HB13.out n)).2
          clear hb13 k125 HD12 HB12
          go_wp2_with fail
          refine (read_none g b cn12 (n10 + 1 + 1) D12 nB (by decide) w13 name_b HD13.out.pow HD13.out.files (HD13.out.at_none (nm := nB.data.toList) rfl)).mono ?_
          rintro e w14 ⟨rfl, ⟨m14, rfl⟩⟩
          go_wp2_with fail
          refine (lecternlaw18_num.calls _ _ _ rfl).mono ?_
          rintro e w' ⟨rfl, ⟨m15, rfl⟩⟩
          have k155 : ((w13.drewN m14).drewN m15).cell? ⟨q, 5, none⟩ = some (.slice A5 ps.length c5) := (KA.out ((w13.drewN m14).drewN m15) (pw_below_drewN (pw_below_drewN HB13.out m14) m15)).2
          go_wp2_with fail
          refine (dsk_crash (HD13.out.drewN (m14 + m15)) A5 c5 ps (Kd.C_drewN (Kd.C_below HC53.out HB13.out) _) HK5.out).mono ?_
          rintro e w16 ⟨v16, L16, ss16, rfl, hns, hL, hLl, hcl, hb16⟩
          have hss : ss16 = [] := by
            have h1 := (names_perm hns).length_eq
            rw [HD13.out.keys_len, HZ12.out] at h1
            exact List.eq_nil_of_length_eq_zero h1
          subst hss
          obtain rfl : L16 = [] := List.eq_nil_of_length_eq_zero hLl
          obtain ⟨A16, c16, rfl, _, _⟩ := Kd.S_reads hL
          have HB16 : Aside0 (Below w3.heap.size w3 w16) := ⟨below_le (pw_below_drewN HB13.out (m14 + m15)) hb16 HB13.out.size⟩
          clear hns hL hLl hcl hb16 k155 k135 HD13 HB13
          go_wp2_with fail
          refine (lecternlaw18_num.calls _ _ _ rfl).mono ?_
          rintro e w' ⟨rfl, ⟨m16, rfl⟩⟩
          go_wp2_with fail
          go_roundg g0
          case measure => exact HGM.out.1
          case rel => exact ⟨i + 1, HGM.out.2.1, HGM.out.2.2, rfl, pw_below_drewN (below_step HW3.out HB16.out) _⟩
        · have hd1 : decide (i < l1.length) = true := decide_eq_true hlt
          have hd2 : decide ((i : Int) < 10) = false := decide_eq_false (by omega)
          go_wp2_with ((go_at_call 14; refine (wakes_true _).mono ?_; rintro e w' ⟨rfl, hwk⟩))
          go_ret
          exact ⟨rfl, below_step HL1.out (below_step HBI.out (by exact hwk))⟩
      · have hd1 : decide (i < l1.length) = false := decide_eq_false hlt
        go_wp2_with ((go_at_call 14; refine (wakes_true _).mono ?_; rintro e w' ⟨rfl, hwk⟩))
        go_ret
        exact ⟨rfl, below_step HL1.out (below_step HBI.out (by exact hwk))⟩
end Go.Proofs.Ytoonepmnlgfikaa.D
/-! DMLaw -/
namespace Go.Proofs.Ytoonepmnlgfikaa.D
open Go.ChangeShapes Go.WideShapes Go.RowKit Go.Proofs.YtoonepmnlgfikaaW.PrintWords Go.Proofs.YtoonepmnlgfikaaW.PrintLast Go.Proofs.YtoonepmnlgfikaaW.PrintMore Go.Proofs.Ytoonepmnlgfikaa.Base Go.Proofs.Ytoonepmnlgfikaa.Opening Go.Maps
set_option linter.unusedVariables false
set_option linter.unusedSimpArgs false
theorem moves_walk (x : S25) (cs : List Value) (w : World) (hk : k25.K w x cs) (ok : ok25 x) :
    Calls Try.prog 4 #[.agg ⟨cs⟩] w fun e w' => e = .returned (.bool true) ∧ Below w.heap.size w w' := by
  obtain ⟨c0, c1, rfl, ⟨A0, n0, rfl, h0, hC0⟩, ⟨A1, n1, rfl, h1, hC1⟩⟩ := hk
  exact moves_walk0 A0 n0 x.f0 A1 n1 x.f1 w hC0 h0 hC1 h1 (fun y hy => by have := (ok.1.2 y hy).2.1; omega) (fun y hy => ⟨by have := (ok.2.2 y hy).2.2.2.2.1.1; omega, by have := (ok.2.2 y hy).2.2.2.2.2.1; omega⟩) (by have := ok.2.1; omega)
end Go.Proofs.Ytoonepmnlgfikaa.D
