/- DiskTorn: the walk. -/
import Derived.Test.YtoonepmnlgfikaaDTPure
import Derived.Test.YtoonepmnlgfikaaOpen
import Derived.BigQuiet
namespace Go.Proofs.Ytoonepmnlgfikaa.D
open Go.RowKit Go.Proofs.YtoonepmnlgfikaaW.PrintWords Go.Proofs.YtoonepmnlgfikaaW.PrintLast Go.Proofs.YtoonepmnlgfikaaW.PrintMore Go.Proofs.Ytoonepmnlgfikaa.Base Go.Proofs.Ytoonepmnlgfikaa.Opening Go.Maps Go.Sort Go.Shelf
set_option linter.unusedVariables false
set_option linter.unusedSimpArgs false
theorem C_syncd (X : World) (q : Nat) (h : X.heap[q]? = some (.cells #[.int .u8 115, .int .u8 121, .int .u8 110, .int .u8 99, .int .u8 101, .int .u8 100] 5 (6, 7))) : Kd.C (Kd.int .u8) X (some ⟨q, 0, none⟩) syncd.length syncd :=
  Kd.C_of_reads (enc := Value.int .u8) (d := (0 : Int)) ⟨rfl, by decide, fun _ => ⟨_, rfl, fun j hj => by
    rw [add_plain, cell_of_row X q j _ 5 (6, 7) h]
    match j, hj with
    | 0, _ => rfl
    | 1, _ => rfl
    | 2, _ => rfl
    | 3, _ => rfl
    | 4, _ => rfl
    | 5, _ => rfl⟩⟩
theorem C_heap {w W : World} {k : IntKind} {A : Option Addr} {n : Nat} {xs : List Int} (h : Kd.C (Kd.int k) w A n xs) (hk : ∀ i, i < w.heap.size → W.heap[i]? = w.heap[i]?) : Kd.C (Kd.int k) W A n xs := by
  have hr := Kd.reads_of_C (enc := Value.int k) (d := (0 : Int)) h
  refine Kd.C_of_reads (enc := Value.int k) (d := (0 : Int)) ⟨hr.1, hr.2.1, fun hn => ?_⟩
  obtain ⟨ad, e, hc⟩ := hr.2.2 hn
  refine ⟨ad, e, fun j hj => ?_⟩
  have h1 := hc j hj
  have h2 := World.block_lt_of_cell? w _ h1
  unfold World.cell? at h1 ⊢
  rw [hk _ h2]
  exact h1
theorem strKeys_one (nm : List UInt8) (p : Option Nat) : strKeys ((DataW.map [] : DataW Unit).put (.string nm) (pe p)) = [nm] := rfl
theorem names_one {nm : List UInt8} {p : Option Nat} {ss : List (List UInt8)} (h : namesOf ((DataW.map []).put (.string nm) (pe p)) ss) : ss = [nm] := by
  obtain ⟨l, hp, rfl⟩ := h
  rw [strKeys_one] at hp
  obtain rfl := List.perm_singleton.1 hp
  exact List.mergeSort_singleton nm
theorem tk_facts (k n m : Nat) (hk6 : 6 ≤ k) (hk : k < n) (hlen : n = 6 ∨ n = 6 + m) (hm : m ≤ 10000) : decide ((k : Int) < (n : Int)) = true ∧ ((k : Int) < (n : Int)) = True ∧ ((0 : Int) ≤ (k : Int)) = True ∧ wrap64 ((k : Int) + 1) = (k : Int) + 1 ∧ wrap64 ((k : Int) - 6) = ((k - 6 : Nat) : Int) ∧ k - 6 < m ∧ 0 < n ∧ 0 < m ∧ (((k - 6 : Nat) : Int) < (m : Int)) = True ∧ ((0 : Int) ≤ ((k - 6 : Nat) : Int)) = True :=
  ⟨decide_eq_true (by omega), eq_true (by omega), eq_true (by omega), wrap64_in _ (by omega) (by omega), by rw [wrap64_in _ (by omega) (by omega)]; omega, by omega, by omega, by omega, eq_true (by omega), eq_true (by omega)⟩
theorem tk_next (k kq n : Nat) (h1 : k + kq = n) (h2 : k < n) : kq - 1 < kq ∧ k + 1 + (kq - 1) = n := by omega
theorem nameF : nameB ⟨#[102]⟩ = true := by decide +kernel
/-- One more round, or none. -/
def Turns (n : Nat) (w1 : World) (k : Nat) (v : Value) (w' : World) : Prop := ∃ i : Nat, i + k = 40 ∧ i ≤ n ∧ v = .int .i64 i ∧ Below w1.heap.size w1 w'
set_option maxRecDepth 100000 in
set_option maxHeartbeats 3200000 in
theorem torn_walk0 (A0 : Option Addr) (c0 : Nat) (l0 : List S40) (A1 : Option Addr) (c1 : Nat) (l1 : List S30) (w : World) (hr0 : Kd.C k40 w A0 l0.length l0) (hc0 : l0.length ≤ c0) (hr1 : Kd.C k30 w A1 l1.length l1) (hc1 : l1.length ≤ c1)
    (hs0 : ∀ x ∈ l0, x.f1.length ≤ 140737488351232) (hs1 : ∀ x ∈ l1, x.f4.length ≤ 140737488351232 ∧ x.f5.length ≤ 140737488351232) (hl1 : l1.length ≤ 140737488351232) :
    Calls Try.prog 3 #[.agg #[.slice A0 l0.length c0, .slice A1 l1.length c1]] w fun e w' => e = .returned (.bool true) ∧ Below w.heap.size w w' := by
  obtain ⟨b, hb⟩ := heavy_some l0 l1
  have HB := Aside0.mk hb
  have HR0 := Aside0.mk hr0
  have HC0 := Aside0.mk hc0
  have HR1 := Aside0.mk hr1
  have HC1 := Aside0.mk hc1
  have HSM : Aside0 (b = false → ∀ j, j < 40 → j < l1.length → (rd_T30 l1 (j : Int)).f4.length ≤ 10000 ∧ (rd_T30 l1 (j : Int)).f5.length ≤ 10000) := ⟨fun h => light l0 l1 hs0 hs1 (h ▸ hb)⟩
  have hu82 := Try.underlying25
  clear hb hr0 hc0 hr1 hc1 hs1 hs0
  go_enter Try.func3, Try.ntmps3
  go_wp2_with fail
  have hbx := heap_alloc_new w (.cells #[.slice A0 l0.length c0, .slice A1 l1.length c1] 25)
  have hbl : Below w.heap.size w (w.alloc (.cells #[.slice A0 l0.length c0, .slice A1 l1.length c1] 25)) := below_alloc (Below.refl _ _) _
  have HL := Aside0.mk hbl
  clear hbl
  generalize w.alloc (.cells #[.slice A0 l0.length c0, .slice A1 l1.length c1] 25) = w0 at *
  refine (lecternlaw18_heavy.calls 100 A0 c0 l0 A1 c1 l1 b _ (Kd.C_below HR0.out HL.out) HC0.out (Kd.C_below HR1.out HL.out) HC1.out HB.out).mono ?_
  rintro e w1 ⟨rfl, hbel⟩
  have hbx1 := (hbel.block _ (blk_lt hbx)).trans hbx
  have hp1 : w.heap.size < w1.heap.size := blk_lt hbx1
  have HR1' : Aside0 (Kd.C k30 w1 A1 l1.length l1) := ⟨Kd.C_below (Kd.C_below HR1.out HL.out) hbel⟩
  have HL1 : Aside0 (Below w.heap.size w w1) := ⟨below_step HL.out hbel⟩
  clear hbel hbx HR0 HC0 HR1 HL HB
  cases b with
  | true =>
    go_wp2_with fail
    go_ret
    exact ⟨rfl, HL1.out⟩
  | false =>
    have hbb : (false = true) = False := by simp
    go_wp2_with fail
    go_loopg [3, 4, 5, 6, 7, 8, 9] 40 (fun kq v3 v4 v5 v6 v7 v8 v9 w' => Turns l1.length w1 kq v3 w')
    case atStart => exact ⟨0, rfl, Nat.zero_le _, rfl, Below.refl _ _⟩
    case round =>
      obtain ⟨i, hik, hil, rfl, hbi⟩ := hrel
      have HBI := Aside0.mk hbi
      have hbxi := (hbi.block _ hp1).trans hbx1
      have x0 : wr.cell? ⟨w.heap.size, 1, none⟩ = some (.slice A1 l1.length c1) := (blk_cell hbxi 1).trans rfl
      clear hbi hbxi
      by_cases hlt : i < l1.length
      · by_cases h40 : i < 40
        · have hd1 : decide (i < l1.length) = true := decide_eq_true hlt
          have hd2 : decide ((i : Int) < 40) = true := decide_eq_true (by omega)
          obtain ⟨ad, A4, c4, A5, c5, hA, e0, e1, e2, e3, e4, e5, hc4, hC4, hc5, hC5⟩ := at_T30 (Kd.C_below HR1'.out HBI.out) (i : Int) (by omega) (by omega)
          obtain ⟨hn4, hn5⟩ := HSM.out (by trivial) i h40 hlt
          generalize hact : rd_T30 l1 (i : Int) = act at *
          obtain ⟨do_, nA, nB, n_, bs, ps⟩ := act
          dsimp only at *
          have HC4 := Aside0.mk hC4
          have HC5 := Aside0.mk hC5
          have HN4 := Aside0.mk hn4
          have HN5 := Aside0.mk hn5
          have HK4 := Aside0.mk hc4
          have HK5 := Aside0.mk hc5
          rw [Int.toNat_natCast] at e0 e1 e2 e3 e4 e5
          clear hC4 hC5 hn4 hn5 hc4 hc5
          subst hA
          go_wp2_with fail
          have hBa : Below wr.heap.size wr (wr.alloc (.cells #[.int .i64 do_, .string nA, .string nB, .int .i64 n_, .slice A4 bs.length c4, .slice A5 ps.length c5] 30)) := below_alloc (Below.refl _ _) _
          have hNa := heap_alloc_new wr (.cells #[.int .i64 do_, .string nA, .string nB, .int .i64 n_, .slice A4 bs.length c4, .slice A5 ps.length c5] 30)
          generalize wr.alloc (.cells #[.int .i64 do_, .string nA, .string nB, .int .i64 n_, .slice A4 bs.length c4, .slice A5 ps.length c5] 30) = wa at *
          obtain ⟨q, hq⟩ : ∃ q, q = wr.heap.size := ⟨_, rfl⟩
          rw [← hq] at hNa
          have HQ := Aside0.mk hq
          have HBA := Aside0.mk hBa
          have HNA := Aside0.mk hNa
          have HC4 : Aside0 (Kd.C (Kd.int .u8) wa A4 bs.length bs) := ⟨Kd.C_below HC4.out HBA.out⟩
          have HC5 : Aside0 (Kd.C (Kd.int .i64) wa A5 ps.length ps) := ⟨Kd.C_below HC5.out HBA.out⟩
          have HQA : Aside0 (q < wa.heap.size) := ⟨blk_lt hNa⟩
          rw [← hq]
          clear hBa hNa hq e0 e1 e2 e3 e4 e5
          refine (new_nil wa).mono ?_
          rintro e w2 ⟨g, b, rfl, hgw, hbw, hb1, hg1, hbel⟩
          have HG1 := Aside0.mk hg1
          have HB1 := Aside0.mk hb1
          have HBEL := Aside0.mk hbel
          have HGW := Aside0.mk hgw
          have HBW := Aside0.mk hbw
          have HGB : Aside0 (b ≠ g) := ⟨by rintro rfl; rw [hb1] at hg1; cases hg1⟩
          clear hg1 hb1 hbel hgw hbw
          go_wp2_with fail
          refine (lecternlaw18_num.calls _ _ _ rfl).mono ?_
          rintro e w' ⟨rfl, ⟨n1, rfl⟩⟩
          have hcv : Sem.run Try.prog (convert 27 27 (.slice (some ⟨w2.heap.size, 0, none⟩) 6 6)) ((w2.drewN n1).alloc (.cells #[.int .u8 115, .int .u8 121, .int .u8 110, .int .u8 99, .int .u8 101, .int .u8 100] 5)) = .ok (.slice (some ⟨w2.heap.size, 0, none⟩) 6 6) ((w2.drewN n1).alloc (.cells #[.int .u8 115, .int .u8 121, .int .u8 110, .int .u8 99, .int .u8 101, .int .u8 100] 5 (6, 7))) :=
            Go.Lib.run_convert_bytes_const (P := Try.prog) (w2.drewN n1) 27 5 #[.int .u8 115, .int .u8 121, .int .u8 110, .int .u8 99, .int .u8 101, .int .u8 100] 6 6 Try.underlying27 Try.underlying5
          go_wp2_with fail
          clear hcv
          have hB2 : Below w2.heap.size w2 ((w2.drewN n1).alloc (.cells #[.int .u8 115, .int .u8 121, .int .u8 110, .int .u8 99, .int .u8 101, .int .u8 100] 5 (6, 7))) := below_alloc (pw_below_drewN (Below.refl _ _) n1) _
          have hq2 : ((w2.drewN n1).alloc (.cells #[.int .u8 115, .int .u8 121, .int .u8 110, .int .u8 99, .int .u8 101, .int .u8 100] 5 (6, 7))).heap[w2.heap.size]? = some (.cells #[.int .u8 115, .int .u8 121, .int .u8 110, .int .u8 99, .int .u8 101, .int .u8 100] 5 (6, 7)) := heap_alloc_new (w2.drewN n1) _
          have hg2 : PowAt ((w2.drewN n1).alloc (.cells #[.int .u8 115, .int .u8 121, .int .u8 110, .int .u8 99, .int .u8 101, .int .u8 100] 5 (6, 7))) g b 0 := (hB2.block g (blk_lt HG1.out)).trans HG1.out
          have hm2 : Files ((w2.drewN n1).alloc (.cells #[.int .u8 115, .int .u8 121, .int .u8 110, .int .u8 99, .int .u8 101, .int .u8 100] 5 (6, 7))) b 0 (.map []) := Files_empty ((hB2.block b (blk_lt HB1.out)).trans HB1.out)
          have HGL : Aside0 (g < w2.heap.size) := ⟨blk_lt HG1.out⟩
          have HBL : Aside0 (b < w2.heap.size) := ⟨blk_lt HB1.out⟩
          have hB02 : Below wa.heap.size wa ((w2.drewN n1).alloc (.cells #[.int .u8 115, .int .u8 121, .int .u8 110, .int .u8 99, .int .u8 101, .int .u8 100] 5 (6, 7))) := below_step HBEL.out hB2
          generalize (w2.drewN n1).alloc (.cells #[.int .u8 115, .int .u8 121, .int .u8 110, .int .u8 99, .int .u8 101, .int .u8 100] 5 (6, 7)) = x2 at *
          have HX2 : Aside0 (w2.heap.size < x2.heap.size) := ⟨blk_lt hq2⟩
          have HB02 := Aside0.mk hB02
          clear hB02 HBEL
          refine (append_new g b 0 (by decide) 0 (by decide) (by decide) (.map []) ⟨#[102]⟩ (by decide) syncd (some ⟨w2.heap.size, 0, none⟩) 6 (by decide) x2
            (fun W hW => C_syncd W _ ((hW w2.heap.size (blk_lt hq2) (by have := HGL.out; omega) (by have := HBL.out; omega)).trans hq2)) nameF hg2 hm2 HGB.out (at_none _) (by decide)).mono ?_
          rintro e w3 ⟨rfl, hg3, f, v3, hm3, hf3l, hf3, hr3, hk3, hs3, hbw3⟩
          obtain ⟨A3, c3, rfl⟩ := Kd.R_slice hr3
          have HFB : Aside0 (f ≠ b ∧ f ≠ g) := ⟨by have := HBL.out; have := HX2.out; omega, by have := HGL.out; have := HX2.out; omega⟩
          have HG3 := Aside0.mk hg3
          have HM3 := Aside0.mk hm3
          have HF3 := Aside0.mk hf3
          have HR3 := Aside0.mk hr3
          have HK3 := Aside0.mk hk3
          have HS3 := Aside0.mk hs3
          have HW3 := Aside0.mk hbw3
          have HF3L := Aside0.mk hf3l
          clear hbw3 hg3 hm3 hf3 hr3 hk3 hB2 hq2 hg2 hm2 hs3 hf3l
          go_wp2_with fail
          refine (lecternlaw18_num.calls _ _ _ rfl).mono ?_
          rintro e w' ⟨rfl, ⟨n3, rfl⟩⟩
          go_wp2_with fail
          refine (sync_hit g b (0 + 1) f _ A3 _ c3 (0 + 1) (by decide) (by decide) _ ⟨#[102]⟩ (by decide) _ nameF (by exact HG3.out) (by exact HM3.out) HGB.out (at_first f _) (by exact HF3.out)).mono ?_
          rintro e w4 ⟨rfl, hg4, hf4, hk4, hs4, hbw4⟩
          have HM4 : Aside0 (Files w4 b (0 + 1) ((DataW.map []).put (.string [102]) (pe (some f)))) := ⟨Files.of_block HM3.out (hk4 b (World.ownsMap.lt HM3.out) HGB.out (Ne.symm HFB.out.1))⟩
          have HR4 : Aside0 (Kd.R (Kd.int .u8) 5 w4 x2.heap.size (fun k => k ≠ f) (.slice A3 syncd.length c3) syncd) := ⟨Kd.R_mono (Kd.R_step (Kd.R_bound HR3.out) (fun k hk hl => hk4 k hl (by have := hk.2.1; have := HGL.out; have := HX2.out; omega) hk.1)) (fun k hk => hk.1)⟩
          have HQ4 : Aside0 (w4.heap[q]? = some (.cells #[.int .i64 do_, .string nA, .string nB, .int .i64 n_, .slice A4 bs.length c4, .slice A5 ps.length c5] 30 (0, 0))) := ⟨by
            have h1 := HQA.out
            have h2 := HGW.out
            have h3 := HBW.out
            have h4 := HB02.out.size
            have h5 := HS3.out
            have h6 := HF3L.out
            exact (hk4 q (by show q < w3.heap.size; omega) (by omega) (by omega)).trans ((HK3.out q (by omega) (by omega) (by omega)).trans ((HB02.out.block q h1).trans HNA.out))⟩
          have HW4 : Aside0 (Below wa.heap.size wa w4) := ⟨by
            have h2 := HGW.out
            have h3 := HBW.out
            have h4 := HB02.out.size
            have h5 := HS3.out
            have h6 := HF3L.out
            have b3 : Below wa.heap.size wa w3 := HB02.out.trans (HW3.out _ h2 h3 h4)
            exact (pw_below_drewN b3 n3).trans (hbw4 _ h2 (by omega) (by show _ ≤ w3.heap.size; omega))⟩
          have HS4 : Aside0 (x2.heap.size ≤ w4.heap.size) := ⟨Nat.le_trans HS3.out (by exact hs4)⟩
          have HG4 := Aside0.mk hg4
          have HF4 := Aside0.mk hf4
          clear hg4 hf4 hk4 hs4 hbw4 HR3 HM3 HG3 HF3 HK3 HW3
          go_wp2_with fail
          refine (lecternlaw18_num.calls _ _ _ rfl).mono ?_
          rintro e w' ⟨rfl, ⟨n4, rfl⟩⟩
          have k4 : (w4.drewN n4).cell? ⟨q, 4, none⟩ = some (.slice A4 bs.length c4) := (blk_cell (show (w4.drewN n4).heap[q]? = _ from HQ4.out) 4).trans rfl
          go_wp2_with fail
          refine (append_hit g b (0 + 1) f _ A3 c3 syncd (0 + 1 + 1) (by decide) (by decide) _ ⟨#[102]⟩ (by decide) bs A4 c4 (by have := HN4.out; show 6 + bs.length ≤ _; omega) (w4.drewN n4)
            (fun W hW => C_heap HC4.out (fun i hi => by
              have h2 := HGW.out
              have h3 := HB02.out.size
              have h4 := HF3L.out
              have h5 := HW4.out.size
              exact (hW i (by show i < w4.heap.size; omega) (by omega) (by omega)).trans (HW4.out.block i hi)))
            (fun W hW => (Kd.R_reads' (Kd.R_step (w1 := W) (Kd.R_bound HR4.out) (fun k hk hl => hW k hl (by have := hk.2.1; have := HGL.out; have := HX2.out; omega) hk.1))).2.2)
            nameF (by exact HG4.out) (by exact HM4.out) HGB.out HFB.out.1 (at_first f _) (by exact HF4.out)).mono ?_
          rintro e w5 ⟨rfl, hg5, hm5, v5, hf5, hr5, hk5, hs5, hbw5⟩
          obtain ⟨A6, c6, rfl⟩ := Kd.R_slice hr5
          have HFO : Aside0 (FileOk w5 f syncd (syncd ++ bs)) := ⟨by
            have r3 := Kd.R_reads' (Kd.R_step (w1 := w5) (Kd.R_bound HR4.out) (fun k hk hl => hk5 k hl (by have := hk.2.1; have := HGL.out; have := HX2.out; omega) hk.1))
            have r5 := Kd.R_reads' hr5
            exact ⟨A3, c3, A6, c6, hf5, r3.2.2, r3.2.1, r5.2.2, r5.2.1, by decide, by have := HN4.out; rw [List.length_append]; show 6 + bs.length ≤ _; omega⟩⟩
          have HQ5 : Aside0 (w5.heap[q]? = some (.cells #[.int .i64 do_, .string nA, .string nB, .int .i64 n_, .slice A4 bs.length c4, .slice A5 ps.length c5] 30 (0, 0))) := ⟨by
            have h1 := HQA.out
            have h2 := HGW.out
            have h3 := HBW.out
            have h4 := HB02.out.size
            have h6 := HF3L.out
            have h7 := HW4.out.size
            exact (hk5 q (by show q < w4.heap.size; omega) (by omega) (by omega)).trans HQ4.out⟩
          have HW5 : Aside0 (Below wa.heap.size wa w5) := ⟨by
            have h2 := HGW.out
            have h3 := HBW.out
            have h4 := HB02.out.size
            have h6 := HF3L.out
            have h7 := HW4.out.size
            exact (pw_below_drewN HW4.out n4).trans (hbw5 _ h2 (by omega) (by show _ ≤ w4.heap.size; omega))⟩
          have HC4' : Aside0 (Kd.C (Kd.int .u8) w5 A4 bs.length bs) := ⟨Kd.C_below HC4.out HW5.out⟩
          have HC5' : Aside0 (Kd.C (Kd.int .i64) w5 A5 ps.length ps) := ⟨Kd.C_below HC5.out HW5.out⟩
          have HG5 := Aside0.mk hg5
          have HM5 := Aside0.mk hm5
          clear hg5 hm5 hf5 hr5 hk5 hs5 hbw5 HR4 HM4 HG4 HF4 k4 HQ4
          have k5 : ∀ n, (w5.drewN n).cell? ⟨q, 5, none⟩ = some (.slice A5 ps.length c5) := fun n => (blk_cell (show (w5.drewN n).heap[q]? = _ from HQ5.out) 5).trans rfl
          go_wp2_with fail
          refine (lecternlaw18_num.calls _ _ _ rfl).mono ?_
          rintro e w' ⟨rfl, ⟨n5, rfl⟩⟩
          go_wp2_with fail
          refine (crash_calls g b (0 + 1) _ ((DataW.map []).put (.string [102]) (pe (some f))) (fun _ => (syncd, syncd ++ bs)) A5 c5 ps _ (by exact HG5.out) (by exact HM5.out) (show 1 ≤ 1000 by decide) (fun nm hnm => by
            rw [strKeys_one] at hnm
            obtain rfl := List.mem_singleton.1 hnm
            exact ⟨by decide, f, at_first f _, HFO.out⟩) (by exact HC5'.out) HK5.out).mono ?_
          rintro e w6 ⟨v6, L, ss, rfl, hns, hL, hLl, hcl, hb6⟩
          obtain rfl := names_one hns
          obtain ⟨x, rfl⟩ : ∃ x, L = [x] := List.length_eq_one_iff.1 hLl
          obtain ⟨nm, hnm, hx0, hxd⟩ := hcl.2 0 (Nat.zero_lt_succ 0)
          obtain rfl : [102] = nm := Option.some.inj hnm
          obtain ⟨x0, d⟩ := x
          obtain rfl : x0 = ⟨#[102]⟩ := hx0
          have hok : TornOk bs d := torn_ok bs d hxd
          obtain ⟨A7, c7, rfl, hc7, hC7⟩ := Kd.S_reads hL
          obtain ⟨ad7, A8, c8, e7, k70, k71, hc8, hC8⟩ := at_T40 hC7 0 (by decide) (show (0 : Int) < 1 by decide)
          have k70 : w6.cell? ad7 = some (.string ⟨#[102]⟩) := by simpa [Addr.add, rd_T40] using k70
          have k71 : w6.cell? ⟨ad7.block, ad7.off + 1, none⟩ = some (.slice A8 d.length c8) := by simpa [Addr.add, rd_T40] using k71
          subst e7
          have HC8 : Aside0 (Kd.C (Kd.int .u8) w6 A8 d.length d) := ⟨hC8⟩
          have HOK := Aside0.mk hok
          have HC8L : Aside0 (d.length ≤ c8) := ⟨hc8⟩
          have HB6 : Aside0 (Below w5.heap.size w5 w6) := ⟨below_step (pw_below_drewN (Below.refl _ _) n5) hb6⟩
          clear hns hL hLl hcl hb6 hnm hxd hok hC7 hC8 k5 hc8
          have k4 : w6.cell? ⟨q, 4, none⟩ = some (.slice A4 bs.length c4) := (blk_cell ((HB6.out.block q (blk_lt HQ5.out)).trans HQ5.out) 4).trans rfl
          have HC4' : Aside0 (Kd.C (Kd.int .u8) w6 A4 bs.length bs) := ⟨Kd.C_below HC4'.out HB6.out⟩
          have hw4 : wrap64 (6 + (bs.length : Int)) = 6 + (bs.length : Int) := by have := HN4.out; exact wrap64_in _ (by omega) (by omega)
          have hd6 : 6 ≤ d.length := by have := HOK.out.len; omega
          obtain ⟨i5, hi5, _, hsz5, _⟩ := info_parts info5
          have hcut : ∀ W : World, (Instr.slice 27 (.slice A8 d.length c8) none (some (.int .i64 6)) none).run Try.prog W = .ok (.slice A8 6 c8) W := cut_to 27 5 .i64 Try.underlying27 hi5 A8 d.length c8 6 (by decide) (by omega) HC8L.out
          have hC6 : Kd.C (Kd.int .u8) w6 A8 6 syncd := by
            have h1 := Kd.C_take HC8.out hd6
            rw [HOK.out.head] at h1
            exact h1
          have hstr : (convert 27 9 (.slice A8 6 c8)).run Try.prog w6 = .ok (.string ⟨#[115, 121, 110, 99, 101, 100]⟩) w6 := (Kd.C_string (P := Try.prog) Try.underlying27 Try.underlying5 Try.underlying9 hC6).trans rfl
          have q6 : ((6 : Int) ≤ (d.length : Int)) = True := eq_true (by omega)
          have h10 : (wr.heap.size : Nat) = wr.heap.size := rfl
          clear hC6 hi5 hsz5
          obtain ⟨g0, hg0⟩ : ∃ g0, g0 = gk - 1 := ⟨_, rfl⟩
          obtain ⟨m0, hm0⟩ : ∃ m0, 6 + m0 = d.length := ⟨d.length - 6, by omega⟩
          have HGM : Aside0 (g0 < gk ∧ i + 1 + g0 = 40 ∧ i + 1 ≤ l1.length) := ⟨by omega⟩
          have HWZ : Aside0 (Below w1.heap.size w1 w6) := ⟨below_step HBI.out (below_step HBA.out (below_step HW5.out HB6.out))⟩
          clear hg0
          by_cases h6 : d.length = 6
          · have hb1 : ((d.length : Int) != 6) = false := by rw [h6]; rfl
            clear h6
            go_wp2_with fail
            go_loopg [9] m0 (fun kq v9 w' => ∃ k : Nat, Aside0 (k + kq = d.length) ∧ Aside0 (6 ≤ k) ∧ v9 = .int .i64 k ∧ Drawn0 w6 w')
            case atStart => exact ⟨6, ⟨hm0⟩, ⟨Nat.le_refl _⟩, rfl, 0, rfl⟩
            case round =>
              obtain ⟨k, HKK, HK6, rfl, n7, rfl⟩ := hrel
              by_cases hk : k < d.length
              · have ht := HOK.out.tail k HK6.out hk
                obtain ⟨hkd, q0, p0, hw1, hw6, hb6, hp8, hp4, q6', p6'⟩ := tk_facts k d.length bs.length HK6.out hk HOK.out.len HN4.out
                have hR8 := Kd.reads_of_C (enc := Value.int .u8) (d := (0 : Int)) HC8.out
                obtain ⟨ad8, e8, hc8⟩ := hR8.2.2 hp8
                have hx : (w6.drewN n7).cell? (ad8.add k) = some (.int .u8 (d.getD k 0)) := hc8 k hk
                have k4' : (w6.drewN n7).cell? ⟨q, 4, none⟩ = some (.slice A4 bs.length c4) := k4
                have hR4 := Kd.reads_of_C (enc := Value.int .u8) (d := (0 : Int)) HC4'.out
                obtain ⟨ad4, e4, hc4⟩ := hR4.2.2 hp4
                have hy : (w6.drewN n7).cell? (ad4.add (k - 6)) = some (.int .u8 (bs.getD (k - 6) 0)) := hc4 (k - 6) hb6
                have HK := Aside0.mk hk
                clear hR8 hc8 hR4 hc4 hk hp8 hp4 hb6
                have HWQ : Aside0 (Drawn0 w6 (w6.drewN n7)) := ⟨⟨n7, rfl⟩⟩
                generalize w6.drewN n7 = wq at *
                subst e8 e4
                generalize bs.getD (k - 6) 0 = y at *
                generalize d.getD k 0 = x at *
                by_cases hz : x = 0
                · subst hz
                  clear ht
                  go_wp2_with fail
                  go_quiet (fail)
                  go_wp2_with fail
                  go_roundg (gk - 1)
                  case measure => exact (tk_next _ _ _ HKK.out HK.out).1
                  case rel => exact ⟨k + 1, ⟨(tk_next _ _ _ HKK.out HK.out).2⟩, ⟨Nat.le_succ_of_le HK6.out⟩, (by rw [hw1]; rfl), Drawn0.step HWQ.out _⟩
                · obtain rfl : x = y := ht.resolve_left hz
                  clear ht
                  have hz' : (x != 0) = true := bne_iff_ne.2 hz
                  have hz2 : (x != x) = false := bne_self_eq_false x
                  clear hz
                  go_wp2_with fail
                  go_quiet (fail)
                  go_wp2_with fail
                  go_roundg (gk - 1)
                  case measure => exact (tk_next _ _ _ HKK.out HK.out).1
                  case rel => exact ⟨k + 1, ⟨(tk_next _ _ _ HKK.out HK.out).2⟩, ⟨Nat.le_succ_of_le HK6.out⟩, (by rw [hw1]; rfl), Drawn0.step HWQ.out _⟩
              · have hkd : decide ((k : Int) < (d.length : Int)) = false := decide_eq_false (fun h => hk (Int.ofNat_lt.1 h))
                go_wp2_with fail
                go_roundg g0
                case measure => exact HGM.out.1
                case rel => exact ⟨i + 1, HGM.out.2.1, HGM.out.2.2, rfl, pw_below_drewN HWZ.out _⟩
          · have hb1 : ((d.length : Int) != 6) = true := bne_iff_ne.2 (by omega)
            have hb2 : ((d.length : Int) != 6 + (bs.length : Int)) = false := by have := HOK.out.len; exact bne_eq_false_iff_eq.2 (by omega)
            go_wp2_with fail
            go_loopg [9] m0 (fun kq v9 w' => ∃ k : Nat, Aside0 (k + kq = d.length) ∧ Aside0 (6 ≤ k) ∧ v9 = .int .i64 k ∧ Drawn0 w6 w')
            case atStart => exact ⟨6, ⟨hm0⟩, ⟨Nat.le_refl _⟩, rfl, 0, rfl⟩
            case round =>
              obtain ⟨k, HKK, HK6, rfl, n7, rfl⟩ := hrel
              by_cases hk : k < d.length
              · have ht := HOK.out.tail k HK6.out hk
                obtain ⟨hkd, q0, p0, hw1, hw6, hb6, hp8, hp4, q6', p6'⟩ := tk_facts k d.length bs.length HK6.out hk HOK.out.len HN4.out
                have hR8 := Kd.reads_of_C (enc := Value.int .u8) (d := (0 : Int)) HC8.out
                obtain ⟨ad8, e8, hc8⟩ := hR8.2.2 hp8
                have hx : (w6.drewN n7).cell? (ad8.add k) = some (.int .u8 (d.getD k 0)) := hc8 k hk
                have k4' : (w6.drewN n7).cell? ⟨q, 4, none⟩ = some (.slice A4 bs.length c4) := k4
                have hR4 := Kd.reads_of_C (enc := Value.int .u8) (d := (0 : Int)) HC4'.out
                obtain ⟨ad4, e4, hc4⟩ := hR4.2.2 hp4
                have hy : (w6.drewN n7).cell? (ad4.add (k - 6)) = some (.int .u8 (bs.getD (k - 6) 0)) := hc4 (k - 6) hb6
                have HK := Aside0.mk hk
                clear hR8 hc8 hR4 hc4 hk hp8 hp4 hb6
                have HWQ : Aside0 (Drawn0 w6 (w6.drewN n7)) := ⟨⟨n7, rfl⟩⟩
                generalize w6.drewN n7 = wq at *
                subst e8 e4
                generalize bs.getD (k - 6) 0 = y at *
                generalize d.getD k 0 = x at *
                by_cases hz : x = 0
                · subst hz
                  clear ht
                  go_wp2_with fail
                  go_quiet (fail)
                  go_wp2_with fail
                  go_roundg (gk - 1)
                  case measure => exact (tk_next _ _ _ HKK.out HK.out).1
                  case rel => exact ⟨k + 1, ⟨(tk_next _ _ _ HKK.out HK.out).2⟩, ⟨Nat.le_succ_of_le HK6.out⟩, (by rw [hw1]; rfl), Drawn0.step HWQ.out _⟩
                · obtain rfl : x = y := ht.resolve_left hz
                  clear ht
                  have hz' : (x != 0) = true := bne_iff_ne.2 hz
                  have hz2 : (x != x) = false := bne_self_eq_false x
                  clear hz
                  go_wp2_with fail
                  go_quiet (fail)
                  go_wp2_with fail
                  go_roundg (gk - 1)
                  case measure => exact (tk_next _ _ _ HKK.out HK.out).1
                  case rel => exact ⟨k + 1, ⟨(tk_next _ _ _ HKK.out HK.out).2⟩, ⟨Nat.le_succ_of_le HK6.out⟩, (by rw [hw1]; rfl), Drawn0.step HWQ.out _⟩
              · have hkd : decide ((k : Int) < (d.length : Int)) = false := decide_eq_false (fun h => hk (Int.ofNat_lt.1 h))
                go_wp2_with fail
                go_roundg g0
                case measure => exact HGM.out.1
                case rel => exact ⟨i + 1, HGM.out.2.1, HGM.out.2.2, rfl, pw_below_drewN HWZ.out _⟩
        · have hd1 : decide (i < l1.length) = true := decide_eq_true hlt
          have hd2 : decide ((i : Int) < 40) = false := decide_eq_false (by omega)
          go_wp2_with ((go_at_call 14; refine (wakes_true _).mono ?_; rintro e w' ⟨rfl, hwk⟩))
          go_ret
          exact ⟨rfl, below_step HL1.out (below_step HBI.out (by exact hwk))⟩
      · have hd1 : decide (i < l1.length) = false := decide_eq_false hlt
        go_wp2_with ((go_at_call 14; refine (wakes_true _).mono ?_; rintro e w' ⟨rfl, hwk⟩))
        go_ret
        exact ⟨rfl, below_step HL1.out (below_step HBI.out (by exact hwk))⟩
end Go.Proofs.Ytoonepmnlgfikaa.D
