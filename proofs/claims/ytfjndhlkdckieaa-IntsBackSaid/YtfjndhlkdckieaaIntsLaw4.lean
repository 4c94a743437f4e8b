/- IntsBack, walked. -/
import Derived.Test.YtfjndhlkdckieaaIntsLaw
import Derived.Outline
import Derived.Deep.DeepMust
namespace Go.Proofs.Ytfjndhlkdckieaa.I
open Go.RowKit Go.Proofs.YtfjndhlkdckieaaW.PrintWords Go.Proofs.YtfjndhlkdckieaaW.PrintLast Go.Proofs.YtfjndhlkdckieaaW.PrintMore Go.Proofs.Ytfjndhlkdckieaa.Opening Go.Proofs.Ytfjndhlkdckieaa.Base Go.Proofs.Ytfjndhlkdckieaa.Bits
set_option linter.unusedVariables false
set_option linter.unusedSimpArgs false

theorem set_top {B : List Int} (hB : AllB B) (L : Nat) : B.set L (Go.bits .or .u8 ((byteAt B L : Nat) : Int) 128) = put B (8 * L + 7) := by
  have h1 := byteAt_lt hB L
  have h2 : (8 * L + 7) / 8 = L := by omega
  have h3 : (8 * L + 7) % 8 = 7 := by omega
  unfold put
  rw [h2, h3, show (128 : Int) = ((128 : Nat) : Int) from rfl, or_u8 _ 128 h1 (by decide)]
set_option maxHeartbeats 16000000 in
set_option maxRecDepth 100000 in
theorem back_walk (A : Option Addr) (c : Nat) (l : List Ask) (w : World) (hC : Kd.C kAsk w A l.length l) (hc : l.length ≤ c) (ok : l.length * 64 ≤ 140737488351232 ∧ ∀ x ∈ l, AOk x) :
    Calls Try.prog 10 #[.slice A l.length c] w fun e w' => e = .returned (.bool true) ∧ Below w.heap.size w w' := by
  have HC := Aside0.mk hC
  have HOK := Aside0.mk ok.2
  have hlen : l.length ≤ 140737488351232 := by omega
  clear hC ok
  have hu44 := Try.underlying44
  have hu57 := Try.underlying57
  go_enter Try.func10, Try.ntmps10
  go_wp2_with fail
  go_loopg [3,4,5,6,7,8,9,10,11,12,13,14,15,16] l.length (fun kq v3 v4 v5 v6 v7 v8 v9 v10 v11 v12 v13 v14 v15 v16 w' => ∃ i : Nat, v3 = .int .i64 (i : Int) ∧ Aside0 (kq + i = l.length) ∧ Aside0 (Below w.heap.size w w'))
  case atStart => exact ⟨0, rfl, ⟨by omega⟩, ⟨Below.refl _ _⟩⟩
  case round =>
    obtain ⟨i, rfl, HK, HB⟩ := hrel
    have done : ∀ (w2 : World), Below w.heap.size w w2 → ∀ e w', (e = Ending.returned (.bool true) ∧ Below w2.heap.size w2 w') → e = Ending.returned (.bool true) ∧ Below w.heap.size w w' := fun w2 h2 e w' h => ⟨h.1, below_then h2 h2.size h.2⟩
    have HD := Aside0.mk done
    clear done
    by_cases hi : i < l.length
    · by_cases h8 : i < 8
      · have hb8 : decide ((i : Int) < 8) = true := decide_eq_true (by omega)
        obtain ⟨ad, A1, c1, A3, c3, rfl, hx0, hx1, hx2, hx3, hl1, hC1, hl3, hC3⟩ := at_ask (Kd.C_below HC.out HB.out) i hi
        have hok := HOK.out _ (List.getElem_mem hi)
        have HU := Aside0.mk hok.u64
        have HAB := Aside0.mk hok.bytes
        generalize (l[i]).w = pw at *
        generalize (l[i]).l = pl at *
        generalize (l[i]).n = pn at *
        generalize (l[i]).b = pb at *
        have HL1 := Aside0.mk hl1
        have HL3 := Aside0.mk hl3
        have HC1 := Aside0.mk hC1
        have HC3 := Aside0.mk hC3
        clear hok hl1 hl3 hC1 hC3
        go_wp2_with fail
        generalize hG0 : wr.heap.size = g0 at *
        have hg0 : (wr.alloc (.cells #[.int .i64 pw, .slice A1 pl.length c1, .int .i64 pn, .slice A3 pb.length c3] 44)).heap[g0]? = some (.cells #[.int .i64 pw, .slice A1 pl.length c1, .int .i64 pn, .slice A3 pb.length c3] 44 (0, 0)) := by rw [← hG0]; exact heap_alloc_new wr _
        have hB1 : Below w.heap.size w (wr.alloc (.cells #[.int .i64 pw, .slice A1 pl.length c1, .int .i64 pn, .slice A3 pb.length c3] 44)) := HB.out.alloc HB.out.size _
        have HC1' := Aside0.mk (Kd.C_alloc HC1.out (.cells #[.int .i64 pw, .slice A1 pl.length c1, .int .i64 pn, .slice A3 pb.length c3] 44))
        have HC3' := Aside0.mk (Kd.C_alloc HC3.out (.cells #[.int .i64 pw, .slice A1 pl.length c1, .int .i64 pn, .slice A3 pb.length c3] 44))
        have HG0 := Aside0.mk hg0
        have HB1 := Aside0.mk hB1
        clear hG0 hg0 hB1 hx0 hx1 hx2 hx3
        generalize wr.alloc (.cells #[.int .i64 pw, .slice A1 pl.length c1, .int .i64 pn, .slice A3 pb.length c3] 44) = w1 at *
        by_cases hv : pl.length > 300 ∨ pb.length > 2000
        · have AH : Aside0 (lecternlaw2_heavy.f pw pl pn pb = some true) := ⟨by
            unfold lecternlaw2_heavy.f
            by_cases h3 : (pl.length : Int) > 300
            · rw [if_pos h3]
            · rw [if_neg h3, decide_eq_true (by omega)]⟩
          refine (lecternlaw2_heavy.calls _ _ _ _ _ _ _ _ true _ HC1'.out HL1.out HC3'.out HL3.out AH.out).mono ?_
          rintro e w2 ⟨rfl, hb2⟩
          have HB2 := Aside0.mk hb2
          clear hb2
          go_wp2_with fail
          go_ret
          exact ⟨rfl, below_then HB1.out HB1.out.size HB2.out⟩
        · have hv1 : pl.length ≤ 300 := by omega
          have AH : Aside0 (lecternlaw2_heavy.f pw pl pn pb = some false) := ⟨by
            unfold lecternlaw2_heavy.f
            rw [if_neg (by omega), decide_eq_false (by omega)]⟩
          clear hv
          refine (lecternlaw2_heavy.calls _ _ _ _ _ _ _ _ false _ HC1'.out HL1.out HC3'.out HL3.out AH.out).mono ?_
          rintro e w2 ⟨rfl, hb2⟩
          have HB2 : Aside0 (Below w.heap.size w w2) := ⟨below_then HB1.out HB1.out.size hb2⟩
          have HG2 : Aside0 (w2.heap[g0]? = some (.cells #[.int .i64 pw, .slice A1 pl.length c1, .int .i64 pn, .slice A3 pb.length c3] 44 (0, 0))) := ⟨(hb2.block g0 (blk_lt HG0.out)).trans HG0.out⟩
          have HC2 := Aside0.mk (Kd.C_below HC1'.out hb2)
          clear hb2 HC3 HC3' HC1 HC1'
          have AQ : Aside0 (∀ z, lecternlaw2_num.f z = some z) := ⟨fun z => rfl⟩
          have k0 : w2.cell? ⟨g0, 0, none⟩ = some (.int .i64 pw) := (blk_cell HG2.out 0).trans rfl
          have k1 : w2.cell? ⟨g0, 1, none⟩ = some (.slice A1 pl.length c1) := (blk_cell HG2.out 1).trans rfl
          go_wp2_with fail
          clear k0 k1
          cases hmay : mayB pw pl
          · refine (new_no pw pl HU.out (by omega) hmay _ _ _ HC2.out HL1.out).mono ?_
            clear hmay
            rintro e w4 ⟨rfl, rfl⟩
            go_wp2_with fail
            refine (lecternlaw2_num.calls 1 1 _ (AQ.out 1)).mono ?_
            rintro e w' ⟨rfl, ⟨n7, rfl⟩⟩
            go_wp2_with fail
            go_roundg (l.length - (i + 1))
            case measure => have := HK.out; omega
            case rel => exact ⟨i + 1, by go_num, ⟨by have := HK.out; omega⟩, ⟨pw_below_drewN HB2.out _⟩⟩
          · obtain ⟨wd, rfl, hw64, hall⟩ := may_yes hmay
            have HALL := Aside0.mk hall
            clear hmay hall
            refine (new_yes wd hw64 pl HU.out (by omega) HALL.out _ _ _ HC2.out HL1.out).mono ?_
            rintro e w4 ⟨g, rfl, hb4, ho4⟩
            have hel := enc_len wd pl
            have hmul : wd * pl.length ≤ 64 * 300 := Nat.mul_le_mul hw64 hv1
            have hel2 : (enc wd pl).length ≤ 3000 := by omega
            have HEL := Aside0.mk hel
            have HB4 := Aside0.mk hb4
            have HO4 := Aside0.mk ho4
            have HG4 : Aside0 (w4.heap[g0]? = some (.cells #[.int .i64 (wd : Int), .slice A1 pl.length c1, .int .i64 pn, .slice A3 pb.length c3] 44 (0, 0))) := ⟨(hb4.block g0 (blk_lt HG2.out)).trans HG2.out⟩
            have HC4 := Aside0.mk (Kd.C_below HC2.out hb4)
            clear hel hmul hb4 ho4
            go_wp2_with fail
            refine (lecternlaw2_num.calls 0 0 _ (AQ.out 0)).mono ?_
            rintro e w' ⟨rfl, ⟨n4, rfl⟩⟩
            go_wp2_with fail
            refine (bytes_calls w2.heap.size g _ _ (enc wd pl) (by omega) _ (HO4.out.drewN _)).mono ?_
            rintro e w5 ⟨v7, rfl, hr5, hb5⟩
            obtain ⟨P5, c5, rfl, hc5, hC5⟩ := Kd.R_reads hr5
            have HB5 : Aside0 (Below w4.heap.size w4 w5) := ⟨below_then (pw_below_drewN (Below.refl _ _) n4) (by simp) hb5⟩
            have HR5 := Aside0.mk hr5
            have HL5 := Aside0.mk hc5
            have HC5 := Aside0.mk hC5
            have HO5 := Aside0.mk (HO4.out.below HB5.out)
            have HG5 : Aside0 (w5.heap[g0]? = some (.cells #[.int .i64 (wd : Int), .slice A1 pl.length c1, .int .i64 pn, .slice A3 pb.length c3] 44 (0, 0))) := ⟨(HB5.out.block g0 (blk_lt HG4.out)).trans HG4.out⟩
            have HCL5 := Aside0.mk (Kd.C_below HC4.out HB5.out)
            clear hr5 hc5 hC5 hb5
            have k0 : w5.cell? ⟨g0, 0, none⟩ = some (.int .i64 (wd : Int)) := (blk_cell HG5.out 0).trans rfl
            have k1 : w5.cell? ⟨g0, 1, none⟩ = some (.slice A1 pl.length c1) := (blk_cell HG5.out 1).trans rfl
            go_wp2_with fail
            clear k0 k1
            refine (parse_yes wd pl.length hw64 (by omega) (enc wd pl) (enc_all wd pl) HEL.out _ _ _ HC5.out HL5.out).mono ?_
            have hT : ∀ m, wd * pl.length ≤ m → m < 8 * (enc wd pl).length → tb (enc wd pl) m = false := fun m h1 h2 => by
              rw [tb_enc]
              have : ¬ m < pl.length * wd := by rw [Nat.mul_comm]; omega
              simp [this]
            rintro e w6 ⟨hb6, ⟨_, y, rfl, ho6⟩ | ⟨hbad, _⟩⟩
            · have HB6 := Aside0.mk hb6
              have HO6 := Aside0.mk ho6
              have HC6 := Aside0.mk (Kd.C_below HC5.out hb6)
              have HG6 : Aside0 (w6.heap[g0]? = some (.cells #[.int .i64 (wd : Int), .slice A1 pl.length c1, .int .i64 pn, .slice A3 pb.length c3] 44 (0, 0))) := ⟨(HB6.out.block g0 (blk_lt HG5.out)).trans HG5.out⟩
              have HCL6 := Aside0.mk (Kd.C_below HCL5.out hb6)
              have AC : Aside0 (lecternref0_CopyBytes.f 3100 (enc wd pl) = some (enc wd pl)) := ⟨copyb_is _ (by omega) 3100 (by omega)⟩
              clear hb6 ho6 hT
              have k0 : w6.cell? ⟨g0, 0, none⟩ = some (.int .i64 (wd : Int)) := (blk_cell HG6.out 0).trans rfl
              have k1 : w6.cell? ⟨g0, 1, none⟩ = some (.slice A1 pl.length c1) := (blk_cell HG6.out 1).trans rfl
              have hl2 : ((enc wd pl ++ [0]).length : Int) ≠ (((wd * pl.length + 7) / 8 : Nat) : Int) := by rw [List.length_append, HEL.out]; show ¬ (((wd * pl.length + 7) / 8 + 1 : Nat) : Int) = _; omega
              have hfit : fitB (wd : Int) (pl.length : Int) (enc wd pl ++ [0]) = false := by
                unfold fitB
                refine decide_eq_false fun h => hl2 ?_
                simpa using h.2.2.2.2
              have HF := Aside0.mk hfit
              have HLZ : Aside0 ((enc wd pl ++ [0]).length ≤ 140737488351232) := ⟨by rw [List.length_append]; show (enc wd pl).length + 1 ≤ _; omega⟩
              obtain ⟨bz, hbz⟩ : ∃ bz : List Int, bz = enc wd pl ++ [0] := ⟨_, rfl⟩
              rw [← hbz] at HF HLZ
              have HZ := Aside0.mk hbz
              clear hbz
              have HLW : Aside0 (((enc wd pl).length + 1) * 1 ≤ 140737488355328) := ⟨by omega⟩
              clear hl2 hfit
              go_upto_region 11 with (fail)
              go_cut [10, 11] (fun v10 v11 wc => v10 = .pointer none ∧ v11 = .int .i64 1 ∧ Aside0 (Below w6.heap.size w6 wc))
              case first =>
                have step9 : ∀ (X w9 : World) (v9 : Value), Below w6.heap.size w6 X → Kd.R (Kd.int .u8) 5 w9 X.heap.size (fun _ => True) v9 (enc wd pl) → Below X.heap.size X w9 → Below w6.heap.size w6 w9 ∧ Kd.R (Kd.int .u8) 5 w9 w6.heap.size (fun _ => True) v9 (enc wd pl) := fun X w9 v9 h1 h2 h3 => ⟨below_then h1 h1.size h3, Kd.R_lower h2 h1.size⟩
                have ST9 := Aside0.mk step9
                clear step9
                have keep9 : ∀ (w9 : World), Below w6.heap.size w6 w9 → w9.cell? ⟨g0, 0, none⟩ = some (.int .i64 (wd : Int)) ∧ w9.cell? ⟨g0, 1, none⟩ = some (.slice A1 pl.length c1) := fun w9 h => ⟨(blk_cell ((h.block g0 (blk_lt HG6.out)).trans HG6.out) 0).trans rfl, (blk_cell ((h.block g0 (blk_lt HG6.out)).trans HG6.out) 1).trans rfl⟩
                have KP9 := Aside0.mk keep9
                clear keep9
                have ABB : ∀ (W : World), Below w6.heap.size w6 W → Below w6.heap.size w6 W := fun _ h => h
                go_region_held3 (fun w' => w'.cell? ⟨g0, 0, none⟩ = some (.int .i64 (wd : Int)) ∧ w'.cell? ⟨g0, 1, none⟩ = some (.slice A1 pl.length c1))
                  (first | go_keep | exact KP9.out _ HB10.out | exact KP9.out _ HB9.out | exact KP9.out _ (by repeat (first | exact HB10.out | exact HB9.out | exact Below.refl _ _ | apply below_alloc | apply pw_below_drewN | apply below_drew)))
                  (first
                    | (go_at_call 40; go_must (refine (parse_no _ _ _ HF.out HLZ.out _ _ _).mono ?_); go_must (rintro e w11 ⟨rfl, ⟨n11, rfl⟩⟩))
                    | (go_at_call 39; refine (lecternref0_CopyBytes.calls 3100 _ _ (enc wd pl) _ _ (by (with_reducible repeat (first | apply Kd.C_drew | apply Kd.C_drewN | apply Kd.C_alloc)); exact HC6.out) HL5.out AC.out).mono ?_; rintro e w9 ⟨v9, rfl, hr9, hb9⟩; have hx9 := ST9.out _ _ _ (by repeat (first | exact Below.refl _ _ | apply below_alloc | apply pw_below_drewN | apply below_drew)) hr9 hb9; have HB9 := Aside0.mk hx9.1; have HR9 := Aside0.mk hx9.2; have HBB9 := Aside0.mk hb9; clear hx9 hr9 hb9)
                    | ((fail_if_success go_at_call 40); (fail_if_success go_at_call 39); refine Kd.R_append_rows_step (Kd.int .u8) (w0 := w6) w6.heap.size rfl (.tmp 65) (.tmp 66) 42 5 (.int .u8 0) 1 rfl Try.underlying42 info5 rfl (by decide) (by decide) _ (enc wd pl) [0] _ _ _ (fun _ => True) (fun _ => False) rfl rfl ?aO ?aR (fun _ _ h => h) (fun _ h => h.elim) (fun _ _ => trivial) ?aB ?aS ?aL ?_;
                       (case aO => ((with_reducible repeat (first | apply Kd.R_alloc | apply Kd.R_drewN | apply Kd.R_drew)); exact HR9.out));
                       (case aB => (repeat (first | exact HB9.out | apply below_alloc | apply pw_below_drewN | apply below_drew)));
                       (case aS => exact below_size (by (repeat (first | exact HB9.out | apply below_alloc | apply pw_below_drewN | apply below_drew))));
                       (case aL => exact HLW.out);
                       (case aR => (first | exact lit_C _ 5 .u8 [0] (by decide) | exact Kd.C_drew (lit_C _ 5 .u8 [0] (by decide)) | ((with_reducible repeat (first | apply Kd.C_drew | apply Kd.C_drewN)); exact Kd.C_below (by (with_reducible repeat (first | apply Kd.C_drew | apply Kd.C_drewN)); exact lit_C _ 5 .u8 [0] (by decide)) HBB9.out) | (trace_state; fail)));
                       intro v10 w10 ho10 hb10 hg10 hat10; rw [← HZ.out] at ho10; have HB10 := Aside0.mk hb10; obtain ⟨A10, c10, rfl, hl10, hC10⟩ := Kd.R_reads ho10; clear hl10 hC10 ho10 hb10 hg10 hat10))
                all_goals (go_wp2_with fail; go_meet; (case rel => exact ⟨rfl, rfl, ⟨by repeat (first | exact HB10.out | apply pw_below_drewN | apply below_drew)⟩⟩))
              case rest =>
                obtain ⟨rfl, rfl, HB11⟩ := hcut
                have HBX := HB6
                clear HF HLZ HLW HZ HB6
                have HG11 : Aside0 (wc.heap[g0]? = some (.cells #[.int .i64 (wd : Int), .slice A1 pl.length c1, .int .i64 pn, .slice A3 pb.length c3] 44 (0, 0))) := ⟨(HB11.out.block g0 (blk_lt HG6.out)).trans HG6.out⟩
                have HCL11 := Aside0.mk (Kd.C_below HCL6.out HB11.out)
                have HC11 := Aside0.mk (Kd.C_below HC6.out HB11.out)
                have HO11 := Aside0.mk (HO6.out.below HB11.out)
                clear HG6 HCL6 HC6 HO6 k0 k1
                have hsm : ∀ i, i < pl.length → rdN (enc wd pl) i wd wd = num pl i := fun i hi => rd_enc wd pl i hi (by
                  unfold num
                  rw [List.getD_eq_getElem?_getD, List.getElem?_eq_getElem hi]
                  exact HALL.out _ (List.getElem_mem hi))
                have HSM := Aside0.mk hsm
                clear hsm
                have k0 : wc.cell? ⟨g0, 0, none⟩ = some (.int .i64 (wd : Int)) := (blk_cell HG11.out 0).trans rfl
                have k1 : wc.cell? ⟨g0, 1, none⟩ = some (.slice A1 pl.length c1) := (blk_cell HG11.out 1).trans rfl
                go_wp2_with fail
                refine (lecternlaw2_num.calls 0 0 _ (AQ.out 0)).mono ?_
                rintro e w' ⟨rfl, ⟨n12, rfl⟩⟩
                go_wp2_with fail
                refine (same_calls w5.heap.size y wd hw64 pl HU.out (by omega) (enc wd pl) (enc_all wd pl) HEL.out HSM.out A1 c1 _ (Kd.C_drewN HCL11.out _) (HO11.out.drewN _)).mono ?_
                rintro e w' ⟨rfl, ⟨n13, rfl⟩⟩
                go_wp2_with fail
                refine (lecternlaw2_num.calls 1 1 _ (AQ.out 1)).mono ?_
                rintro e w' ⟨rfl, ⟨n14, rfl⟩⟩
                by_cases hz : (enc wd pl).length = 0
                · have hbz : decide ((0 : Int) < ((enc wd pl).length : Int)) = false := decide_eq_false (by omega)
                  go_wp2_with fail
                  go_roundg (l.length - (i + 1))
                  case measure => have := HK.out; omega
                  case rel => exact ⟨i + 1, by go_num, ⟨by have := HK.out; omega⟩, ⟨pw_below_drewN (below_then (below_then (below_then HB2.out HB2.out.size HB4.out) (below_then HB2.out HB2.out.size HB4.out).size HB5.out) (below_then (below_then HB2.out HB2.out.size HB4.out) (below_then HB2.out HB2.out.size HB4.out).size HB5.out).size (below_then HBX.out HBX.out.size HB11.out)) _⟩⟩
                · have hbz : decide ((0 : Int) < ((enc wd pl).length : Int)) = true := decide_eq_true (by omega)
                  obtain ⟨bt, hbt⟩ : ∃ bt : List Int, bt.length + 1 = (enc wd pl).length := ⟨(enc wd pl).tail, by rw [List.length_tail]; omega⟩
                  have hw1 : IntKind.i64.wrap (((enc wd pl).length : Int) - 1) = (bt.length : Int) := by
                    rw [IntKind.wrap_i64]; omega
                  have hfit : fitB (wd : Int) (pl.length : Int) bt = false := by
                    unfold fitB
                    refine decide_eq_false fun h => ?_
                    have := HEL.out
                    have h5 := h.2.2.2.2
                    have h6 : (bt.length : Int) = (((wd * pl.length + 7) / 8 : Nat) : Int) := by simpa using h5
                    omega
                  have HF := Aside0.mk hfit
                  have HLZ : Aside0 (bt.length ≤ 140737488351232) := ⟨by omega⟩
                  have hge : (0 : Int) ≤ (bt.length : Int) := by omega
                  have hle : (bt.length : Int) ≤ (c5 : Int) := by have := HL5.out; omega
                  have hle2 : (bt.length : Int) ≤ ((enc wd pl).length : Int) := by omega
                  clear hfit
                  go_upto_region 15 with (fail)
                  go_cut [12, 13] (fun v12 v13 wd2 => v12 = .pointer none ∧ v13 = .int .i64 1 ∧ ∃ n, wd2 = wc.drewN n)
                  case first =>
                    go_region_held3 (fun w' => w'.cell? ⟨g0, 0, none⟩ = some (.int .i64 (wd : Int)) ∧ w'.cell? ⟨g0, 1, none⟩ = some (.slice A1 pl.length c1))
                      (first | go_keep)
                      (first
                        | (go_at_call 40; go_must (refine (parse_no _ _ _ HF.out HLZ.out _ _ _).mono ?_); go_must (rintro e w11 ⟨rfl, ⟨n11, rfl⟩⟩)))
                    all_goals (go_wp2_with fail; go_meet; (case rel => exact ⟨rfl, rfl, ⟨_, by first | rfl | (simp; rfl)⟩⟩))
                  case rest =>
                    obtain ⟨rfl, rfl, n15, rfl⟩ := hcut
                    clear HF HLZ hw1 hge hle hle2
                    go_wp2_with fail
                    refine (lecternlaw2_num.calls 1 1 _ (AQ.out 1)).mono ?_
                    rintro e w' ⟨rfl, ⟨n16, rfl⟩⟩
                    have hwm : wrap64 ((wd : Int) * (pl.length : Int)) = ((wd * pl.length : Nat) : Int) := by
                      rw [← Int.natCast_mul]
                      have : wd * pl.length ≤ 64 * 300 := Nat.mul_le_mul hw64 hv1
                      have hz : ∀ z : Nat, z ≤ 64 * 300 → wrap64 (z : Int) = (z : Int) := fun z h => wrap64_in _ (by omega) (by omega)
                      exact hz _ this
                    have htm : Int.tmod (((wd * pl.length : Nat) : Int)) 8 = ((wd * pl.length % 8 : Nat) : Int) := by
                      rw [Int.tmod_eq_emod_of_nonneg (by omega)]; omega
                    by_cases hmod : (wd * pl.length) % 8 = 0
                    · have hm0 : (Int.tmod (wrap64 ((wd : Int) * (pl.length : Int))) 8 != 0) = false := by
                        rw [hwm, htm, hmod]; rfl
                      clear hwm htm
                      go_wp2_with fail
                      go_roundg (l.length - (i + 1))
                      case measure => have := HK.out; omega
                      case rel => exact ⟨i + 1, by go_num, ⟨by have := HK.out; omega⟩, ⟨pw_below_drewN (below_then (below_then (below_then HB2.out HB2.out.size HB4.out) (below_then HB2.out HB2.out.size HB4.out).size HB5.out) (below_then (below_then HB2.out HB2.out.size HB4.out) (below_then HB2.out HB2.out.size HB4.out).size HB5.out).size (below_then HBX.out HBX.out.size HB11.out)) _⟩⟩
                    · have hm0 : (Int.tmod (wrap64 ((wd : Int) * (pl.length : Int))) 8 != 0) = true := by
                        rw [hwm, htm]; exact bne_iff_ne.2 (by omega)
                      clear hwm htm
                      go_wp2_with fail
                      refine (lecternref0_CopyBytes.calls 3100 _ _ (enc wd pl) _ _ (Kd.C_drewN HC11.out _) HL5.out AC.out).mono ?_
                      rintro e w14 ⟨v14, rfl, hr14, hb14⟩
                      have HB14 : Aside0 (Below wc.heap.size wc w14) := ⟨below_then (pw_below_drewN (Below.refl _ _) (n15 + n16)) (by simp) hb14⟩
                      have HR14 := Aside0.mk hr14
                      obtain ⟨q, cap, rfl, hqb, hql, cells, hqh⟩ := Kd.R_form hr14 (by omega)
                      obtain ⟨hcell, hfroz⟩ := Kd.R_cell (0 : Int) hr14 (((enc wd pl).length - 1 : Nat) : Int) (by omega) (by omega)
                      have hrd : rdOf (0 : Int) (enc wd pl) (((enc wd pl).length - 1 : Nat) : Int) = ((byteAt (enc wd pl) ((enc wd pl).length - 1) : Nat) : Int) := rd_byte (enc_all wd pl) _
                      rw [hrd] at hcell
                      rw [Int.toNat_natCast] at hcell hfroz
                      have hge : (0 : Int) ≤ (bt.length : Int) := by omega
                      have hle : (bt.length : Int) < ((enc wd pl).length : Int) := by omega
                      have hG14 : w14.heap[g0]? = some (.cells #[.int .i64 (wd : Int), .slice A1 pl.length c1, .int .i64 pn, .slice A3 pb.length c3] 44 (0, 0)) := (HB14.out.block g0 (blk_lt HG11.out)).trans HG11.out
                      have hgl := blk_lt HG11.out
                      have hqs : wc.heap.size ≤ q := by simpa using hqb
                      have hne : g0 ≠ q := by omega
                      have hne2 : q ≠ g0 := by omega
                      have k0' : w14.cell? ⟨g0, 0, none⟩ = some (.int .i64 (wd : Int)) := (blk_cell hG14 0).trans rfl
                      have k1' : w14.cell? ⟨g0, 1, none⟩ = some (.slice A1 pl.length c1) := (blk_cell hG14 1).trans rfl
                      clear hr14 hb14 hrd hqh hG14 hgl hqb hql k0 k1
                      go_wp2_with fail
                      have hp := (Kd.R_put HR14.out (((enc wd pl).length - 1 : Nat) : Int) (Go.bits .or .u8 ((byteAt (enc wd pl) ((enc wd pl).length - 1) : Nat) : Int) 128)).1
                      rw [Int.toNat_natCast, set_top (enc_all wd pl)] at hp
                      have hBS : Below wc.heap.size wc (w14.setCell ⟨q, (enc wd pl).length - 1, none⟩ (.int .u8 (Go.bits .or .u8 ((byteAt (enc wd pl) ((enc wd pl).length - 1) : Nat) : Int) 128))) := HB14.out.setCell hqs _
                      have hJ2 : wd * pl.length ≤ 8 * ((enc wd pl).length - 1) + 7 := by have := HEL.out; omega
                      have hJ3 : 8 * ((enc wd pl).length - 1) + 7 < 8 * (enc wd pl).length := by omega
                      generalize w14.setCell ⟨q, (enc wd pl).length - 1, none⟩ (.int .u8 (Go.bits .or .u8 ((byteAt (enc wd pl) ((enc wd pl).length - 1) : Nat) : Int) 128)) = ws at *
                      generalize hJ : 8 * ((enc wd pl).length - 1) + 7 = J at *
                      have hpl2 := put_len (enc wd pl) J
                      obtain ⟨P9, c9, he9, hc9, hC9⟩ := Kd.R_reads hp
                      rw [hpl2] at he9 hc9 hC9
                      injection he9 with he1 he2 he3
                      subst he1
                      subst he3
                      have hyes := parse_yes wd pl.length hw64 (by omega) (put (enc wd pl) J) (put_all (enc_all wd pl) J) (by rw [hpl2]; exact HEL.out) (some ⟨q, 0, none⟩) cap ws (by rw [hpl2]; exact hC9) (by rw [hpl2]; exact hc9)
                      rw [hpl2] at hyes
                      refine hyes.mono ?_
                      rintro e w16 ⟨hb16, ⟨hbad, _⟩ | ⟨_, rfl⟩⟩
                      · exfalso
                        have h1 := hbad J hJ2 (by rw [hpl2]; exact hJ3)
                        rw [tb_put _ _ _ (by omega)] at h1
                        simp at h1
                      · have HB16 : Aside0 (Below wc.heap.size wc w16) := ⟨below_then hBS hBS.size hb16⟩
                        clear hyes hb16 hBS hp hC9
                        go_wp2_with fail
                        refine (lecternlaw2_num.calls 1 1 _ (AQ.out 1)).mono ?_
                        rintro e w' ⟨rfl, ⟨n16, rfl⟩⟩
                        go_wp2_with fail
                        go_roundg (l.length - (i + 1))
                        case measure => have := HK.out; omega
                        case rel => exact ⟨i + 1, by go_num, ⟨by have := HK.out; omega⟩, ⟨pw_below_drewN (below_then (below_then (below_then (below_then HB2.out HB2.out.size HB4.out) (below_then HB2.out HB2.out.size HB4.out).size HB5.out) (below_then (below_then HB2.out HB2.out.size HB4.out) (below_then HB2.out HB2.out.size HB4.out).size HB5.out).size (below_then HBX.out HBX.out.size HB11.out)) (Nat.le_trans HB2.out.size (Nat.le_trans HB4.out.size (Nat.le_trans HB5.out.size (Nat.le_trans HBX.out.size HB11.out.size)))) HB16.out) _⟩⟩
            · exact absurd hT hbad
      · have hb8 : decide ((i : Int) < 8) = false := decide_eq_false (by omega)
        go_wp2_with fail
        refine (wakes_calls _).mono ?_
        rintro e w' ⟨rfl, hb⟩
        go_wp2_with fail
        go_ret
        exact ⟨rfl, below_then HB.out HB.out.size hb⟩
    · go_wp2_with fail
      refine (wakes_calls _).mono ?_
      rintro e w' ⟨rfl, hb⟩
      go_wp2_with fail
      go_ret
      exact ⟨rfl, below_then HB.out HB.out.size hb⟩
end Go.Proofs.Ytfjndhlkdckieaa.I
