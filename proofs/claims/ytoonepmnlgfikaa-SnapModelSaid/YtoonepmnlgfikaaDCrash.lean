/- Disk: Crash. -/
import Derived.Test.YtoonepmnlgfikaaDA
import Derived.Test.YtoonepmnlgfikaaDIter
import Derived.Test.YtoonepmnlgfikaaDx34
namespace Go.Proofs.Ytoonepmnlgfikaa.D
open Go.RowKit Go.Proofs.YtoonepmnlgfikaaW.PrintWords Go.Proofs.YtoonepmnlgfikaaW.PrintLast Go.Proofs.YtoonepmnlgfikaaW.PrintMore Go.Proofs.Ytoonepmnlgfikaa.Base Go.Maps Go.Sort Go.Shelf
set_option linter.unusedVariables false
set_option linter.unusedSimpArgs false
/-- A file's block: what is safe, what is seen. -/
def FileOk (w : World) (f : Nat) (s l : List Int) : Prop := ∃ A0 c0 A1 c1, w.heap[f]? = some (.cells #[.slice A0 s.length c0, .slice A1 l.length c1] 82 (0, 0)) ∧ Kd.C (Kd.int .u8) w A0 s.length s ∧ s.length ≤ c0 ∧ Kd.C (Kd.int .u8) w A1 l.length l ∧ l.length ≤ c1 ∧ s.length ≤ 2000000 ∧ l.length ≤ 2000000
theorem FileOk.below {w W : World} {f : Nat} {s l : List Int} (h : FileOk w f s l) (hb : Below w.heap.size w W) : FileOk W f s l := by
  obtain ⟨A0, c0, A1, c1, h1, h2, h3, h4, h5, h6⟩ := h
  exact ⟨A0, c0, A1, c1, (hb.block f (blk_lt h1)).trans h1, Kd.C_below h2 hb, h3, Kd.C_below h4 hb, h5, h6⟩
/-- What a crash may leave of a file. -/
def CrashOf (s l d : List Int) : Prop := d = l ∨ d = s ∨ ∃ nn, nn ≤ max s.length l.length ∧ d = tornV s l nn
def CrashL (cont : List UInt8 → List Int × List Int) (ss : List (List UInt8)) (L : List S40) : Prop := L.length ≤ ss.length ∧ ∀ j, (hj : j < L.length) → ∃ nm, ss[j]? = some nm ∧ (L[j]).f0 = ⟨nm.toArray⟩ ∧ CrashOf (cont nm).1 (cont nm).2 (L[j]).f1
theorem names_row {w : World} {base : Nat} {v : Value} {ss : List (List UInt8)} (h : w.ownsRow base 9 1 v ss.length (ss.map encStr)) : ∃ A c, v = .slice A ss.length c ∧ ∀ i nm, ss[i]? = some nm → ∃ ad, A = some ad ∧ w.cell? (ad.add i) = some (.string ⟨nm.toArray⟩) := by
  obtain ⟨hn, ho⟩ := h
  rcases ho with ⟨rfl, h0⟩ | ⟨g, cap, cur, rfl, hb, hh, hnc, hcm, hcs, ht⟩
  · obtain rfl : ss = [] := List.eq_nil_of_length_eq_zero h0
    exact ⟨none, 0, rfl, fun i nm hi => by cases hi⟩
  · refine ⟨some ⟨g, 0, none⟩, cap, rfl, fun i nm hi => ⟨_, rfl, ?_⟩⟩
    have hil : i < ss.length := (List.getElem?_eq_some_iff.1 hi).1
    rw [add_plain, cell_of_row w g _ cur 9 (0, 0) hh, ← Array.getElem?_toList]
    have h1 : (cur.toList.take (ss.length * 1))[i]? = some (.string ⟨nm.toArray⟩) := by rw [ht, List.getElem?_map, hi]; rfl
    rw [List.getElem?_take_of_lt (by omega)] at h1
    exact h1
theorem info3c : (Try.prog.info? 3).map (fun i => (i.zero, i.size, i.bytes)) = some (some (.int .i64 0), 1, 8) := by kernel_rfl
theorem CrashL_snoc {cont : List UInt8 → List Int × List Int} {ss : List (List UInt8)} {L : List S40} {i : Nat} {nm : List UInt8} {d : List Int} (h : CrashL cont ss L) (hi : L.length = i) (hn : ss[i]? = some nm) (hd : CrashOf (cont nm).1 (cont nm).2 d) : CrashL cont ss (L ++ [(⟨⟨nm.toArray⟩, d⟩ : S40)]) := by
  have hlt : i < ss.length := (List.getElem?_eq_some_iff.1 hn).1
  refine ⟨by rw [List.length_append]; show L.length + 1 ≤ ss.length; omega, fun j hj => ?_⟩
  rw [List.length_append] at hj
  have hj' : j < L.length + 1 := hj
  by_cases hc : j < L.length
  · obtain ⟨nm', h1, h2, h3⟩ := h.2 j hc
    exact ⟨nm', h1, by rw [List.getElem_append_left hc]; exact h2, by rw [List.getElem_append_left hc]; exact h3⟩
  · have hje : j = L.length := by omega
    subst hje
    exact ⟨nm, by rw [hi]; exact hn, by rw [List.getElem_concat_length rfl], by rw [List.getElem_concat_length rfl]; exact hd⟩
/-- The files of a map, by name. -/
def FilesOk (w : World) (D : DataW Unit) (cont : List UInt8 → List Int × List Int) : Prop := ∀ nm ∈ strKeys D, nm.length ≤ 1000 ∧ ∃ f, D.atKey (.string nm) (pe none) = pe (some f) ∧ FileOk w f (cont nm).1 (cont nm).2
theorem strKeys_len {H : Type} (D : DataW H) : (strKeys D).length ≤ Maps.size D := by
  unfold strKeys Maps.size
  split
  · simp only [List.length_map]; exact Nat.le_refl _
  · exact Nat.zero_le _
theorem namesOf_len {D : DataW Unit} {ss : List (List UInt8)} (h : namesOf D ss) : ss.length ≤ Maps.size D := by
  obtain ⟨l, hl, e⟩ := h
  rw [e, List.length_mergeSort, hl.length_eq]
  exact strKeys_len D
set_option maxRecDepth 100000 in
set_option maxHeartbeats 1600000 in
theorem crash_calls (g b cnt : Nat) (n : Int) (D : DataW Unit) (cont : List UInt8 → List Int × List Int) (P0 : Option Addr) (pc : Nat) (ps : List Int) (w : World) (hg : PowAt w g b n) (hm : Files w b cnt D) (hsz : Maps.size D ≤ 1000) (hf : FilesOk w D cont)
    (hp : Kd.C (Kd.int .i64) w P0 ps.length ps) (hpc : ps.length ≤ pc) :
    Calls Try.prog 13 #[.pointer (some ⟨g, 0, none⟩), .slice P0 ps.length pc] w fun e w' => ∃ v L ss, e = .returned v ∧ namesOf D ss ∧ Kd.S k40 40 w' w.heap.size (fun _ => True) v L ∧ L.length = ss.length ∧ CrashL cont ss L ∧ Below w.heap.size w w' := by
  have hu59 := Try.underlying59
  have hu82 := Try.underlying82
  have k3 : w.cell? ⟨g, 3, none⟩ = some (.map (some b)) := (blk_cell hg 3).trans rfl
  have HG := Aside0.mk hg
  have HM := Aside0.mk hm
  have HF := Aside0.mk hf
  have HP := Aside0.mk hp
  have HS := Aside0.mk hsz
  clear hg hm hf hp hsz
  go_enter Try.func13, Try.ntmps13
  go_wp2_with (first
    | (go_at_call 41; refine (keys41 b _).mono ?_; rintro e w1 ⟨rfl, rfl⟩)
    | (go_at_call 40; refine (sorted40 b cnt D w HM.out (by have := HS.out; omega)).mono ?_; rintro e w2 ⟨v2, ss, rfl, hns, hrow, hnil, hb2⟩; obtain ⟨An, cn, rfl, hnm⟩ := names_row hrow; have HNS := Aside0.mk hns; have HNM := Aside0.mk hnm; have HB2 := Aside0.mk hb2; clear hns hrow hnil hnm hb2))
  go_loopg [1, 4, 19] ss.length (fun kq v1 v4 v19 w' => ∃ (i : Nat) (L : List S40) (Ap : Option Addr) (cp : Nat) (qs : List Int), Aside0 (i + kq = ss.length) ∧ v19 = .int .i64 i ∧ v1 = .slice Ap qs.length cp ∧ Aside0 (qs.length ≤ cp) ∧ Aside0 (Kd.C (Kd.int .i64) w Ap qs.length qs) ∧ Aside0 (Kd.S k40 40 w' w2.heap.size (fun _ => True) v4 L) ∧ Aside0 (L.length = i ∧ CrashL cont ss L) ∧ Aside0 (Below w2.heap.size w2 w'))
  case atStart => exact ⟨0, [], P0, pc, ps, ⟨by omega⟩, rfl, rfl, ⟨hpc⟩, HP, ⟨Kd.S_nil _ _ _ _ _⟩, ⟨rfl, Nat.zero_le _, fun j hj => absurd hj (Nat.not_lt_zero j)⟩, ⟨Below.refl _ _⟩⟩
  case round =>
    obtain ⟨i, L, Ap, cp, qs, HIK, rfl, rfl, HQ, HCP, HRL, HCL, HBN⟩ := hrel
    have HB : Aside0 (Below w.heap.size w wr) := ⟨below_step HB2.out HBN.out⟩
    by_cases hlt : i < ss.length
    · have clt : decide ((i : Int) < (ss.length : Int)) = true := decide_eq_true (by omega)
      have clt2 : decide (i < ss.length) = true := decide_eq_true hlt
      have HLT := Aside0.mk hlt
      obtain ⟨nm, hnmi⟩ : ∃ nm, ss[i]? = some nm := ⟨ss[i], List.getElem?_eq_getElem hlt⟩
      have hmem : nm ∈ strKeys D := by
        obtain ⟨l, hl, e⟩ := HNS.out
        exact hl.mem_iff.1 (List.mem_mergeSort.1 (e ▸ List.mem_of_getElem? hnmi))
      obtain ⟨hnl, f, hat, hfo⟩ := HF.out nm hmem
      obtain ⟨ad, e, kc⟩ := HNM.out i nm hnmi
      subst e
      have hfo2 := hfo.below HB.out
      obtain ⟨A0, c0, A1, c1, hfb, hs0, hc0, hs1, hc1, hb0, hb1⟩ := hfo2
      have kn := (HBN.out.cell (World.block_lt_of_cell? w2 _ kc)).trans kc
      have kg : wr.cell? ⟨g, 3, none⟩ = some (.map (some b)) := (blk_cell ((HB.out.block g (blk_lt HG.out)).trans HG.out) 3).trans rfl
      have hmr : Files wr b cnt D := Files.of_block HM.out (HB.out.block b (World.ownsMap.lt HM.out))
      have hlk := look hmr ⟨nm.toArray⟩ (by show nm.toArray.size ≤ maxLen; rw [List.size_toArray]; unfold maxLen; omega) (p := some f) hat
      simp only [pv] at hlk
      have kf0 : wr.cell? ⟨f, 0, none⟩ = some (.slice A0 (cont nm).1.length c0) := (blk_cell hfb 0).trans rfl
      have kf1 : wr.cell? ⟨f, 1, none⟩ = some (.slice A1 (cont nm).2.length c1) := (blk_cell hfb 1).trans rfl
      have E1 : Aside0 (wrap64 ((i : Int) + 1) = ((i + 1 : Nat) : Int)) := ⟨by have h1 := namesOf_len HNS.out; have h2 := HS.out; rw [wrap64_in _ (by omega) (by omega)]; omega⟩
      have HNMI := Aside0.mk hnmi
      have HFB := Aside0.mk hfb
      have HS0 := Aside0.mk hs0
      have HS1 := Aside0.mk hs1
      have p0 : (0 : Int) ≤ (i : Int) := Int.natCast_nonneg _
      have q0 : (i : Int) < (ss.length : Int) := Int.ofNat_lt.2 hlt
      replace p0 := eq_true p0
      replace q0 := eq_true q0
      clear hlt hnmi hmem hnl hat hfo kc hmr hfb hs0 hs1
      generalize hct : cont nm = ct at *
      obtain ⟨sf, sn⟩ := ct
      go_wp2_with fail
      have HEQ : Aside0 (∀ W, Below w.heap.size w W → W = wr ∨ True → Kd.C (Kd.int .u8) W A0 sf.length sf → Kd.C (Kd.int .u8) W A1 sn.length sn → Calls Try.prog 42 #[.slice A0 sf.length c0, .slice A1 sn.length c1] W fun e w' => e = .returned (.bool ((strOfNums sf).toList == (strOfNums sn).toList)) ∧ Drawn0 W w') := ⟨fun W _ _ h1 h2 => bytes_Equal.calls A0 c0 sf A1 c1 sn _ W h1 hc0 h2 hc1 rfl⟩
      generalize ((strOfNums sf).toList == (strOfNums sn).toList) = be at *
      go_quiet (first | (go_at_call 42; refine (HEQ.out _ (by repeat (first | exact HB.out | apply pw_below_drewN | apply below_drew1)) (.inr trivial) (by (with_reducible repeat (first | apply Kd.C_drewN | apply Kd.C_drew)); exact HS0.out) (by (with_reducible repeat (first | apply Kd.C_drewN | apply Kd.C_drew)); exact HS1.out)).mono ?_; rintro e w' ⟨rfl, ⟨nd, rfl⟩⟩; (first | exact ⟨rfl, _, World.drewN_drewN _ _ _⟩ | exact ⟨rfl, _, rfl⟩)))
      go_upto_if 42 with (fail)
      have kf0q : (wr.drewN nq).cell? ⟨f, 0, none⟩ = some (.slice A0 sf.length c0) := kf0
      have kf1q : (wr.drewN nq).cell? ⟨f, 1, none⟩ = some (.slice A1 sn.length c1) := kf1
      have HFq : Aside0 ((wr.drewN nq).heap[f]? = some (.cells #[.slice A0 sf.length c0, .slice A1 sn.length c1] 82 (0, 0))) := ⟨HFB.out⟩
      have HS0q : Aside0 (Kd.C (Kd.int .u8) (wr.drewN nq) A0 sf.length sf) := ⟨Kd.C_drewN HS0.out _⟩
      have HS1q : Aside0 (Kd.C (Kd.int .u8) (wr.drewN nq) A1 sn.length sn) := ⟨Kd.C_drewN HS1.out _⟩
      have HRq : Aside0 (Kd.S k40 40 (wr.drewN nq) w2.heap.size (fun _ => True) u4 L) := ⟨Kd.S_drewN HRL.out _⟩
      have HBq : Aside0 (Below w.heap.size w (wr.drewN nq)) := ⟨pw_below_drewN HB.out _⟩
      have HBNq : Aside0 (Below w2.heap.size w2 (wr.drewN nq)) := ⟨pw_below_drewN HBN.out _⟩
      clear kf0 kf1 HFB HS0 HS1 HRL HB HBN kn kg hlk HEQ
      generalize wr.drewN nq = wq at *
      go_cut [1, 8] (fun v1 v8 wc => ∃ (Ap' : Option Addr) (cp' : Nat) (qs' : List Int) (Ab : Option Addr) (cb : Nat) (d : List Int), v1 = .slice Ap' qs'.length cp' ∧ v8 = .slice Ab d.length cb ∧ Aside0 (qs'.length ≤ cp') ∧ Aside0 (Kd.C (Kd.int .i64) w Ap' qs'.length qs') ∧ Aside0 (Kd.C (Kd.int .u8) wc Ab d.length d) ∧ Aside0 (d.length ≤ 4000000) ∧ Aside0 (CrashOf sf sn d) ∧ Aside0 (Below wq.heap.size wq wc))
      case first =>
        cases be with
        | true =>
          go_wp2_with fail
          go_meet
          case rel => exact ⟨Ap, cp, qs, A1, c1, sn, rfl, rfl, HQ, HCP, HS1q, ⟨by omega⟩, ⟨.inl rfl⟩, ⟨by repeat (first | exact Below.refl _ _ | apply pw_below_drewN | apply below_drew1)⟩⟩
        | false =>
          cases qs with
          | nil =>
            have H43 : Aside0 (∀ W, Calls Try.prog 43 #[.int .i64 0, .int .i64 3] W fun e w' => e = .returned (.tuple #[.int .i64 0, .int .i64 0]) ∧ Drawn0 W w') := ⟨fun W => disk_Modulo.calls 0 3 0 0 W (by unfold disk_Modulo.f; rw [if_neg (by decide), if_neg (by decide), show Int.tdiv 0 3 = 0 from rfl, show Int.tmod 0 3 = 0 from rfl, wrap64_in 0 (by omega) (by omega)])⟩
            go_wp2_with (first | (go_at_call 43; refine (H43.out _).mono ?_; rintro e w' ⟨rfl, ⟨nd, rfl⟩⟩))
            go_meet
            case rel => exact ⟨Ap, cp, [], A0, c0, sf, rfl, rfl, HQ, HCP, ⟨by (with_reducible repeat (first | apply Kd.C_drewN | apply Kd.C_drew)); exact HS0q.out⟩, ⟨by omega⟩, ⟨.inr (.inl rfl)⟩, ⟨(by repeat (first | exact Below.refl _ _ | exact (Aside0.out ‹Aside0 (Below wq.heap.size wq _)›) | apply pw_below_drewN | apply below_drew1))⟩⟩
          | cons q t0 =>
            have hR := Kd.reads_of_C (enc := Value.int .i64) (d := (0 : Int)) HCP.out
            obtain ⟨ad9, hA9, hc9⟩ := hR.2.2 (Nat.succ_pos _)
            subst hA9
            have kq0 : wq.cell? (ad9.add 0) = some (.int .i64 q) := (HBq.out.cell (World.block_lt_of_cell? w _ ((hc9 0 (Nat.succ_pos _)).trans rfl))).trans ((hc9 0 (Nat.succ_pos _)).trans rfl)
            have ha0 : ad9.add 0 = ad9 := by simp [Addr.add]
            rw [ha0] at kq0
            clear ha0
            obtain ⟨i3, hi3, _, hsz3, _⟩ := info_parts info3c
            have hcut := cut_from (P := Try.prog) 28 3 .i64 Try.underlying28 hi3 1 hsz3 (some ad9) (q :: t0).length cp 1 (by omega) (by simp only [List.length_cons]; omega)
            have hC9 := Kd.C_drop (m := 1) (c := cp) HCP.out (by simp) HQ.out
            obtain ⟨A9, hA9⟩ : ∃ A9, A9 = (if cp = 1 then some ad9 else (some ad9).map (·.add (1 * 1))) := ⟨_, rfl⟩
            obtain ⟨c9, hc9e⟩ : ∃ c9, c9 = cp - 1 := ⟨_, rfl⟩
            have HQ9 : Aside0 (t0.length ≤ c9) := ⟨by have := HQ.out; rw [List.length_cons] at this; omega⟩
            have HC9 : Aside0 (Kd.C (Kd.int .i64) w A9 t0.length t0) := ⟨by rw [hA9]; exact hC9⟩
            replace hcut : ∀ W : World, (Instr.slice 28 (.slice (some ad9) (q :: t0).length cp) (some (.int .i64 1)) none none).run Try.prog W = .ok (.slice A9 t0.length c9) W := fun W => by rw [hA9, hc9e]; exact hcut W
            have hpos : decide ((0 : Int) < ((q :: t0).length : Int)) = true := decide_eq_true (by simp only [List.length_cons]; omega)
            clear hR hc9 hC9 hA9 hc9e hi3 hsz3
            obtain ⟨ln, hln⟩ : ∃ ln, ln = (q :: t0).length := ⟨_, rfl⟩
            rw [← hln] at hcut hpos ⊢
            have q00 : ((0 : Int) < (ln : Int)) = True := eq_true (of_decide_eq_true hpos)
            have q01 : (0 < ln) = True := eq_true (by rw [hln]; exact Nat.succ_pos _)
            have q02 : (ln = 0) = False := eq_false (by rw [hln]; exact Nat.succ_ne_zero _)
            clear hln
            obtain ⟨m, t, hm, hm3, hmod⟩ := modulo_is q 3 (by decide) (by decide)
            have H43 : Aside0 (∀ W, Calls Try.prog 43 #[.int .i64 q, .int .i64 3] W fun e w' => e = .returned (.tuple #[.int .i64 (m : Int), .int .i64 t]) ∧ Drawn0 W w') := ⟨fun W => disk_Modulo.calls q 3 _ _ W hmod⟩
            have HT : Aside0 (∀ W, Below wq.heap.size wq W → Calls Try.prog 44 #[.pointer (some ⟨f, 0, none⟩), .int .i64 t] W fun e w' => ∃ Ab cb d, e = .returned (.slice Ab d.length cb) ∧ d.length ≤ 4000000 ∧ CrashOf sf sn d ∧ Kd.C (Kd.int .u8) w' Ab d.length d ∧ Below wq.heap.size wq w') := ⟨fun W hb => by
              refine (torn_calls f A0 c0 sf A1 c1 sn t W ((hb.block f (blk_lt HFq.out)).trans HFq.out) (Kd.C_below HS0q.out hb) hc0 (Kd.C_below HS1q.out hb) hc1 hb0 hb1).mono ?_
              rintro e w' ⟨v, rfl, nn, hnn, hr, hb'⟩
              obtain ⟨Ab, cb, rfl⟩ := Kd.R_slice hr
              refine ⟨Ab, cb, _, rfl, ?_, .inr (.inr ⟨nn, hnn, rfl⟩), (Kd.R_reads' hr).2.2, below_step hb hb'⟩
              unfold tornV
              rw [List.length_take]
              omega⟩
            clear hm hmod
            go_wp2_with fail
            go_region
            rcases (show m = 0 ∨ m = 1 ∨ m = 2 by omega) with rfl | rfl | rfl
            · go_wp2_with (first | (go_at_call 43; refine (H43.out _).mono ?_; rintro e w' ⟨rfl, ⟨nd, rfl⟩⟩))
              go_meet
              case rel => exact ⟨A9, c9, t0, A0, c0, sf, rfl, rfl, HQ9, HC9, ⟨by (with_reducible repeat (first | apply Kd.C_drewN | apply Kd.C_drew)); exact HS0q.out⟩, ⟨by omega⟩, ⟨.inr (.inl rfl)⟩, ⟨(by repeat (first | exact Below.refl _ _ | exact (Aside0.out ‹Aside0 (Below wq.heap.size wq _)›) | apply pw_below_drewN | apply below_drew1))⟩⟩
            · go_wp2_with (first | (go_at_call 43; refine (H43.out _).mono ?_; rintro e w' ⟨rfl, ⟨nd, rfl⟩⟩))
              go_meet
              case rel => exact ⟨A9, c9, t0, A1, c1, sn, rfl, rfl, HQ9, HC9, ⟨by (with_reducible repeat (first | apply Kd.C_drewN | apply Kd.C_drew)); exact HS1q.out⟩, ⟨by omega⟩, ⟨.inl rfl⟩, ⟨(by repeat (first | exact Below.refl _ _ | exact (Aside0.out ‹Aside0 (Below wq.heap.size wq _)›) | apply pw_below_drewN | apply below_drew1))⟩⟩
            · go_wp2_with (first | (go_at_call 43; refine (H43.out _).mono ?_; rintro e w' ⟨rfl, ⟨nd, rfl⟩⟩) | (go_at_call 44; refine (HT.out _ (by repeat (first | exact Below.refl _ _ | exact (Aside0.out ‹Aside0 (Below wq.heap.size wq _)›) | apply pw_below_drewN | apply below_drew1))).mono ?_; rintro e w' ⟨Ab, cb, d, rfl, hd9, hcr, hC, hb'⟩; have HD9 := Aside0.mk hd9; have HCR9 := Aside0.mk hcr; have HCd9 := Aside0.mk hC; have HBd9 := Aside0.mk hb'; clear hd9 hcr hC hb'))
              go_meet
              case rel => exact ⟨A9, c9, t0, Ab, cb, _, rfl, rfl, HQ9, HC9, ⟨by (with_reducible repeat (first | apply Kd.C_drewN | apply Kd.C_drew)); exact HCd9.out⟩, ⟨HD9.out⟩, ⟨HCR9.out⟩, ⟨(by repeat (first | exact Below.refl _ _ | exact (Aside0.out ‹Aside0 (Below wq.heap.size wq _)›) | apply pw_below_drewN | apply below_drew1))⟩⟩
      case rest =>
        obtain ⟨Ap', cp', qs', Ab, cb, d, rfl, rfl, HQ', HCP', HD', HDL, HCR, HBc⟩ := hcut
        have HRc : Aside0 (Kd.S k40 40 wc w2.heap.size (fun _ => True) u4 L) := ⟨Kd.S_below HRq.out HBc.out⟩
        have HBNw : Aside0 (Below w2.heap.size w2 wc) := ⟨below_step HBNq.out HBc.out⟩
        have H38 : Aside0 (∀ W, Below wc.heap.size wc W → Calls Try.prog 38 #[.slice Ab d.length cb] W fun e w' => ∃ v, e = .returned v ∧ Kd.R (Kd.int .u8) 5 w' W.heap.size (fun _ => True) v d ∧ Below W.heap.size W w') := ⟨fun W hb => clone_calls d Ab cb (by have := HDL.out; omega) W (Kd.C_below HD'.out hb)⟩
        clear kf0q kf1q HFq HS0q HS1q HRq HBq HBNq HBc HD'
        go_wp2_with (first
          | (go_at_call 38; refine (H38.out _ (Below.refl _ _)).mono ?_; rintro e w6 ⟨v71, rfl, ho0, hb⟩; have n0_ := Aside0.mk (Kd.S_elder' HRc.out (Kd.R_base ho0) hb); have n1_ := Aside0.mk (Kd.R_lower ho0 (below_size HBNw.out)); have n3_ := Aside0.mk (below_step HBNw.out hb); clear HRc HBNw hb ho0; have HRc := n0_; have HO71 := n1_; have HBNw := n3_; clear n0_ n1_ n3_; obtain ⟨Ao8, co8, eo8⟩ := Kd.R_slice HO71.out; subst eo8)
          | ((with_reducible refine gate_builtin (b := .append) (xs := #[.tmp 68, .tmp 73]) rfl ?_); at_builtin; refine Kd.S_append k40 (w0 := w2) w2.heap.size rfl (.tmp 68) (.tmp 73) 22 40 (.agg #[(.string ⟨#[]⟩), (.slice none 0 0)]) 40 rfl Try.underlying22 info40 rfl (by decide) (by omega) u4 L (⟨⟨nm.toArray⟩, d⟩ : S40) [.string ⟨nm.toArray⟩, .slice Ao8 d.length co8] (fun _ => True) (fun k_ => some k_ = (.slice Ao8 d.length co8 : Value).ownBlock) rfl rfl ?aP (fun k_ hk_ => ((Kd.R_mono (ok' := fun k_ => ((fun _ => True)) k_ ∧ some k_ ≠ (u4 : Value).ownBlock) (Kd.R_apart' (HO71.out) (Kd.S_typed HRc.out) (by decide)) (fun k_ hk => ⟨trivial, hk.2⟩))).1 k_ hk_.symm) ?aF ?aO ?aB ?aS ?aL ?_; (case aP => exact k40_mkM _ _ _ (⟨⟨nm.toArray⟩, d⟩ : S40) (Kd.R_mono (Kd.R_tight rfl (Kd.R_mono (ok' := fun k_ => ((fun _ => True)) k_ ∧ some k_ ≠ (u4 : Value).ownBlock) (Kd.R_apart' (HO71.out) (Kd.S_typed HRc.out) (by decide)) (fun k_ hk => ⟨trivial, hk.2⟩))) (fun _ h_ => h_))); (case aB => exact HBNw.out); (case aF => exact (fun _ _ => trivial)); (case aO => exact Kd.S_mono HRc.out (fun k_ hk => ⟨trivial, fun e_ => hk.2 e_⟩)); (case aS => exact (below_size HBNw.out)); (case aL => have h1 := namesOf_len HNS.out; have h2 := HS.out; have h3 := HCL.out.1; have h4 := HLT.out; omega); intro v74 w7 ho hb hg hat; have n0_ := Aside0.mk (hb); have n1_ := Aside0.mk (ho); clear HRc HO71 HBNw; have HBNw := n0_; have HO74 := n1_; clear n0_ n1_ ho hb hg hat))
        go_roundg (gk - 1)
        case measure => have h1 := HIK.out; have h2 := HLT.out; omega
        case rel => exact ⟨i + 1, L ++ [(⟨⟨nm.toArray⟩, d⟩ : S40)], Ap', cp', qs', ⟨by have h1 := HIK.out; have h2 := HLT.out; omega⟩, by rw [E1.out], rfl, HQ', HCP', HO74, ⟨by rw [List.length_append, HCL.out.1]; rfl, CrashL_snoc HCL.out.2 HCL.out.1 HNMI.out (by rw [hct]; exact HCR.out)⟩, HBNw⟩
    · have clt : decide ((i : Int) < (ss.length : Int)) = false := decide_eq_false (by omega)
      have clt2 : decide (i < ss.length) = false := decide_eq_false hlt
      have HLT := Aside0.mk hlt
      clear hlt
      go_wp2
      go_ret
      exact ⟨_, L, ss, rfl, HNS.out, Kd.S_lower HRL.out (below_size HB2.out), by have := HCL.out.1; have := HIK.out; have := HLT.out; omega, HCL.out.2, HB.out⟩
end Go.Proofs.Ytoonepmnlgfikaa.D
