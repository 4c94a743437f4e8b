/- The shelf: Add. -/
import Derived.Test.YtpeldaogdeefeaaGreatMHNew
namespace Go.Proofs.YtpeldaogdeefeaaGreat.M
open Go.Proofs.YtpeldaogdeefeaaGreat.H Go.RowKit Go.Maps Go.Sort Go.Proofs.YtpeldaogdeefeaaGreatW.PrintWords Go.Proofs.YtpeldaogdeefeaaGreatW.PrintLast Go.Proofs.YtpeldaogdeefeaaGreatW.PrintMore Go.Proofs.YtpeldaogdeefeaaGreat.Base
set_option linter.unusedVariables false
set_option linter.unusedSimpArgs false
theorem look_has {w : World} {b n : Nat} {D : DataW Unit} (h : Texts w b n D) (id : ByteArray) (hs : id.size ≤ maxLen) :
    ∃ v, (Instr.lookup 96 (.map (some b)) (.string id) true).run Tryz.prog w = .ok (.tuple #[v, .bool (has D (.string id.data.toList))]) w := by
  obtain ⟨v, ps, hrun, hv⟩ := World.ownsMap.look_ok h K9 Tryz.underlying96 (z := .string ⟨#[]⟩) (zd := .lit (.string [])) (zp := []) (Tryz.zeroValue9 w) (plainElem_string (H := Unit) Tryz.underlying9 (s := ⟨#[]⟩) (by decide)) (WideMaps.keyOf_string_mk Tryz.underlying9 hs)
  exact ⟨v, hrun⟩
theorem Shf.mono {w : World} {B U g cnt cnt' : Nat} {M : List (Bs × Bs)} (h : Shf w B U g cnt M) (hc : cnt ≤ cnt') : Shf w B U g cnt' M := by
  obtain ⟨⟨a1, a2, a3, a4, a5, a6, a7, a8, a9, a10, a11, a12, a13, a14, a15, a16, a17, a18⟩, a, b, c, d, e, f⟩ := h
  exact ⟨⟨a1, a2, a3, a4, a5, a6, a7, a8, a9, a10, a11, a12, a13, a14, a15, a16, by omega, by omega⟩, a, b, c, d, e, f⟩
set_option maxRecDepth 100000 in
set_option maxHeartbeats 6400000 in
theorem add_calls {w : World} {B U g cnt : Nat} {M M' : List (Bs × Bs)} {r : Int} (h : Shf w B U g cnt M) (hcnt : cnt < 100000) (id tx : ByteArray) (hid : id.size ≤ 140737488351232) (htx : tx.size ≤ 140737488351232) (hadd : addV M id.data.toList tx.data.toList = (M', r)) :
    Calls Tryz.prog 24 #[.pointer (some ⟨g, 0, none⟩), .agg #[.string id, .string tx]] w fun e w' => e = .returned (.int .i64 r) ∧ Shf w' B U g (cnt + 1) M' ∧ KeptO w w' B U := by
  have HADD := Aside0.mk hadd
  clear hadd
  have HS := Aside0.mk h
  have hu102 := Tryz.underlying102
  have hu98 := Tryz.underlying98
  have hu36 := Tryz.underlying36
  obtain ⟨bt, bf, nt, nf, Dt, Df, h1, h2, h3, h4, h5, h6, h7, h8, h9, h10, h11, h12⟩ := h.ex
  obtain ⟨w2, hw2⟩ : ∃ z, z = (w.alloc (.cells #[.string id, .string tx] 36)).drew := ⟨_, rfl⟩
  have hB2 : Below w.heap.size w w2 := by rw [hw2]; exact below_drew (below_alloc (Below.refl _ _) _)
  have HQ : Aside0 (w2.heap[w.heap.size]? = some (.cells #[.string id, .string tx] 36 (0, 0))) := ⟨by rw [hw2]; exact heap_alloc_new w _⟩
  have HK2 : Aside0 (KeptO w w2 B U) := ⟨.of_below hB2 h.size⟩
  have HSW : Aside0 (Shf w2 B U g cnt M) := ⟨h.below hB2⟩
  have HG : Aside0 (w2.heap[g]? = some (.cells #[.map (some bt), .int .i64 (totB M : Int), .slice none 0 0, .map (some bf)] 102 (0, 0))) := ⟨blk_below h1 hB2⟩
  have HT : Aside0 (Texts w2 bt nt Dt) := ⟨map_keep h7 (hB2.block _ h7.lt)⟩
  have HF : Aside0 (Fresh w2 bf nf Df) := ⟨map_keep h8 (hB2.block _ h8.lt)⟩
  have HDT := Aside0.mk h9
  have HDF := Aside0.mk h10
  have HLO : Aside0 (B ≤ bt ∧ bt < U ∧ B ≤ bf ∧ bf < U ∧ bt ≠ bf ∧ nt ≤ cnt ∧ nf ≤ cnt ∧ B ≤ w.heap.size) := ⟨⟨h2, h3, h4, h5, h6, h11, h12, h.size⟩⟩
  have HNE : Aside0 (w.heap.size ≠ g ∧ w.heap.size ≠ bt ∧ w.heap.size ≠ bf ∧ bf ≠ g ∧ bt ≠ g) := ⟨⟨by have := blk_lt h1; omega, by have := h7.lt; omega, by have := h8.lt; omega, map_ne h8 h1, map_ne h7 h1⟩⟩
  obtain ⟨vl, hrun1⟩ := look_has HT.out id (by unfold maxLen; omega)
  rw [hw2] at hrun1
  have g1 : (w.alloc (.cells #[.string id, .string tx] 36)).cell? ⟨g, 0, none⟩ = some (.map (some bt)) := (blk_cell (blk_alloc h1 _) 0).trans rfl
  have g2 : (w.alloc (.cells #[.string id, .string tx] 36)).cell? ⟨w.heap.size, 0, none⟩ = some (.string id) := (blk_cell (heap_alloc_new w _) 0).trans rfl
  have hlen := World.ownsMap.len (w := w2) HT.out Tryz.underlying96 3
  rw [size_names Tryz.underlying9 HT.out HDT.out] at hlen
  have HLEN := Aside0.mk hlen
  have HID : Aside0 (id.data.toList.length = id.size ∧ tx.data.toList.length = tx.size) := ⟨⟨ba_size id, ba_size tx⟩⟩
  have HTOT : Aside0 (totB M ≤ 16384 ∧ M.length ≤ 64 ∧ cnt < 100000 ∧ id.size ≤ 140737488351232 ∧ tx.size ≤ 140737488351232) := ⟨⟨h.tot, h.few, hcnt, hid, htx⟩⟩
  have hhas : has Dt (.string id.data.toList) = decide (id.data.toList ∈ names M) := by
    by_cases hin : id.data.toList ∈ names M
    · rw [decide_eq_true hin]; exact (h9.has_ _).2 hin
    · rw [decide_eq_false hin]; exact h9.no hin
  have HW2 := Aside0.mk hw2
  rw [hhas] at hrun1
  clear h h1 h2 h3 h4 h5 h6 h7 h8 h9 h10 h11 h12 hB2 hlen hhas hcnt hid htx hw2
  go_enter Tryz.func24, Tryz.ntmps24
  go_upto_region 1 with (fail)
  go_region
  clear hrun1 g1 g2
  rw [← HW2.out]
  have x0 : w2.cell? ⟨w.heap.size, 0, none⟩ = some (.string id) := (blk_cell HQ.out 0).trans rfl
  have x1 : w2.cell? ⟨w.heap.size, 1, none⟩ = some (.string tx) := (blk_cell HQ.out 1).trans rfl
  have y0 : w2.cell? ⟨g, 0, none⟩ = some (.map (some bt)) := (blk_cell HG.out 0).trans rfl
  have y1 : w2.cell? ⟨g, 1, none⟩ = some (.int .i64 (totB M : Int)) := (blk_cell HG.out 1).trans rfl
  have y3 : w2.cell? ⟨g, 3, none⟩ = some (.map (some bf)) := (blk_cell HG.out 3).trans rfl
  go_wp2_with fail
  refine (segment_Name.calls id (decide (1 ≤ id.size ∧ id.size ≤ 64)) _ (name_is id)).mono ?_
  rintro e w' ⟨rfl, ⟨n2, rfl⟩⟩
  have HK3 : Aside0 (KeptO w (w2.drewN n2) B U) := ⟨HK2.out.trans (.of_below (pw_below_drewN (Below.refl _ _) n2) (by have := HLO.out.2.2.2.2.2.2.2; have := HK2.out.size; omega))⟩
  have HS3 : Aside0 (Shf (w2.drewN n2) B U g cnt M) := ⟨HSW.out.below (pw_below_drewN (Below.refl _ _) n2)⟩
  by_cases hn : 1 ≤ id.size ∧ id.size ≤ 64
  · rw [decide_eq_true hn]
    by_cases hb : 2048 < tx.size
    · have b1 : decide ((2048 : Int) < (tx.size : Int)) = true := decide_eq_true (by omega)
      have b2 : decide (2048 < tx.size) = true := decide_eq_true hb
      have hv : addV M id.data.toList tx.data.toList = (M, 2) := by unfold addV; rw [HID.out.1, HID.out.2, if_pos hn, if_pos hb]
      obtain ⟨rfl, rfl⟩ := Prod.mk.inj (hv.symm.trans HADD.out)
      clear hv hn hb
      go_wp2_with fail
      go_ret
      exact ⟨rfl, HS3.out.mono (Nat.le_succ _), HK3.out⟩
    · have b1 : decide ((2048 : Int) < (tx.size : Int)) = false := decide_eq_false (by omega)
      have b2 : decide (2048 < tx.size) = false := decide_eq_false hb
      by_cases hin : id.data.toList ∈ names M
      · have b3 : decide (id.data.toList ∈ names M) = true := decide_eq_true hin
        have hv : addV M id.data.toList tx.data.toList = (M, 4) := by unfold addV; rw [HID.out.1, HID.out.2, if_pos hn, if_neg hb, if_pos hin]
        obtain ⟨rfl, rfl⟩ := Prod.mk.inj (hv.symm.trans HADD.out)
        rw [b3]
        clear hv hn hb hin b3
        go_wp2_with fail
        go_ret
        exact ⟨rfl, HS3.out.mono (Nat.le_succ _), HK3.out⟩
      · have b3 : decide (id.data.toList ∈ names M) = false := decide_eq_false hin
        rw [b3]
        have hlen : ∀ m, (Builtin.len_ #[96] 3 #[.map (some bt)]).run Tryz.prog (w2.drewN m) = .ok (.int .i64 (M.length : Int)) (w2.drewN m) := fun m => by
          have h := World.ownsMap.len (w := w2.drewN m) (map_keep (w' := w2.drewN m) HT.out rfl) Tryz.underlying96 3
          rwa [size_names Tryz.underlying9 HT.out HDT.out] at h
        have HIN := Aside0.mk hin
        have HN := Aside0.mk hn
        have HB := Aside0.mk hb
        clear b3 hn hb hin
        by_cases hf : M.length = 64
        · have b4 : ((M.length : Int) == 64) = true := beq_iff_eq.mpr (by omega)
          have b5 : (M.length == 64) = true := beq_iff_eq.mpr hf
          have hv : addV M id.data.toList tx.data.toList = (M, 6) := by unfold addV; rw [HID.out.1, HID.out.2, if_pos HN.out, if_neg HB.out, if_neg HIN.out, if_pos (.inl (by omega))]
          obtain ⟨rfl, rfl⟩ := Prod.mk.inj (hv.symm.trans HADD.out)
          clear hv hf
          go_wp2_with fail
          go_quiet (fail)
          go_wp2_with fail
          go_ret
          exact ⟨rfl, (HS3.out.below (pw_below_drewN (Below.refl _ _) _)).mono (Nat.le_succ _), HK3.out.trans (.of_below (pw_below_drewN (Below.refl _ _) _) (by have := HLO.out.2.2.2.2.2.2.2; have := HK3.out.size; omega))⟩
        · have b4 : ((M.length : Int) == 64) = false := beq_eq_false_iff_ne.mpr (by omega)
          have b5 : (M.length == 64) = false := beq_eq_false_iff_ne.mpr hf
          have hw0 : IntKind.i64.wrap (16384 - (totB M : Int)) = 16384 - (totB M : Int) := by rw [i64_w]; exact wrb _ (by have := HTOT.out.1; omega) (by have := HTOT.out.1; omega)
          by_cases hm : 16384 < totB M + tx.size
          · have b6 : decide (16384 - (totB M : Int) < (tx.size : Int)) = true := decide_eq_true (by omega)
            have hv : addV M id.data.toList tx.data.toList = (M, 6) := by unfold addV; rw [HID.out.1, HID.out.2, if_pos HN.out, if_neg HB.out, if_neg HIN.out, if_pos (.inr hm)]
            obtain ⟨rfl, rfl⟩ := Prod.mk.inj (hv.symm.trans HADD.out)
            clear hv hf hm
            go_wp2_with fail
            go_quiet (fail)
            go_wp2_with fail
            go_ret
            exact ⟨rfl, (HS3.out.below (pw_below_drewN (Below.refl _ _) _)).mono (Nat.le_succ _), HK3.out.trans (.of_below (pw_below_drewN (Below.refl _ _) _) (by have := HLO.out.2.2.2.2.2.2.2; have := HK3.out.size; omega))⟩
          · have b6 : decide (16384 - (totB M : Int) < (tx.size : Int)) = false := decide_eq_false (by omega)
            have hv : addV M id.data.toList tx.data.toList = (ins id.data.toList tx.data.toList M, 0) := by unfold addV; rw [HID.out.1, HID.out.2, if_pos HN.out, if_neg HB.out, if_neg HIN.out, if_neg (by have := HTOT.out.2.1; omega)]
            obtain ⟨rfl, rfl⟩ := Prod.mk.inj (hv.symm.trans HADD.out)
            have HNF : Aside0 (M.length < 64 ∧ totB M + tx.size ≤ 16384 ∧ tx.size ≤ 2048) := ⟨by have := HTOT.out.2.1; have := HB.out; omega⟩
            clear hv hf hm
            go_wp2_with fail
            go_quiet (fail)
            clear b4 b5 b6 hlen hw0 x0 x1 y0 y1 y3
            obtain ⟨w5, hw5⟩ : ∃ z, z = (w2.drewN n2).drewN nq := ⟨_, rfl⟩
            have HB5 : Aside0 (Below w2.heap.size w2 w5) := ⟨by rw [hw5]; exact pw_below_drewN (pw_below_drewN (Below.refl _ _) _) _⟩
            rw [← hw5]
            clear hw5
            have KP : Aside0 (∀ W, Below w2.heap.size w2 W → W.cell? ⟨w.heap.size, 0, none⟩ = some (.string id) ∧ W.cell? ⟨w.heap.size, 1, none⟩ = some (.string tx)) := ⟨fun W hb => ⟨(blk_cell (blk_below HQ.out hb) 0).trans rfl, (blk_cell (blk_below HQ.out hb) 1).trans rfl⟩⟩
            have H64 : Aside0 (∀ W, Below w2.heap.size w2 W → Calls Tryz.prog 64 #[.pointer (some ⟨g, 0, none⟩), .agg #[.string id, .string tx]] W fun e w' => e = .returned (.tuple #[]) ∧ (w'.cell? ⟨w.heap.size, 0, none⟩ = some (.string id) ∧ w'.cell? ⟨w.heap.size, 1, none⟩ = some (.string tx)) ∧ w'.heap[g]? = some (.cells #[.map (some bt), .int .i64 (totB (ins id.data.toList tx.data.toList M) : Int), .slice none 0 0, .map (some bf)] 102 (0, 0)) ∧ Texts w' bt (nt + 1) (Dt.put (.string id.data.toList) (fS tx.data.toList)) ∧ Fresh w' bf nf Df ∧ KeptO w w' B U) := ⟨fun W hb => by
              have htot := HTOT.out
              have hlo := HLO.out
              have hnf := HNF.out
              refine (put_calls g bt nt (by omega) Dt (totB M : Int) (by omega) (by omega) (.slice none 0 0) (.map (some bf)) id tx (by unfold maxLen; omega) (by omega) W (blk_below HG.out hb) (map_keep HT.out (hb.block _ HT.out.lt))).mono ?_
              rintro e w' ⟨rfl, h1, h2, h3⟩
              have hqW := blk_below HQ.out hb
              have hq' : w'.heap[w.heap.size]? = some (.cells #[.string id, .string tx] 36 (0, 0)) := (h3.kept _ (blk_lt hqW) HNE.out.1 HNE.out.2.1).trans hqW
              refine ⟨rfl, ⟨(blk_cell hq' 0).trans rfl, (blk_cell hq' 1).trans rfl⟩, ?_, h2, h3.map (map_keep HF.out (hb.block _ HF.out.lt)) HNE.out.2.2.2.1 (Ne.symm hlo.2.2.2.2.1), ?_⟩
              · rw [h1, totB_ins, HID.out.2]
                rfl
              · have hs1 := HK2.out.size
                have hs2 := hb.size
                exact (HK2.out.trans (.of_below hb (by omega))).trans (.of2 h3 HSW.out.lo HSW.out.hi hlo.1 hlo.2.1 (by omega))⟩
            go_upto_region 10 with (fail)
            go_region_held3 (fun w' => w'.cell? ⟨w.heap.size, 0, none⟩ = some (.string id) ∧ w'.cell? ⟨w.heap.size, 1, none⟩ = some (.string tx))
              (first | exact (Aside0.out ‹Aside0 (_ ∧ _)›) | exact KP.out _ (by repeat (first | exact Below.refl _ _ | exact HB5.out | apply pw_below_drewN | apply below_drew1 | apply below_alloc)))
              (first
                | (go_at_call 64; refine (H64.out _ (by repeat (first | exact Below.refl _ _ | exact HB5.out | apply pw_below_drewN | apply below_drew1))).mono ?_; rintro e w6 ⟨rfl, hS6, h1, h2, h3, h4⟩; have HS6 := Aside0.mk hS6; have HG6 := Aside0.mk h1; have HT6 := Aside0.mk h2; have HF6 := Aside0.mk h3; have HK6 := Aside0.mk h4; clear hS6 h1 h2 h3 h4))
            clear KP H64
            have hm6 : Fresh w6.drew bf nf Df := World.ownsMap.drew HF6.out
            obtain ⟨w7, hrun7, hm7, hgr7⟩ := World.ownsMap.update hm6 K9 Tryz.underlying99 (by have := HTOT.out; have := HLO.out; unfold maxLen; omega) (WideMaps.keyOf_string_mk Tryz.underlying9 (s := id) (by have := HTOT.out; unfold maxLen; omega)) (plainElem_bool (H := Unit) Tryz.underlying4 true)
            have HS7 : Aside0 (Shf w7 B U g (cnt + 1) (ins id.data.toList tx.data.toList M)) := ⟨by
              have hne := HNE.out
              have hlo := HLO.out
              have hnf := HNF.out
              have hg7 := (hgr7.block g (blk_lt HG6.out) (by simpa using Ne.symm hne.2.2.2.1)).trans HG6.out
              have ht7 := map_keep HT6.out (hgr7.block bt (by exact HT6.out.lt) (by simpa using hlo.2.2.2.2.1))
              refine ⟨⟨bt, bf, _, _, _, _, hg7, hlo.1, hlo.2.1, hlo.2.2.1, hlo.2.2.2.1, hlo.2.2.2.2.1, ht7, hm7, HDT.out.put _ _ HIN.out, ?_, by omega, by omega⟩, HSW.out.lo, HSW.out.hi, ?_, ?_, ?_, ?_⟩
              · rw [marks_ins]
                exact HDF.out.put _ () (by rw [names_marks]; exact HIN.out)
              · rw [ins_len]; have := HNF.out; omega
              · rw [totB_ins, HID.out.2]; exact HNF.out.2.1
              · intro p hp
                rcases (mem_ins _ _ _ p).1 hp with rfl | hp
                · have := HN.out; show 1 ≤ id.data.toList.length ∧ id.data.toList.length ≤ 64; rw [HID.out.1]; exact this
                · exact HSW.out.nm p hp
              · intro p hp
                rcases (mem_ins _ _ _ p).1 hp with rfl | hp
                · show tx.data.toList.length ≤ 2048; rw [HID.out.2]; exact HNF.out.2.2
                · exact HSW.out.tx p hp⟩
            have HK7 : Aside0 (KeptO w w7 B U) := ⟨by
              have hlo := HLO.out
              have hnf := HNF.out
              have hs := HK6.out.size
              exact HK6.out.trans (.of2 ((Kept2.drew w6 g bf).trans (Kept2.grown hgr7)) HSW.out.lo HSW.out.hi hlo.2.2.1 hlo.2.2.2.1 (by omega))⟩
            obtain ⟨k0, k1⟩ := HS6.out
            have kg : w6.cell? ⟨g, 3, none⟩ = some (.map (some bf)) := (blk_cell HG6.out 3).trans rfl
            clear hm6 hm7 hgr7 HS6 HG6 HT6 HF6
            go_upto_region 11 with (fail)
            go_region
            go_wp2_with fail
            go_ret
            exact ⟨rfl, HS7.out, HK7.out⟩
  · rw [decide_eq_false hn]
    have hv : addV M id.data.toList tx.data.toList = (M, 1) := by unfold addV; rw [HID.out.1, if_neg hn]
    obtain ⟨rfl, rfl⟩ := Prod.mk.inj (hv.symm.trans HADD.out)
    clear hv hn
    go_wp2_with fail
    go_ret
    exact ⟨rfl, HS3.out.mono (Nat.le_succ _), HK3.out⟩
end Go.Proofs.YtpeldaogdeefeaaGreat.M
