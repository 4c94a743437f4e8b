/- ShelfAdds: the law. -/
import Derived.Test.YtpeldaogdeefeaaGreatHWake
import Derived.Test.YtpeldaogdeefeaaGreatHx5
import Derived.Test.YtpeldaogdeefeaaGreatHx15
import Derived.Test.YtpeldaogdeefeaaGreatHx4
import Derived.Test.YtpeldaogdeefeaaGreatOpen
namespace Go.Proofs.YtpeldaogdeefeaaGreat.H
open Go.RowKit Go.Maps Go.Sort Go.Shelf Go.Lib Go.Proofs.YtpeldaogdeefeaaGreatW.PrintWords Go.Proofs.YtpeldaogdeefeaaGreatW.PrintLast Go.Proofs.YtpeldaogdeefeaaGreatW.PrintMore Go.Proofs.YtpeldaogdeefeaaGreat.Base Go.Proofs.YtpeldaogdeefeaaGreat.Opening
set_option linter.unusedVariables false
set_option linter.unusedSimpArgs false
def ok36 (x : S36) : Prop := x.f0.size ≤ 140737488351232 ∧ (x.f1.size ≤ 140737488351232)
theorem opens_36 : Opens Tryz.prog 36 k36 ok36 :=
  opens_struct (fun x : S36 => (x.f0, x.f1)) (fun p => ⟨p.1, p.2⟩) (fun _ => rfl) Tryz.underlying36 (by kernel_rfl)
    (show OpensFs Tryz.prog [9, 9] _ _ from (opens_cons (opens_string Tryz.underlying9 (by kernel_rfl)) (opens_last (opens_string Tryz.underlying9 (by kernel_rfl)))))
def ok38 (x : S38) : Prop := (Lit.int .i64 x.f0).wf = true ∧ (ok36 x.f1 ∧ (x.f2.size ≤ 140737488351232 ∧ ((Lit.int .i64 x.f3).wf = true)))
theorem opens_38 : Opens Tryz.prog 38 k38 ok38 :=
  opens_struct (fun x : S38 => (x.f0, x.f1, x.f2, x.f3)) (fun p => ⟨p.1, p.2.1, p.2.2.1, p.2.2.2⟩) (fun _ => rfl) Tryz.underlying38 (by kernel_rfl)
    (show OpensFs Tryz.prog [3, 36, 9, 3] _ _ from (opens_cons (opens_int Tryz.underlying3 (by kernel_rfl)) (opens_cons opens_36 (opens_cons (opens_string Tryz.underlying9 (by kernel_rfl)) (opens_last (opens_int Tryz.underlying3 (by kernel_rfl)))))))
structure S25 where
  f0 : List S36
  f1 : List S38
def k25 : Kd S25 := Kd.iso (Kd.pair (Kd.slice 36 k36) (Kd.slice 38 k38)) (fun x : S25 => (x.f0, x.f1))
def ok25 (x : S25) : Prop := (x.f0.length * 32 ≤ 140737488351232 ∧ ∀ y36 ∈ x.f0, ok36 y36) ∧ ((x.f1.length * 64 ≤ 140737488351232 ∧ ∀ y38 ∈ x.f1, ok38 y38))
theorem opens_25 : Opens Tryz.prog 25 k25 ok25 :=
  opens_struct (fun x : S25 => (x.f0, x.f1)) (fun p => ⟨p.1, p.2⟩) (fun _ => rfl) Tryz.underlying25 (by kernel_rfl)
    (show OpensFs Tryz.prog [22, 23] _ _ from (opens_cons (opens_slice Tryz.underlying22 (by kernel_rfl) (by kernel_rfl) opens_36) (opens_last (opens_slice Tryz.underlying23 (by kernel_rfl) (by kernel_rfl) opens_38))))

theorem rd38 (l : List S38) (i : Nat) (h : i < l.length) : rd_T38 l (i : Int) = l[i] := by
  unfold rd_T38; rw [Int.toNat_natCast, List.getD_eq_getElem?_getD, List.getElem?_eq_getElem h]; rfl
def RefRow (A0 : Option Addr) (c0 : Nat) (l : List S36) (M' : List (Bs × Bs)) (U : Nat) (w6 : World) (v : Value) : Prop := (v = .slice A0 l.length c0 ∧ M' = pairs l) ∨ Kd.R k36 36 w6 U (fun _ => True) v (docs M')
theorem RefRow.keep {A0 : Option Addr} {c0 : Nat} {l : List S36} {M' : List (Bs × Bs)} {B U : Nat} {w w6 : World} {v : Value} (h : RefRow A0 c0 l M' U w6 v) (hC0 : Kd.C k36 w A0 l.length l) (hc : l.length ≤ c0) (hb : Below w.heap.size w w6) (hB : w.heap.size ≤ B) :
    ∃ A c, v = .slice A (docs M').length c ∧ (docs M').length ≤ c ∧ ∀ W', KeptO w6 W' B U → Kd.C k36 W' A (docs M').length (docs M') := by
  rcases h with ⟨rfl, rfl⟩ | h
  · rw [docs_pairs]
    exact ⟨A0, c0, rfl, hc, fun W' hk => Kd.C_below hC0 (hb.trans (hk.below.mono hB))⟩
  · obtain ⟨A, c, rfl⟩ := Kd.R_slice h
    refine ⟨A, c, rfl, (Kd.R_reads' h).2.1, fun W' hk => ?_⟩
    have h2 := Kd.R_move (w1 := W') (Kd.R_bound h) (fun k hkk => hk.kept k hkk.2.2.1 (.inr hkk.2.1))
    exact (Kd.R_reads' h2).2.2
set_option maxRecDepth 100000 in
set_option maxHeartbeats 3200000 in
theorem adds_walk (l : List S36) (L : List S38) (A0 : Option Addr) (c0 : Nat) (A1 : Option Addr) (c1 : Nat) (w : World) (hC0 : Kd.C k36 w A0 l.length l) (hc0 : l.length ≤ c0) (hC1 : Kd.C k38 w A1 L.length L) (hc1 : L.length ≤ c1) (hl : l.length ≤ 1000000000000000) (hL : L.length ≤ 1000000000000000) (hA : ∀ x ∈ L, ok38 x) (m : Int) (hm : w.cell? ⟨0, 0, none⟩ = some (.int .i64 m)) :
    Calls Tryz.prog 3 #[.agg #[.slice A0 l.length c0, .slice A1 L.length c1]] w fun e w' => e = .returned (.bool true) ∧ Below w.heap.size w w' := by
  have HM := Aside0.mk hm
  have HC0 := Aside0.mk hC0
  have HC1 := Aside0.mk hC1
  have HCC := Aside0.mk (And.intro hc0 hc1)
  have HA := Aside0.mk hA
  have HLL := Aside0.mk (And.intro hl hL)
  obtain ⟨hb, kh, hkh⟩ := heavy_is l L hl hL
  have HKH := Aside0.mk (hkh kh (Nat.le_refl _))
  obtain ⟨rd, ⟨kd, hkd⟩, hrd⟩ := docs_is l hl
  have HKD := Aside0.mk (hkd kd (Nat.le_refl _))
  have HRD := Aside0.mk hrd
  have hu25 := Tryz.underlying25
  clear hm hC0 hC1 hc0 hc1 hA hl hL hkh hkd hrd
  go_enter Tryz.func3, Tryz.ntmps3
  go_wp2_with fail
  have hq := heap_alloc_new w (.cells #[.slice A0 l.length c0, .slice A1 L.length c1] 25)
  have hB1 : Below w.heap.size w (w.alloc (.cells #[.slice A0 l.length c0, .slice A1 L.length c1] 25)) := below_alloc (Below.refl _ _) _
  obtain ⟨q, hqe⟩ : ∃ b, b = w.heap.size := ⟨_, rfl⟩
  obtain ⟨w1, hw1⟩ : ∃ z, z = w.alloc (.cells #[.slice A0 l.length c0, .slice A1 L.length c1] 25) := ⟨_, rfl⟩
  rw [← hqe, ← hw1] at hq ⊢
  rw [← hw1] at hB1
  have HQ1 := Aside0.mk hq
  have HB1 := Aside0.mk hB1
  clear hq hB1 hw1
  refine (lecternlaw13_heavy.calls kh A0 c0 l A1 c1 L hb w1 (Kd.C_below HC0.out HB1.out) HCC.out.1 (Kd.C_below HC1.out HB1.out) HCC.out.2 HKH.out).mono ?_
  rintro e w2 ⟨rfl, hb2⟩
  have HB2 : Aside0 (Below w.heap.size w w2) := ⟨below_step HB1.out hb2⟩
  have HQ2 : Aside0 (w2.heap[q]? = some (.cells #[.slice A0 l.length c0, .slice A1 L.length c1] 25 (0, 0))) := ⟨blk_below HQ1.out hb2⟩
  have HQE := Aside0.mk hqe
  clear hb2 HQ1 HB1 hqe
  have x0 : w2.cell? ⟨q, 0, none⟩ = some (.slice A0 l.length c0) := (blk_cell HQ2.out 0).trans rfl
  have x1 : w2.cell? ⟨q, 1, none⟩ = some (.slice A1 L.length c1) := (blk_cell HQ2.out 1).trans rfl
  cases hb
  · go_wp2_with fail
    refine (lecternref8_Docs.calls kd A0 c0 l rd w2 (Kd.C_below HC0.out HB2.out) HCC.out.1 HKD.out).mono ?_
    rintro e w' ⟨rfl, n3, rfl⟩
    by_cases hr0 : rd = 0
    · have HOK : Aside0 (DocsOk l) := ⟨HRD.out hr0⟩
      subst hr0
      clear x0 x1
      obtain ⟨w3, hw3⟩ : ∃ z, z = w2.drewN n3 := ⟨_, rfl⟩
      have HB3 : Aside0 (Below w.heap.size w w3) := ⟨by rw [hw3]; exact pw_below_drewN HB2.out _⟩
      have HQ3 : Aside0 (w3.heap[q]? = some (.cells #[.slice A0 l.length c0, .slice A1 L.length c1] 25 (0, 0))) := ⟨by rw [hw3]; exact HQ2.out⟩
      rw [← hw3]
      clear hw3 HB2 HQ2 HKD HRD HKH
      go_wp2_with fail
      go_loopg [3] 10 (fun kq v3 w' => ∃ i : Nat, Aside0 (i + kq = 10) ∧ v3 = .int .i64 i ∧ Aside0 (Below w3.heap.size w3 w'))
      case atStart => exact ⟨0, ⟨by omega⟩, rfl, ⟨Below.refl _ _⟩⟩
      case round =>
        obtain ⟨i, HIK, rfl, HBW⟩ := hrel
        have x0 : wr.cell? ⟨q, 0, none⟩ = some (.slice A0 l.length c0) := (blk_cell (blk_below HQ3.out HBW.out) 0).trans rfl
        have x1 : wr.cell? ⟨q, 1, none⟩ = some (.slice A1 L.length c1) := (blk_cell (blk_below HQ3.out HBW.out) 1).trans rfl
        have hw1 : wrap64 ((i : Int) + 1) = ((i + 1 : Nat) : Int) := wrn i (by have := HIK.out; omega)
        have HBR : Aside0 (Below w.heap.size w wr) := ⟨below_step HB3.out HBW.out⟩
        by_cases hlt : i < L.length ∧ i < 10
        · have hd1 : decide ((i : Int) < (L.length : Int)) = true := decide_eq_true (by omega)
          have hd2 : decide (i < L.length) = true := decide_eq_true hlt.1
          have hd3 : decide ((i : Int) < 10) = true := decide_eq_true (by omega)
          have hd4 : decide (i < 10) = true := decide_eq_true hlt.2
          have HLT := Aside0.mk hlt
          obtain ⟨ad, eA, k0, k1, k2, _, _⟩ := at_T38 HC1.out (i : Int) (by omega) (by omega)
          rw [Int.toNat_natCast, rd38 L i hlt.1] at k1 k2
          obtain ⟨id, hid⟩ : ∃ z, z = L[i].f1.f0 := ⟨_, rfl⟩
          obtain ⟨tx, htx⟩ : ∃ z, z = L[i].f1.f1 := ⟨_, rfl⟩
          rw [← hid] at k1
          rw [← htx] at k2
          have HTS : Aside0 (id.size ≤ 140737488351232 ∧ tx.size ≤ 140737488351232) := ⟨by
            have h := (HA.out L[i] (List.getElem_mem hlt.1)).2.1
            rw [hid, htx]
            exact h⟩
          have HK1 := Aside0.mk k1
          have HK2 := Aside0.mk k2
          have q0 : ((i : Int) < (L.length : Int)) = True := eq_true (by omega)
          have p0 : ((0 : Int) ≤ (i : Int)) = True := eq_true (by omega)
          subst eA
          clear k0 k1 k2 hid htx hlt
          go_wp2_with fail
          refine (new_calls A0 c0 l wr (Kd.C_below HC0.out HBR.out) HCC.out.1 HOK.out).mono ?_
          rintro e w5 ⟨g, rfl, hs5, hb5⟩
          have HS5 := Aside0.mk hs5
          have HB5 : Aside0 (Below w3.heap.size w3 w5) := ⟨below_step HBW.out hb5⟩
          have HSZ : Aside0 (wr.heap.size ≤ w5.heap.size) := ⟨hb5.size⟩
          clear hs5 hb5 x0 x1
          go_wp2_with fail
          refine (num_calls 0 w5).mono ?_
          rintro e w' ⟨rfl, hww⟩
          have hww' : w5 = w' := hww.symm
          clear hww
          subst hww'
          go_wp2_with fail
          obtain ⟨⟨M', r⟩, hadd⟩ : ∃ z, addV (pairs l) id.data.toList tx.data.toList = z := ⟨_, rfl⟩
          have HADD := Aside0.mk hadd
          clear hadd
          have KP : Aside0 (∀ W, Below w5.heap.size w5 W → W.cell? ⟨q, 0, none⟩ = some (.slice A0 l.length c0) ∧ W.cell? ⟨q, 1, none⟩ = some (.slice (some ad) L.length c1) ∧ W.cell? ⟨(ad.add (i * 5)).block, (ad.add (i * 5)).off + 1, none⟩ = some (.string id) ∧ W.cell? ⟨(ad.add (i * 5)).block, (ad.add (i * 5)).off + 2, none⟩ = some (.string tx)) := ⟨fun W hb => by
            have hq := blk_below HQ3.out (below_step HB5.out hb)
            have hbw := below_step HB3.out (below_step HB5.out hb)
            exact ⟨(blk_cell hq 0).trans rfl, (blk_cell hq 1).trans rfl, (hbw.cell (World.block_lt_of_cell? w _ HK1.out)).trans HK1.out, (hbw.cell (World.block_lt_of_cell? w _ HK2.out)).trans HK2.out⟩⟩
          have H23 : Aside0 (∀ W, Below w5.heap.size w5 W → Calls Tryz.prog 23 #[.slice A0 l.length c0, .agg #[.string id, .string tx]] W fun e w' => ∃ v, e = .returned (.tuple #[v, .int .i64 r]) ∧ (w'.cell? ⟨q, 0, none⟩ = some (.slice A0 l.length c0) ∧ w'.cell? ⟨q, 1, none⟩ = some (.slice (some ad) L.length c1) ∧ w'.cell? ⟨(ad.add (i * 5)).block, (ad.add (i * 5)).off + 1, none⟩ = some (.string id) ∧ w'.cell? ⟨(ad.add (i * 5)).block, (ad.add (i * 5)).off + 2, none⟩ = some (.string tx)) ∧ RefRow A0 c0 l M' w5.heap.size w' v ∧ Below w5.heap.size w5 w') := ⟨fun W hb => by
            refine (refAdd_calls A0 c0 l id tx W (Kd.C_below HC0.out (below_step HB3.out (below_step HB5.out hb))) HCC.out.1 ⟨HOK.out.few, HOK.out.tot⟩ HTS.out.1 HTS.out.2 HADD.out).mono ?_
            rintro e w' ⟨v, rfl, h1, h2⟩
            have h3 := below_step hb h2
            refine ⟨v, rfl, KP.out w' h3, ?_, h3⟩
            rcases h1 with h1 | h1
            · exact .inl h1
            · exact .inr (Kd.R_lower h1 hb.size)⟩
          go_region_held3 (fun w' => w'.cell? ⟨q, 0, none⟩ = some (.slice A0 l.length c0) ∧ w'.cell? ⟨q, 1, none⟩ = some (.slice (some ad) L.length c1) ∧ w'.cell? ⟨(ad.add (i * 5)).block, (ad.add (i * 5)).off + 1, none⟩ = some (.string id) ∧ w'.cell? ⟨(ad.add (i * 5)).block, (ad.add (i * 5)).off + 2, none⟩ = some (.string tx))
            (first | exact (Aside0.out ‹Aside0 (_ ∧ _ ∧ _ ∧ _)›) | exact KP.out _ (by repeat (first | exact Below.refl _ _ | apply pw_below_drewN | apply below_drew1 | apply below_alloc)))
            (first
              | (go_at_call 23; refine (H23.out _ (by repeat (first | exact Below.refl _ _ | apply pw_below_drewN | apply below_drew1))).mono ?_; rintro e w6 ⟨v6, rfl, hS6, h1, h2⟩; have HS6 := Aside0.mk hS6; have HR6 := Aside0.mk h1; have HB6 := Aside0.mk h2; clear hS6 h1 h2))
          obtain ⟨A6, c6, rfl, hc6, hk6⟩ := HR6.out.keep HC0.out HCC.out.1 (below_step HB3.out (below_step HB5.out HB6.out)) HBR.out.size
          have HC6 := Aside0.mk hc6
          have HK6 : Aside0 (∀ W', KeptO w6 W' wr.heap.size w5.heap.size → Kd.C k36 W' A6 (docs M').length (docs M')) := ⟨hk6⟩
          have HS6' : Aside0 (Shf w6 wr.heap.size w5.heap.size g 64 (pairs l)) := ⟨HS5.out.below HB6.out⟩
          obtain ⟨y0, y1, y2, y3⟩ := HS6.out
          clear hc6 hk6 HS6 HR6 KP H23
          go_wp2_with fail
          refine (add_calls HS6'.out (by decide) id tx HTS.out.1 HTS.out.2 HADD.out).mono ?_
          rintro e w7 ⟨rfl, hs7, hk7⟩
          have HS7 := Aside0.mk hs7
          have HK7 := Aside0.mk hk7
          clear hs7 hk7 y0 y1 y2 y3 HS6'
          go_wp2_with fail
          refine (num_calls r w7).mono ?_
          rintro e w' ⟨rfl, hww⟩
          have hww' : w7 = w' := hww.symm
          clear hww
          subst hww'
          go_wp2_with fail
          refine (docs_calls HS7.out).mono ?_
          rintro e w8 ⟨v8, rfl, hr8, hb8⟩
          obtain ⟨A8, c8, rfl⟩ := Kd.R_slice hr8
          have HR8 := Aside0.mk hr8
          have HK8 : Aside0 (KeptO w6 w8 wr.heap.size w5.heap.size) := ⟨HK7.out.trans (.of_below hb8 (by have := HK7.out.size; have := HB6.out.size; have := HSZ.out; omega))⟩
          clear hr8 hb8
          obtain ⟨D, hD⟩ : ∃ D, D = docs M' := ⟨_, rfl⟩
          have HDN : Aside0 (D.length ≤ 64) := ⟨by rw [hD, docs_len]; exact HS7.out.few⟩
          obtain ⟨kq, hkq⟩ := eq_is D (by have := HDN.out; omega)
          have HKQ := Aside0.mk (hkq kq (Nat.le_refl _))
          rw [← hD] at HR8 HK6 HC6 ⊢
          clear hD hkq
          go_wp2_with fail
          refine (lecternref0_EqDocs.calls kq A8 c8 D A6 c6 D true w8 (Kd.R_reads' HR8.out).2.2 (Kd.R_reads' HR8.out).2.1 (HK6.out _ HK8.out) HC6.out HKQ.out).mono ?_
          rintro e w' ⟨rfl, n9, rfl⟩
          go_wp2_with fail
          go_roundg (gk - 1)
          case measure => have := HIK.out; have := HLT.out; omega
          case rel => exact ⟨i + 1, ⟨by have := HIK.out; have := HLT.out; omega⟩, by rw [hw1], ⟨by
            have hs : w3.heap.size ≤ wr.heap.size := HBW.out.size
            exact (below_step HB5.out HB6.out).trans (pw_below_drewN (HK8.out.below.mono hs) n9)⟩⟩
        · have hd1 : decide ((i : Int) < (L.length : Int)) = decide (i < L.length) := by
            by_cases h : i < L.length
            · rw [decide_eq_true h, decide_eq_true (by omega)]
            · rw [decide_eq_false h, decide_eq_false (by omega)]
          by_cases h1 : i < L.length
          · have hd2 : decide (i < L.length) = true := decide_eq_true h1
            have hd3 : decide ((i : Int) < 10) = false := decide_eq_false (by omega)
            have hd4 : decide (i < 10) = false := decide_eq_false (by omega)
            rw [hd2] at hd1
            clear h1 hlt
            go_wp2_with fail
            refine (wakes_calls wr m ((HBR.out.cell (World.block_lt_of_cell? w _ HM.out)).trans HM.out)).mono ?_
            rintro e w9 ⟨rfl, hb9⟩
            go_wp2_with fail
            go_ret
            exact ⟨rfl, below_step HBR.out hb9⟩
          · have hd2 : decide (i < L.length) = false := decide_eq_false h1
            rw [hd2] at hd1
            clear h1 hlt
            go_wp2_with fail
            refine (wakes_calls wr m ((HBR.out.cell (World.block_lt_of_cell? w _ HM.out)).trans HM.out)).mono ?_
            rintro e w9 ⟨rfl, hb9⟩
            go_wp2_with fail
            go_ret
            exact ⟨rfl, below_step HBR.out hb9⟩
    · have r1 : decide (rd = 0) = false := decide_eq_false hr0
      have r2 : (rd == 0) = false := beq_eq_false_iff_ne.mpr hr0
      have r3 : (rd != 0) = true := bne_iff_ne.mpr hr0
      go_wp2_with fail
      go_ret
      exact ⟨rfl, pw_below_drewN HB2.out _⟩
  · go_wp2_with fail
    go_ret
    exact ⟨rfl, HB2.out⟩
theorem adds_law (x : S25) (cs : List Value) (w : World) (hk : k25.K w x cs) (ho : ok25 x) (m : Int) (hm : w.cell? ⟨0, 0, none⟩ = some (.int .i64 m)) :
    Calls Tryz.prog 3 #[.agg ⟨cs⟩] w fun e w' => e = .returned (.bool true) ∧ Below w.heap.size w w' := by
  obtain ⟨_, _, rfl, ⟨A0, c0, rfl, hc0, hC0⟩, ⟨A1, c1, rfl, hc1, hC1⟩⟩ := hk
  obtain ⟨⟨h1, h2⟩, h3, h4⟩ := ho
  exact adds_walk x.f0 x.f1 A0 c0 A1 c1 w hC0 hc0 hC1 hc1 (by omega) (by omega) h4 m hm
end Go.Proofs.YtpeldaogdeefeaaGreat.H
