/- Sessions: rows of one's own (VLaw, VNo, VDoes, VNil, VHeavy). -/
import Derived.Test.YtoonepmnlgfikaaVC
import Derived.Test.YtoonepmnlgfikaaVxM
import Derived.Test.YtoonepmnlgfikaaOpen
/-! VLaw -/
namespace Go.Proofs.Ytoonepmnlgfikaa.D
open Go.ChangeShapes Go.WideShapes Go.RowKit Go.Proofs.YtoonepmnlgfikaaW.PrintWords Go.Proofs.YtoonepmnlgfikaaW.PrintLast Go.Proofs.YtoonepmnlgfikaaW.PrintMore Go.Proofs.Ytoonepmnlgfikaa.Base Go.Proofs.Ytoonepmnlgfikaa.Opening Go.Maps Go.Sort Go.Shelf
set_option linter.unusedVariables false
set_option linter.unusedSimpArgs false
def ok74 (x : V.S74) : Prop := (Lit.int .i64 x.f0).wf = true ∧ ((Lit.int .i64 x.f1).wf = true ∧ ((Lit.int .i64 x.f2).wf = true ∧ ((Lit.int .i64 x.f3).wf = true ∧ (x.f4.size ≤ 140737488351232 ∧ ((x.f5.length * 8 ≤ 140737488351232 ∧ ∀ y3 ∈ x.f5, (Lit.int .i64 y3).wf = true))))))
theorem opens_74 : Opens Try.prog 74 V.k74 ok74 :=
  opens_struct (fun x : V.S74 => (x.f0, x.f1, x.f2, x.f3, x.f4, x.f5)) (fun p => ⟨p.1, p.2.1, p.2.2.1, p.2.2.2.1, p.2.2.2.2.1, p.2.2.2.2.2⟩) (fun _ => rfl) Try.underlying74 (by kernel_rfl)
    (show OpensFs Try.prog [3, 3, 3, 3, 9, 28] _ _ from (opens_cons (opens_int Try.underlying3 (by kernel_rfl)) (opens_cons (opens_int Try.underlying3 (by kernel_rfl)) (opens_cons (opens_int Try.underlying3 (by kernel_rfl)) (opens_cons (opens_int Try.underlying3 (by kernel_rfl)) (opens_cons (opens_string Try.underlying9 (by kernel_rfl)) (opens_last (opens_slice Try.underlying28 (by kernel_rfl) (by kernel_rfl) (opens_int Try.underlying3 (by kernel_rfl))))))))))
structure S62 where
  f0 : List V.S74
  f1 : List Int
def k62 : Kd S62 := Kd.iso (Kd.pair (Kd.slice 74 V.k74) (Kd.slice 3 (Kd.int .i64))) (fun x : S62 => (x.f0, x.f1))
def ok62 (x : S62) : Prop := (x.f0.length * 72 ≤ 140737488351232 ∧ ∀ y74 ∈ x.f0, ok74 y74) ∧ ((x.f1.length * 8 ≤ 140737488351232 ∧ ∀ y3 ∈ x.f1, (Lit.int .i64 y3).wf = true))
theorem opens_62 : Opens Try.prog 62 k62 ok62 :=
  opens_struct (fun x : S62 => (x.f0, x.f1)) (fun p => ⟨p.1, p.2⟩) (fun _ => rfl) Try.underlying62 (by kernel_rfl)
    (show OpensFs Try.prog [60, 28] _ _ from (opens_cons (opens_slice Try.underlying60 (by kernel_rfl) (by kernel_rfl) opens_74) (opens_last (opens_slice Try.underlying28 (by kernel_rfl) (by kernel_rfl) (opens_int Try.underlying3 (by kernel_rfl))))))

theorem heavyV_l0 (l0 : List V.S74) (l1 : List Int) (hl : l0.length ≤ 140737488355328) : ∀ (d k : Nat) (i : Nat) (x : Int), i + d = l0.length → d < k → ∃ b, V.lecternlaw20_heavy.l0 k x (i : Int) l0 l1 = some b
  | 0, k, i, x, hd, hk => by
    obtain ⟨k, rfl⟩ : ∃ n, k = n + 1 := ⟨k - 1, by omega⟩
    unfold V.lecternlaw20_heavy.l0
    rw [if_neg (by omega)]
    repeat' split
    all_goals exact ⟨_, rfl⟩
  | d + 1, k, i, x, hd, hk => by
    obtain ⟨k, rfl⟩ : ∃ n, k = n + 1 := ⟨k - 1, by omega⟩
    have hw : wrap64 ((i : Int) + 1) = ((i + 1 : Nat) : Int) := by rw [wrap64_in _ (by omega) (by omega)]; rfl
    unfold V.lecternlaw20_heavy.l0
    rw [if_pos (by omega), hw, if_pos (show (0 : Int) ≤ (i : Int) by omega)]
    by_cases h : x < 1048576
    · rw [if_pos h]
      exact heavyV_l0 l0 l1 hl d k (i + 1) _ (by omega) (by omega)
    · rw [if_neg h]
      repeat' split
      all_goals exact ⟨_, rfl⟩
theorem heavyV_some (l0 : List V.S74) (l1 : List Int) (hl : l0.length ≤ 140737488355328) : ∃ b, V.lecternlaw20_heavy.f (l0.length + 1) l0 l1 = some b := heavyV_l0 l0 l1 hl l0.length _ 0 0 (by omega) (by omega)
def aState : ByteArray := ⟨#[97, 32, 115, 116, 97, 116, 101]⟩
/-- Ahead of round i. -/
structure RoundV (w1 W : World) (d : Value) (ix : Int) (i : Nat) : Prop where
  ok : ∃ g b cnt n D vt, d = .pointer (some ⟨g, 0, none⟩) ∧ Dsk W w1.heap.size g b cnt n D (snapF vt (if i = 0 then none else some (ix, 2, aState))) ∧ VtOk vt ∧ 0 ≤ n ∧ n ≤ 100 ∧ cnt ≤ 16
  ixv : ix = 5 + ((i + 1) / 2 : Nat)
  below : Below w1.heap.size w1 W
theorem snOk_a (i : Nat) (ix : Int) (h0 : 0 ≤ ix) (h1 : ix ≤ 100) : SnOk (if i = 0 then none else some (ix, 2, aState)) := ⟨fun x e => by
  split at e
  · cases e
  · injection e with e
    subst e
    exact ⟨h0, by show ix < 1099511627776; omega, show (0 : Int) ≤ 2 by decide, show (2 : Int) < 1099511627776 by decide, show aState.size ≤ 30000 by decide⟩⟩
theorem snOk_b (ix : Int) (h0 : 0 ≤ ix) (h1 : ix ≤ 100) : SnOk (some (ix, 2, aState)) := ⟨fun x e => by
  injection e with e
  subst e
  exact ⟨h0, by show ix < 1099511627776; omega, show (0 : Int) ≤ 2 by decide, show (2 : Int) < 1099511627776 by decide, show aState.size ≤ 30000 by decide⟩⟩
theorem vtOk_a (i : Nat) (h : i < 6) : VtOk (some ((i : Int) + 1, (i : Int))) := ⟨fun x e => by
  injection e with e
  subst e
  exact ⟨by show (0 : Int) ≤ (i : Int) + 1; omega, by show (i : Int) + 1 < 1099511627776; omega, by show (0 : Int) ≤ (i : Int); omega, by show (i : Int) < 1099511627776; omega⟩⟩
theorem i_facts (i : Nat) (h : i < 6) : Int.tmod (i : Int) 8 = (i : Int) ∧ wrap64 ((i : Int) + 1) = (i : Int) + 1 ∧ wrap64 (i : Int) = (i : Int) ∧ Int.tmod (i : Int) 2 = ((i % 2 : Nat) : Int) := by
  refine ⟨?_, wrap64_in _ (by omega) (by omega), wrap64_in _ (by omega) (by omega), rfl⟩
  rw [Int.tmod_eq_emod_of_nonneg (by omega)]
  omega
set_option maxRecDepth 100000 in
set_option maxHeartbeats 6400000 in
theorem votes_walk0 (A0 : Option Addr) (c0 : Nat) (l0 : List V.S74) (A1 : Option Addr) (c1 : Nat) (l1 : List Int) (w : World) (hr0 : Kd.C V.k74 w A0 l0.length l0) (hc0 : l0.length ≤ c0) (hr1 : Kd.C (Kd.int .i64) w A1 l1.length l1) (hc1 : l1.length ≤ c1) (hl0 : l0.length ≤ 140737488351232) :
    Calls Try.prog 7 #[.agg #[.slice A0 l0.length c0, .slice A1 l1.length c1]] w fun e w' => e = .returned (.bool true) ∧ Below w.heap.size w w' := by
  obtain ⟨b, hb⟩ := heavyV_some l0 l1 (by omega)
  have HB := Aside0.mk hb
  have HR0 := Aside0.mk hr0
  have HC0 := Aside0.mk hc0
  have HR1 := Aside0.mk hr1
  have HC1 := Aside0.mk hc1
  have hu62 := Try.underlying62
  clear hb hr0 hc0 hr1 hc1
  go_enter Try.func7, Try.ntmps7
  go_wp2_with fail
  have hbx := heap_alloc_new w (.cells #[.slice A0 l0.length c0, .slice A1 l1.length c1] 62)
  have hbl : Below w.heap.size w (w.alloc (.cells #[.slice A0 l0.length c0, .slice A1 l1.length c1] 62)) := below_alloc (Below.refl _ _) _
  have HL := Aside0.mk hbl
  clear hbl
  generalize w.alloc (.cells #[.slice A0 l0.length c0, .slice A1 l1.length c1] 62) = w0 at *
  refine (V.lecternlaw20_heavy.calls (l0.length + 1) A0 c0 l0 A1 c1 l1 b _ (Kd.C_below HR0.out HL.out) HC0.out (Kd.C_below HR1.out HL.out) HC1.out HB.out).mono ?_
  rintro e w1 ⟨rfl, hbel⟩
  have hbx1 := (hbel.block _ (blk_lt hbx)).trans hbx
  have HBX := Aside0.mk hbx1
  have HP1 : Aside0 (w.heap.size < w1.heap.size) := ⟨blk_lt hbx1⟩
  have HR0' : Aside0 (Kd.C V.k74 w1 A0 l0.length l0) := ⟨Kd.C_below (Kd.C_below HR0.out HL.out) hbel⟩
  have HL1 : Aside0 (Below w.heap.size w w1) := ⟨below_step HL.out hbel⟩
  clear hbel hbx hbx1 HR0 HC0 HR1 HL HB
  cases b with
  | true =>
    go_wp2_with fail
    go_ret
    exact ⟨rfl, HL1.out⟩
  | false =>
    have hbb : (false = true) = False := by simp
    go_wp2_with fail
    refine (disk27_calls w1).mono ?_
    rintro e w2 ⟨g, b, rfl, hD2, hb2⟩
    have HRD : Aside0 (RoundV w1 w2 (.pointer (some ⟨g, 0, none⟩)) 5 0) := ⟨⟨g, b, 0, 0, _, none, rfl, hD2, ⟨fun x e => by cases e⟩, by decide, by decide, by decide⟩, rfl, hb2⟩
    clear hD2 hb2
    go_wp2_with fail
    go_loopg [3, 4, 5, 6, 7, 8, 9] 6 (fun kq v3 v4 v5 v6 v7 v8 v9 w' => ∃ (i : Nat) (ix : Int), Aside0 (i + kq = 6) ∧ v5 = .int .i64 i ∧ v4 = .int .i64 ix ∧ Aside0 (RoundV w1 w' v3 ix i))
    case atStart => exact ⟨0, 5, ⟨rfl⟩, rfl, rfl, HRD⟩
    case round =>
      obtain ⟨i, ix, HIK, rfl, rfl, HRV⟩ := hrel
      clear HRD
      have x0 : wr.cell? ⟨w.heap.size, 0, none⟩ = some (.slice A0 l0.length c0) := (blk_cell ((HRV.out.below.block _ HP1.out).trans HBX.out) 0).trans rfl
      by_cases hlt : i < l0.length
      · by_cases h6 : i < 6
        · have hd1 : decide (i < l0.length) = true := decide_eq_true hlt
          have hd2 : decide ((i : Int) < 6) = true := decide_eq_true (by omega)
          have HI6 := Aside0.mk h6
          have HLT := Aside0.mk hlt
          obtain ⟨g0, hg0⟩ : ∃ g0, g0 = gk - 1 := ⟨_, rfl⟩
          have HGM : Aside0 (g0 < gk ∧ i + 1 + g0 = 6) := ⟨by have := HIK.out; omega⟩
          obtain ⟨⟨g, b, cnt, n, D, vt, rfl, hD, hvt, hn0, hn1, hcn⟩, hix, hbw⟩ := HRV.out
          have HD := Aside0.mk hD
          have HVT := Aside0.mk hvt
          have HN : Aside0 (0 ≤ n ∧ n ≤ 100 ∧ cnt ≤ 16) := ⟨hn0, hn1, hcn⟩
          have HIX := Aside0.mk hix
          have HIXB : Aside0 (5 ≤ ix ∧ ix ≤ 50) := ⟨by omega⟩
          have HBW := Aside0.mk hbw
          obtain ⟨hm8, hw1, hw0, hm2⟩ := i_facts i h6
          clear hD hvt hn0 hn1 hcn hix hbw hg0 HRV hlt h6
          go_wp2_with fail
          refine (open_calls HD.out HVT.out (snOk_a i ix (by have := HIXB.out; omega) (by have := HIXB.out; omega))).mono ?_
          rintro e w3 ⟨s, rfl, hs3, hD3, hst3, hb3⟩
          have HD3 := Aside0.mk hD3
          have HS3 := Aside0.mk hst3
          have HSW : Aside0 (w1.heap.size ≤ s) := ⟨by have := HBW.out.size; omega⟩
          have HB3 := Aside0.mk (below_step HBW.out hb3)
          clear hs3 hD3 hst3 hb3 HD HBW
          go_wp2_with fail
          refine (V.lecternlaw20_num.calls _ _ _ rfl).mono ?_
          rintro e w' ⟨rfl, ⟨n3, rfl⟩⟩
          go_wp2_with fail
          refine (setvote_calls (HD3.out.drewN n3) HN.out.1 (by have := HN.out; omega) (by have := HN.out; omega) (show StoreAt (w3.drewN n3) s g _ from HS3.out) HSW.out ((i : Int) + 1) (i : Int) (by omega) (by have := HI6.out; omega) (by omega) (by have := HI6.out; omega)).mono ?_
          rintro e w4 ⟨rfl, hst4⟩
          obtain ⟨⟨n4, cn4, D4, hD4, ha4, hb4, hc4⟩, hs4, hbl4⟩ := hst4
          have HD4 := Aside0.mk hD4
          have HN4 : Aside0 (0 ≤ n4 ∧ n4 ≤ 200 ∧ cn4 ≤ 20) := ⟨by have := HN.out; omega⟩
          have HS4 := Aside0.mk hs4
          have HB4 : Aside0 (Below w1.heap.size w1 w4) := ⟨(pw_below_drewN HB3.out n3).trans hbl4⟩
          clear hD4 ha4 hb4 hc4 hs4 hbl4 HD3 HS3 HB3
          go_wp2_with fail
          refine (V.lecternlaw20_num.calls _ _ _ rfl).mono ?_
          rintro e w' ⟨rfl, ⟨n5, rfl⟩⟩
          have HD5 := Aside0.mk (HD4.out.drewN n5)
          have HS5 : Aside0 (StoreAt (w4.drewN n5) s g _) := ⟨HS4.out⟩
          have HB5 : Aside0 (Below w1.heap.size w1 (w4.drewN n5)) := ⟨pw_below_drewN HB4.out n5⟩
          clear HD4 HS4 HB4
          generalize w4.drewN n5 = w5 at *
          have hz0 : wrap64 0 = 0 := wrap64_in _ (by decide) (by decide)
          have hz1 : wrap64 1 = 1 := wrap64_in _ (by decide) (by decide)
          have HPAR := Aside0.mk hm2
          clear hm2
          rcases Nat.mod_two_eq_zero_or_one i with hp | hp
          · have hm2 : Int.tmod (i : Int) 2 = 0 := by rw [HPAR.out, hp]; rfl
            obtain ⟨ix2, hix2⟩ : ∃ ix2, ix2 = ix + 1 := ⟨_, rfl⟩
            have hwx : wrap64 (ix + 1) = ix2 := by rw [hix2]; exact wrap64_in _ (by have := HIXB.out; omega) (by have := HIXB.out; omega)
            have HIX2 : Aside0 (5 ≤ ix2 ∧ ix2 ≤ 51) := ⟨by have := HIXB.out; omega⟩
            have HIXE : Aside0 (ix2 = 5 + ((i + 1 + 1) / 2 : Nat)) := ⟨by have := HIX.out; omega⟩
            clear hix2 hp
            go_wp2_with fail
            refine (setsnap_calls HD5.out HN4.out.1 (by have := HN4.out; omega) (by have := HN4.out; omega) HS5.out HSW.out ix2 2 (by have := HIX2.out; omega) (by have := HIX2.out; omega) (by decide) (by decide) aState (by decide)).mono ?_
            rintro e w6 ⟨rfl, hst6⟩
            obtain ⟨⟨n6, cn6, D6, hD6, ha6, hb6, hc6⟩, hs6, hbl6⟩ := hst6
            have HD6 := Aside0.mk hD6
            have HB6 : Aside0 (Below w1.heap.size w1 w6) := ⟨HB5.out.trans hbl6⟩
            clear hD6 ha6 hb6 hc6 hs6 hbl6 HD5 HS5 HB5
            go_wp2_with fail
            refine (V.lecternlaw20_num.calls _ _ _ rfl).mono ?_
            rintro e w' ⟨rfl, ⟨n7, rfl⟩⟩
            have HDX := Aside0.mk (HD6.out.drewN n7)
            have HBX2 : Aside0 (Below w1.heap.size w1 (w6.drewN n7)) := ⟨pw_below_drewN HB6.out n7⟩
            clear HD6 HB6
            generalize w6.drewN n7 = wX at *
            have kx0 : wX.cell? ⟨w.heap.size, 0, none⟩ = some (.slice A0 l0.length c0) := (blk_cell ((HBX2.out.block _ HP1.out).trans HBX.out) 0).trans rfl
            obtain ⟨ad, A5, c5, eA, e0, e1, e2, e3, e4, e5, hc5, hC5⟩ := V.at_T74 (Kd.C_below HR0'.out HBX2.out) (i : Int) (by omega) (by have := HLT.out; omega)
            rw [Int.toNat_natCast] at e5
            generalize hact : V.rd_T74 l0 (i : Int) = act at *
            obtain ⟨do_, t_, v_, ii_, dt_, ps⟩ := act
            dsimp only at *
            have HC5 := Aside0.mk hC5
            have HK5 := Aside0.mk hc5
            clear e0 e1 e2 e3 e4 hC5 hc5 hact x0
            subst eA
            have q0 : ((i : Int) < (l0.length : Int)) = True := eq_true (by have := HLT.out; omega)
            have p0 : ((0 : Int) ≤ (i : Int)) = True := eq_true (by omega)
            go_wp2_with fail
            refine (again_calls HDX.out (snOk_b ix2 (by have := HIX2.out; omega) (by have := HIX2.out; omega)) A5 c5 ps HC5.out HK5.out).mono ?_
            rintro e w7 ⟨g7, b7, cn7, D7, rfl, hD7, hcn7, hb7⟩
            have HD7 := Aside0.mk hD7
            have HCN7 := Aside0.mk hcn7
            have HB7 := Aside0.mk (below_step HBX2.out hb7)
            clear hD7 hcn7 hb7 kx0 e5 HDX HBX2
            go_wp2_with fail
            refine (open_calls HD7.out (vtOk_a i HI6.out) (snOk_b ix2 (by have := HIX2.out; omega) (by have := HIX2.out; omega))).mono ?_
            rintro e w8 ⟨s8, rfl, hs8, hD8, hst8, hb8⟩
            have HD8 := Aside0.mk hD8
            have HS8 : Aside0 (StoreAt w8 s8 g7 ⟨(i : Int) + 1, (i : Int), ix2, 2, aState⟩) := ⟨hst8⟩
            have HB8 := Aside0.mk (below_step HB7.out hb8)
            clear hs8 hD8 hst8 hb8 HD7 HB7
            go_wp2_with fail
            refine (V.lecternlaw20_num.calls _ _ _ rfl).mono ?_
            rintro e w' ⟨rfl, ⟨n8, rfl⟩⟩
            go_wp2_with fail
            refine (same_calls s8 g7 ⟨(i : Int) + 1, (i : Int), ix2, 2, aState⟩ _ (show StoreAt (w8.drewN n8) s8 g7 _ from HS8.out)).mono ?_
            rintro e w9 ⟨rfl, hb9⟩
            have HRN : Aside0 (RoundV w1 w9 (.pointer (some ⟨g7, 0, none⟩)) ix2 (i + 1)) := ⟨⟨⟨g7, b7, cn7, 0, D7, some ((i : Int) + 1, (i : Int)), rfl, by rw [if_neg (Nat.succ_ne_zero i)]; exact (HD8.out.drewN n8).below hb9, vtOk_a i HI6.out, by decide, by decide, HCN7.out⟩, HIXE.out, below_step (pw_below_drewN HB8.out n8) hb9⟩⟩
            clear hb9 HD8 HB8 HS8
            go_wp2_with fail
            go_roundg g0
            case measure => exact HGM.out.1
            case rel => exact ⟨i + 1, ix2, ⟨HGM.out.2⟩, (by rw [hw1]; rfl), rfl, HRN⟩
          · have hm2 : Int.tmod (i : Int) 2 = 1 := by rw [HPAR.out, hp]; rfl
            have hi0 : i ≠ 0 := by intro e; rw [e] at hp; exact absurd hp (by decide)
            have HDX : Aside0 (Dsk w5 w1.heap.size g b cn4 n4 D4 (snapF (some ((i : Int) + 1, (i : Int))) (some (ix, 2, aState)))) := ⟨by have := HD5.out; rw [if_neg hi0] at this; exact this⟩
            have HBX2 := Aside0.mk HB5.out
            have HIX2 : Aside0 (5 ≤ ix ∧ ix ≤ 51) := ⟨by have := HIXB.out; omega⟩
            have HIXE : Aside0 (ix = 5 + ((i + 1 + 1) / 2 : Nat)) := ⟨by have := HIX.out; omega⟩
            clear hp hi0 HD5 HS5 HB5
            generalize w5 = wX at *
            have kx0 : wX.cell? ⟨w.heap.size, 0, none⟩ = some (.slice A0 l0.length c0) := (blk_cell ((HBX2.out.block _ HP1.out).trans HBX.out) 0).trans rfl
            obtain ⟨ad, A5, c5, eA, e0, e1, e2, e3, e4, e5, hc5, hC5⟩ := V.at_T74 (Kd.C_below HR0'.out HBX2.out) (i : Int) (by omega) (by have := HLT.out; omega)
            rw [Int.toNat_natCast] at e5
            generalize hact : V.rd_T74 l0 (i : Int) = act at *
            obtain ⟨do_, t_, v_, ii_, dt_, ps⟩ := act
            dsimp only at *
            have HC5 := Aside0.mk hC5
            have HK5 := Aside0.mk hc5
            clear e0 e1 e2 e3 e4 hC5 hc5 hact x0
            subst eA
            have q0 : ((i : Int) < (l0.length : Int)) = True := eq_true (by have := HLT.out; omega)
            have p0 : ((0 : Int) ≤ (i : Int)) = True := eq_true (by omega)
            go_wp2_with fail
            refine (again_calls HDX.out (snOk_b ix (by have := HIX2.out; omega) (by have := HIX2.out; omega)) A5 c5 ps HC5.out HK5.out).mono ?_
            rintro e w7 ⟨g7, b7, cn7, D7, rfl, hD7, hcn7, hb7⟩
            have HD7 := Aside0.mk hD7
            have HCN7 := Aside0.mk hcn7
            have HB7 := Aside0.mk (below_step HBX2.out hb7)
            clear hD7 hcn7 hb7 kx0 e5 HDX HBX2
            go_wp2_with fail
            refine (open_calls HD7.out (vtOk_a i HI6.out) (snOk_b ix (by have := HIX2.out; omega) (by have := HIX2.out; omega))).mono ?_
            rintro e w8 ⟨s8, rfl, hs8, hD8, hst8, hb8⟩
            have HD8 := Aside0.mk hD8
            have HS8 : Aside0 (StoreAt w8 s8 g7 ⟨(i : Int) + 1, (i : Int), ix, 2, aState⟩) := ⟨hst8⟩
            have HB8 := Aside0.mk (below_step HB7.out hb8)
            clear hs8 hD8 hst8 hb8 HD7 HB7
            go_wp2_with fail
            refine (V.lecternlaw20_num.calls _ _ _ rfl).mono ?_
            rintro e w' ⟨rfl, ⟨n8, rfl⟩⟩
            go_wp2_with fail
            refine (same_calls s8 g7 ⟨(i : Int) + 1, (i : Int), ix, 2, aState⟩ _ (show StoreAt (w8.drewN n8) s8 g7 _ from HS8.out)).mono ?_
            rintro e w9 ⟨rfl, hb9⟩
            have HRN : Aside0 (RoundV w1 w9 (.pointer (some ⟨g7, 0, none⟩)) ix (i + 1)) := ⟨⟨⟨g7, b7, cn7, 0, D7, some ((i : Int) + 1, (i : Int)), rfl, by rw [if_neg (Nat.succ_ne_zero i)]; exact (HD8.out.drewN n8).below hb9, vtOk_a i HI6.out, by decide, by decide, HCN7.out⟩, HIXE.out, below_step (pw_below_drewN HB8.out n8) hb9⟩⟩
            clear hb9 HD8 HB8 HS8
            go_wp2_with fail
            go_roundg g0
            case measure => exact HGM.out.1
            case rel => exact ⟨i + 1, ix, ⟨HGM.out.2⟩, (by rw [hw1]; rfl), rfl, HRN⟩
        · have hd1 : decide (i < l0.length) = true := decide_eq_true hlt
          have hd2 : decide ((i : Int) < 6) = false := decide_eq_false (by omega)
          go_wp2_with ((go_at_call 34; refine (wakes34 _).mono ?_; rintro e w' ⟨rfl, hwk⟩))
          go_ret
          exact ⟨rfl, below_step HL1.out (below_step HRV.out.below (by exact hwk))⟩
      · have hd1 : decide (i < l0.length) = false := decide_eq_false hlt
        go_wp2_with ((go_at_call 34; refine (wakes34 _).mono ?_; rintro e w' ⟨rfl, hwk⟩))
        go_ret
        exact ⟨rfl, below_step HL1.out (below_step HRV.out.below (by exact hwk))⟩
theorem votes_walk (x : S62) (cs : List Value) (w : World) (hk : k62.K w x cs) (ok : ok62 x) :
    Calls Try.prog 7 #[.agg ⟨cs⟩] w fun e w' => e = .returned (.bool true) ∧ Below w.heap.size w w' := by
  obtain ⟨c0, c1, rfl, ⟨A0, n0, rfl, h0, hC0⟩, ⟨A1, n1, rfl, h1, hC1⟩⟩ := hk
  exact votes_walk0 A0 n0 x.f0 A1 n1 x.f1 w hC0 h0 hC1 h1 (by have := ok.1.1; omega)
end Go.Proofs.Ytoonepmnlgfikaa.D
/-! VNo -/
namespace Go.Proofs.Ytoonepmnlgfikaa.D
open Go.RowKit Go.Proofs.YtoonepmnlgfikaaW.PrintWords Go.Proofs.YtoonepmnlgfikaaW.PrintLast Go.Proofs.YtoonepmnlgfikaaW.PrintMore Go.Proofs.Ytoonepmnlgfikaa.Base Go.Maps Go.Sort Go.Shelf
set_option linter.unusedVariables false
set_option linter.unusedSimpArgs false
set_option maxHeartbeats 1600000 in
set_option maxRecDepth 100000 in
theorem put_no (s g : Nat) (k : Kept) (w : World) (hs : StoreAt w s g k) (name data : ByteArray) (x y : Int) :
    Calls Try.prog 55 #[.pointer (some ⟨s, 0, none⟩), .string name, .bool false, .int .i64 x, .int .i64 y, .string data] w fun e w' => e = .returned (.int .i64 1) ∧ Drawn0 w w' := by
  obtain ⟨k0, k1, k2, k3, k4, k5, k6⟩ := hs.cells
  have hu99 := Try.underlying99
  have hu97 := Try.underlying97
  clear hs
  go_enter Try.func55, Try.ntmps55
  go_wp2_with fail
  go_ret
  exact ⟨rfl, by first | exact ⟨0, rfl⟩ | exact ⟨1, rfl⟩ | exact ⟨_, rfl⟩⟩
theorem snumber_no (x : Int) (h : ¬ (0 ≤ x ∧ x < 1099511627776)) : V.snap_number.f x = some false := by
  unfold V.snap_number.f
  by_cases h0 : 0 ≤ x
  · rw [if_pos h0, decide_eq_false (fun h1 => h ⟨h0, h1⟩)]
  · rw [if_neg h0]
theorem put_noD (s g : Nat) (k : Kept) (w W : World) (hs : StoreAt w s g k) (hd : Drawn0 w W) (name data : ByteArray) (x y : Int) :
    Calls Try.prog 55 #[.pointer (some ⟨s, 0, none⟩), .string name, .bool false, .int .i64 x, .int .i64 y, .string data] W fun e w' => e = .returned (.int .i64 1) ∧ Drawn0 w w' := by
  obtain ⟨m, hm⟩ := hd
  subst hm
  refine (put_no s g k (w.drewN m) (blk_drewN hs m) name data x y).mono ?_
  rintro e w' ⟨rfl, ⟨n, rfl⟩⟩
  exact ⟨rfl, _, World.drewN_drewN _ _ _⟩
set_option maxHeartbeats 1600000 in
set_option maxRecDepth 100000 in
theorem setvote_no (s g : Nat) (k : Kept) (w : World) (hs : StoreAt w s g k) (t v : Int) (h : ¬ (0 ≤ t ∧ t < 1099511627776 ∧ 0 ≤ v ∧ v ≤ 7)) :
    Calls Try.prog 35 #[.pointer (some ⟨s, 0, none⟩), .int .i64 t, .int .i64 v] w fun e w' => e = .returned (.int .i64 1) ∧ Drawn0 w w' := by
  have hu99 := Try.underlying99
  have hu97 := Try.underlying97
  by_cases ht : 0 ≤ t ∧ t < 1099511627776
  · by_cases hv : 0 ≤ v
    · have hd1 : decide (0 ≤ v) = true := decide_eq_true hv
      have hd2 : decide (v ≤ 7) = false := decide_eq_false (fun h7 => h ⟨ht.1, ht.2, hv, h7⟩)
      have hf := snumber_is t ht.1 ht.2
      clear h ht hv
      go_enter Try.func35, Try.ntmps35
      go_wp2_with fail
      refine (V.snap_number.calls t true w hf).mono ?_
      rintro e w1 ⟨rfl, hd⟩
      go_wp2_with fail
      refine (put_noD s g k w _ hs hd _ _ t v).mono ?_
      rintro e w2 ⟨rfl, hd2⟩
      go_wp2_with fail
      go_ret
      exact ⟨rfl, hd2⟩
    · have hd1 : decide (0 ≤ v) = false := decide_eq_false hv
      have hf := snumber_is t ht.1 ht.2
      clear h ht hv
      go_enter Try.func35, Try.ntmps35
      go_wp2_with fail
      refine (V.snap_number.calls t true w hf).mono ?_
      rintro e w1 ⟨rfl, hd⟩
      go_wp2_with fail
      refine (put_noD s g k w _ hs hd _ _ t v).mono ?_
      rintro e w2 ⟨rfl, hd2⟩
      go_wp2_with fail
      go_ret
      exact ⟨rfl, hd2⟩
  · have hf := snumber_no t ht
    clear h ht
    go_enter Try.func35, Try.ntmps35
    go_wp2_with fail
    refine (V.snap_number.calls t false w hf).mono ?_
    rintro e w1 ⟨rfl, hd⟩
    go_wp2_with fail
    refine (put_noD s g k w _ hs hd _ _ t v).mono ?_
    rintro e w2 ⟨rfl, hd2⟩
    go_wp2_with fail
    go_ret
    exact ⟨rfl, hd2⟩
set_option maxHeartbeats 1600000 in
set_option maxRecDepth 100000 in
theorem setsnap_no (s g : Nat) (k : Kept) (w : World) (hs : StoreAt w s g k) (t v : Int) (x : ByteArray) (hx : x.size ≤ 30000) (h : ¬ (0 ≤ t ∧ t < 1099511627776 ∧ 0 ≤ v ∧ v < 1099511627776)) :
    Calls Try.prog 36 #[.pointer (some ⟨s, 0, none⟩), .int .i64 t, .int .i64 v, .string x] w fun e w' => e = .returned (.int .i64 1) ∧ Drawn0 w w' := by
  have hu99 := Try.underlying99
  have hu97 := Try.underlying97
  have hd1 : decide ((x.size : Int) ≤ 524288) = true := decide_eq_true (by omega)
  have hd2 : decide (x.size ≤ 524288) = true := decide_eq_true (by omega)
  by_cases ht : 0 ≤ t ∧ t < 1099511627776
  · have hf := snumber_is t ht.1 ht.2
    have hf2 := snumber_no v (fun hv => h ⟨ht.1, ht.2, hv.1, hv.2⟩)
    clear h ht hx
    go_enter Try.func36, Try.ntmps36
    go_wp2_with fail
    refine (V.snap_number.calls t true w hf).mono ?_
    rintro e w1 ⟨rfl, ⟨n1, rfl⟩⟩
    go_wp2_with fail
    refine (V.snap_number.calls v false _ hf2).mono ?_
    rintro e w1 ⟨rfl, ⟨n2, rfl⟩⟩
    go_wp2_with fail
    refine (put_noD s g k w _ hs ⟨n1 + n2, rfl⟩ _ _ t v).mono ?_
    rintro e w2 ⟨rfl, hd2⟩
    go_wp2_with fail
    go_ret
    exact ⟨rfl, hd2⟩
  · have hf := snumber_no t ht
    clear h ht hx
    go_enter Try.func36, Try.ntmps36
    go_wp2_with fail
    refine (V.snap_number.calls t false w hf).mono ?_
    rintro e w1 ⟨rfl, hd⟩
    go_wp2_with fail
    refine (put_noD s g k w _ hs hd _ _ t v).mono ?_
    rintro e w2 ⟨rfl, hd2⟩
    go_wp2_with fail
    go_ret
    exact ⟨rfl, hd2⟩
end Go.Proofs.Ytoonepmnlgfikaa.D
/-! VDoes -/
namespace Go.Proofs.Ytoonepmnlgfikaa.D
open Go.RowKit Go.Proofs.YtoonepmnlgfikaaW.PrintWords Go.Proofs.YtoonepmnlgfikaaW.PrintLast Go.Proofs.YtoonepmnlgfikaaW.PrintMore Go.Proofs.Ytoonepmnlgfikaa.Base Go.Maps Go.Sort Go.Shelf
set_option linter.unusedVariables false
set_option linter.unusedSimpArgs false
/-- What an act does: the vote, the snapshot, the error. -/
def actP (vt : Option (Int × Int)) (sn : Option (Int × Int × ByteArray)) (r : Nat) (t v ix : Int) (d : ByteArray) : Option (Int × Int) × Option (Int × Int × ByteArray) × Int :=
  if r ≤ 2 then (if 0 ≤ t ∧ t < 1099511627776 ∧ 0 ≤ v ∧ v ≤ 7 then (some (t, v), sn, 0) else (vt, sn, 1))
  else if r ≤ 4 then (if 0 ≤ ix ∧ ix < 1099511627776 ∧ 0 ≤ t ∧ t < 1099511627776 then (vt, some (ix, t, d), 0) else (vt, sn, 1))
  else (vt, sn, 0)
theorem SnapStep.still {w W : World} {B g b cnt s : Nat} {n : Int} {D : DataW Unit} {vt : Option (Int × Int)} {sn : Option (Int × Int × ByteArray)} {k : Kept} (h : Dsk w B g b cnt n D (snapF vt sn)) (h0 : 0 ≤ n) (hs : StoreAt w s g k) (hb : Below w.heap.size w W) :
    SnapStep w B g b s (cnt + 2) (n + 3) (snapF vt sn) k W := by
  refine ⟨⟨n, cnt, D, h.below hb, h0, by omega, by omega⟩, (hb.block s (blk_lt hs)).trans hs, hb.mono h.base, Keep70.of_below hb⟩
theorem SnapStep.wrap {w w1 W : World} {B g b s cm : Nat} {nm : Int} {F : Model} {k : Kept} (hb : Below w.heap.size w w1) (hB : B ≤ w.heap.size) (h : SnapStep w1 B g b s cm nm F k W) (m : Nat) : SnapStep w B g b s cm nm F k (W.drewN m) := by
  obtain ⟨⟨n, cnt, D, hD, h0, h1, h2⟩, hs, hbl, hkk⟩ := h
  exact ⟨⟨n, cnt, D, hD.drewN m, h0, h1, h2⟩, hs, pw_below_drewN ((hb.mono hB).trans hbl) m, ((Keep70.of_below hb).trans hkk).trans (Keep70.of_below (pw_below_drewN (Below.refl _ _) m))⟩
theorem within6 (a : Int) : ∃ r : Nat, r < 6 ∧ lecternlaw0_Within.f a 6 = some (r : Int) := by
  unfold lecternlaw0_Within.f
  have h11 : IntKind.u64.wrap 6 = 6 := wrap_u64_in _ (by omega) (by omega)
  rw [h11, if_neg (by decide)]
  have hu : 0 ≤ IntKind.u64.wrap a := by rw [wrap_u64]; omega
  have h0 : 0 ≤ Int.tmod (IntKind.u64.wrap a) 6 := Int.tmod_nonneg _ hu
  have h1 : Int.tmod (IntKind.u64.wrap a) 6 < 6 := Int.tmod_lt_of_pos _ (by omega)
  refine ⟨(Int.tmod (IntKind.u64.wrap a) 6).toNat, by omega, ?_⟩
  rw [wrap64_in _ (by omega) (by omega), Int.toNat_of_nonneg h0]
section
variable {w : World} {B g b cnt s : Nat} {n : Int} {D : DataW Unit} {vt : Option (Int × Int)} {sn : Option (Int × Int × ByteArray)} {k : Kept}
set_option maxHeartbeats 3200000 in
set_option maxRecDepth 100000 in
theorem does_calls (h : Dsk w B g b cnt n D (snapF vt sn)) (h0 : 0 ≤ n) (h1 : n ≤ 900000) (hcnt : cnt < 900) (hs : StoreAt w s g (keptOf vt sn)) (hBs : B ≤ s) (o t v ix : Int) (d : ByteArray) (hd : d.size ≤ 30000) (p : Value) (r : Nat) (hr6 : r < 6) (hr : lecternlaw0_Within.f o 6 = some (r : Int)) :
    Calls Try.prog 32 #[.pointer (some ⟨s, 0, none⟩), .agg #[.int .i64 o, .int .i64 t, .int .i64 v, .int .i64 ix, .string d, p]] w fun e w' => e = .returned (.int .i64 (actP vt sn r t v ix d).2.2) ∧ SnapStep w B g b s (cnt + 2) (n + 3) (snapF (actP vt sn r t v ix d).1 (actP vt sn r t v ix d).2.1) (keptOf (actP vt sn r t v ix d).1 (actP vt sn r t v ix d).2.1) w' := by
  have H := Aside0.mk h
  have HS := Aside0.mk hs
  have hu74 := Try.underlying74
  clear h hs
  go_enter Try.func32, Try.ntmps32
  go_wp2_with fail
  have hbx := heap_alloc_new w (.cells #[.int .i64 o, .int .i64 t, .int .i64 v, .int .i64 ix, .string d, p] 74)
  have hbl : Below w.heap.size w (w.alloc (.cells #[.int .i64 o, .int .i64 t, .int .i64 v, .int .i64 ix, .string d, p] 74)) := below_alloc (Below.refl _ _) _
  obtain ⟨q, hq⟩ : ∃ q, q = w.heap.size := ⟨_, rfl⟩
  rw [← hq] at hbx ⊢
  generalize w.alloc (.cells #[.int .i64 o, .int .i64 t, .int .i64 v, .int .i64 ix, .string d, p] 74) = w0 at *
  refine (lecternlaw0_Within.calls o 6 (r : Int) w0 hr).mono ?_
  rintro e w1 ⟨rfl, hdr⟩
  have hb1 : Below w.heap.size w w1 := below_step hbl hdr.below
  have hbx1 : w1.heap[q]? = some (.cells #[.int .i64 o, .int .i64 t, .int .i64 v, .int .i64 ix, .string d, p] 74 (0, 0)) := by obtain ⟨m, rfl⟩ := hdr; exact hbx
  have c1 : w1.cell? ⟨q, 1, none⟩ = some (.int .i64 t) := (blk_cell hbx1 1).trans rfl
  have c2 : w1.cell? ⟨q, 2, none⟩ = some (.int .i64 v) := (blk_cell hbx1 2).trans rfl
  have c3 : w1.cell? ⟨q, 3, none⟩ = some (.int .i64 ix) := (blk_cell hbx1 3).trans rfl
  have c4 : w1.cell? ⟨q, 4, none⟩ = some (.string d) := (blk_cell hbx1 4).trans rfl
  have HB1 := Aside0.mk hb1
  have HBS : Aside0 (B ≤ w.heap.size) := ⟨H.out.base⟩
  have H1 := Aside0.mk (H.out.below hb1)
  have HS1 : Aside0 (StoreAt w1 s g (keptOf vt sn)) := ⟨(hb1.block s (blk_lt HS.out)).trans HS.out⟩
  clear hbx hbx1 hbl hdr hb1 hq hr
  rcases (show r = 0 ∨ r = 1 ∨ r = 2 ∨ r = 3 ∨ r = 4 ∨ r = 5 by omega) with rfl | rfl | rfl | rfl | rfl | rfl
  · by_cases hc : 0 ≤ t ∧ t < 1099511627776 ∧ 0 ≤ v ∧ v ≤ 7
    · have HA : Aside0 (actP vt sn 0 t v ix d = (some (t, v), sn, 0)) := ⟨by unfold actP; rw [if_pos (by decide), if_pos hc]⟩
      go_wp2_with fail
      refine (setvote_calls H1.out h0 h1 hcnt HS1.out hBs t v hc.1 hc.2.1 hc.2.2.1 hc.2.2.2).mono ?_
      rintro e w2 ⟨rfl, hst⟩
      go_wp2_with fail
      refine (V.lecternlaw20_num.calls _ _ _ rfl).mono ?_
      rintro e w3 ⟨rfl, ⟨n3, rfl⟩⟩
      go_wp2_with fail
      go_ret
      rw [HA.out]
      exact ⟨rfl, SnapStep.wrap HB1.out HBS.out hst n3⟩
    · have HA : Aside0 (actP vt sn 0 t v ix d = (vt, sn, 1)) := ⟨by unfold actP; rw [if_pos (by decide), if_neg hc]⟩
      go_wp2_with fail
      refine (setvote_no s g _ w1 HS1.out t v hc).mono ?_
      rintro e w2 ⟨rfl, hdn⟩
      have hst := SnapStep.still H1.out h0 HS1.out hdn.below
      go_wp2_with fail
      refine (V.lecternlaw20_num.calls _ _ _ rfl).mono ?_
      rintro e w3 ⟨rfl, ⟨n3, rfl⟩⟩
      go_wp2_with fail
      go_ret
      rw [HA.out]
      exact ⟨rfl, SnapStep.wrap HB1.out HBS.out hst n3⟩
  · by_cases hc : 0 ≤ t ∧ t < 1099511627776 ∧ 0 ≤ v ∧ v ≤ 7
    · have HA : Aside0 (actP vt sn 1 t v ix d = (some (t, v), sn, 0)) := ⟨by unfold actP; rw [if_pos (by decide), if_pos hc]⟩
      go_wp2_with fail
      refine (setvote_calls H1.out h0 h1 hcnt HS1.out hBs t v hc.1 hc.2.1 hc.2.2.1 hc.2.2.2).mono ?_
      rintro e w2 ⟨rfl, hst⟩
      go_wp2_with fail
      refine (V.lecternlaw20_num.calls _ _ _ rfl).mono ?_
      rintro e w3 ⟨rfl, ⟨n3, rfl⟩⟩
      go_wp2_with fail
      go_ret
      rw [HA.out]
      exact ⟨rfl, SnapStep.wrap HB1.out HBS.out hst n3⟩
    · have HA : Aside0 (actP vt sn 1 t v ix d = (vt, sn, 1)) := ⟨by unfold actP; rw [if_pos (by decide), if_neg hc]⟩
      go_wp2_with fail
      refine (setvote_no s g _ w1 HS1.out t v hc).mono ?_
      rintro e w2 ⟨rfl, hdn⟩
      have hst := SnapStep.still H1.out h0 HS1.out hdn.below
      go_wp2_with fail
      refine (V.lecternlaw20_num.calls _ _ _ rfl).mono ?_
      rintro e w3 ⟨rfl, ⟨n3, rfl⟩⟩
      go_wp2_with fail
      go_ret
      rw [HA.out]
      exact ⟨rfl, SnapStep.wrap HB1.out HBS.out hst n3⟩
  · by_cases hc : 0 ≤ t ∧ t < 1099511627776 ∧ 0 ≤ v ∧ v ≤ 7
    · have HA : Aside0 (actP vt sn 2 t v ix d = (some (t, v), sn, 0)) := ⟨by unfold actP; rw [if_pos (by decide), if_pos hc]⟩
      go_wp2_with fail
      refine (setvote_calls H1.out h0 h1 hcnt HS1.out hBs t v hc.1 hc.2.1 hc.2.2.1 hc.2.2.2).mono ?_
      rintro e w2 ⟨rfl, hst⟩
      go_wp2_with fail
      refine (V.lecternlaw20_num.calls _ _ _ rfl).mono ?_
      rintro e w3 ⟨rfl, ⟨n3, rfl⟩⟩
      go_wp2_with fail
      go_ret
      rw [HA.out]
      exact ⟨rfl, SnapStep.wrap HB1.out HBS.out hst n3⟩
    · have HA : Aside0 (actP vt sn 2 t v ix d = (vt, sn, 1)) := ⟨by unfold actP; rw [if_pos (by decide), if_neg hc]⟩
      go_wp2_with fail
      refine (setvote_no s g _ w1 HS1.out t v hc).mono ?_
      rintro e w2 ⟨rfl, hdn⟩
      have hst := SnapStep.still H1.out h0 HS1.out hdn.below
      go_wp2_with fail
      refine (V.lecternlaw20_num.calls _ _ _ rfl).mono ?_
      rintro e w3 ⟨rfl, ⟨n3, rfl⟩⟩
      go_wp2_with fail
      go_ret
      rw [HA.out]
      exact ⟨rfl, SnapStep.wrap HB1.out HBS.out hst n3⟩
  · by_cases hc : 0 ≤ ix ∧ ix < 1099511627776 ∧ 0 ≤ t ∧ t < 1099511627776
    · have HA : Aside0 (actP vt sn 3 t v ix d = (vt, some (ix, t, d), 0)) := ⟨by unfold actP; rw [if_neg (by decide), if_pos (by decide), if_pos hc]⟩
      go_wp2_with fail
      refine (setsnap_calls H1.out h0 h1 hcnt HS1.out hBs ix t hc.1 hc.2.1 hc.2.2.1 hc.2.2.2 d hd).mono ?_
      rintro e w2 ⟨rfl, hst⟩
      go_wp2_with fail
      refine (V.lecternlaw20_num.calls _ _ _ rfl).mono ?_
      rintro e w3 ⟨rfl, ⟨n3, rfl⟩⟩
      go_wp2_with fail
      go_ret
      rw [HA.out]
      exact ⟨rfl, SnapStep.wrap HB1.out HBS.out hst n3⟩
    · have HA : Aside0 (actP vt sn 3 t v ix d = (vt, sn, 1)) := ⟨by unfold actP; rw [if_neg (by decide), if_pos (by decide), if_neg hc]⟩
      go_wp2_with fail
      refine (setsnap_no s g _ w1 HS1.out ix t d hd hc).mono ?_
      rintro e w2 ⟨rfl, hdn⟩
      have hst := SnapStep.still H1.out h0 HS1.out hdn.below
      go_wp2_with fail
      refine (V.lecternlaw20_num.calls _ _ _ rfl).mono ?_
      rintro e w3 ⟨rfl, ⟨n3, rfl⟩⟩
      go_wp2_with fail
      go_ret
      rw [HA.out]
      exact ⟨rfl, SnapStep.wrap HB1.out HBS.out hst n3⟩
  · by_cases hc : 0 ≤ ix ∧ ix < 1099511627776 ∧ 0 ≤ t ∧ t < 1099511627776
    · have HA : Aside0 (actP vt sn 4 t v ix d = (vt, some (ix, t, d), 0)) := ⟨by unfold actP; rw [if_neg (by decide), if_pos (by decide), if_pos hc]⟩
      go_wp2_with fail
      refine (setsnap_calls H1.out h0 h1 hcnt HS1.out hBs ix t hc.1 hc.2.1 hc.2.2.1 hc.2.2.2 d hd).mono ?_
      rintro e w2 ⟨rfl, hst⟩
      go_wp2_with fail
      refine (V.lecternlaw20_num.calls _ _ _ rfl).mono ?_
      rintro e w3 ⟨rfl, ⟨n3, rfl⟩⟩
      go_wp2_with fail
      go_ret
      rw [HA.out]
      exact ⟨rfl, SnapStep.wrap HB1.out HBS.out hst n3⟩
    · have HA : Aside0 (actP vt sn 4 t v ix d = (vt, sn, 1)) := ⟨by unfold actP; rw [if_neg (by decide), if_pos (by decide), if_neg hc]⟩
      go_wp2_with fail
      refine (setsnap_no s g _ w1 HS1.out ix t d hd hc).mono ?_
      rintro e w2 ⟨rfl, hdn⟩
      have hst := SnapStep.still H1.out h0 HS1.out hdn.below
      go_wp2_with fail
      refine (V.lecternlaw20_num.calls _ _ _ rfl).mono ?_
      rintro e w3 ⟨rfl, ⟨n3, rfl⟩⟩
      go_wp2_with fail
      go_ret
      rw [HA.out]
      exact ⟨rfl, SnapStep.wrap HB1.out HBS.out hst n3⟩
  · have HA : Aside0 (actP vt sn 5 t v ix d = (vt, sn, 0)) := ⟨by unfold actP; rw [if_neg (by decide), if_neg (by decide)]⟩
    have hst := SnapStep.still H1.out h0 HS1.out (Below.refl _ _)
    go_wp2_with fail
    go_ret
    rw [HA.out]
    exact ⟨rfl, SnapStep.wrap HB1.out HBS.out hst 0⟩
end
end Go.Proofs.Ytoonepmnlgfikaa.D
/-! VNil -/
namespace Go.Proofs.Ytoonepmnlgfikaa.D
open Go.RowKit Go.Proofs.YtoonepmnlgfikaaW.PrintWords Go.Proofs.YtoonepmnlgfikaaW.PrintLast Go.Proofs.YtoonepmnlgfikaaW.PrintMore Go.Proofs.Ytoonepmnlgfikaa.Base Go.Maps Go.Sort Go.Shelf
set_option linter.unusedVariables false
set_option linter.unusedSimpArgs false
set_option maxHeartbeats 1600000 in
set_option maxRecDepth 100000 in
theorem open_nil (w : World) : Calls Try.prog 28 #[.pointer none] w fun e w' => e = .returned (.tuple #[.pointer none, .int .i64 1]) ∧ Below w.heap.size w w' := by
  go_enter Try.func28, Try.ntmps28
  go_wp2_with fail
  refine bodyPost_ret (results_tmp2 rfl _ _ _) rfl ?_
  exact ⟨rfl, below_alloc (Below.refl _ _) _⟩
end Go.Proofs.Ytoonepmnlgfikaa.D
/-! VHeavy -/
namespace Go.Proofs.Ytoonepmnlgfikaa.D
open Go.ChangeShapes Go.WideShapes Go.RowKit Go.Proofs.YtoonepmnlgfikaaW.PrintWords Go.Proofs.YtoonepmnlgfikaaW.PrintLast Go.Proofs.YtoonepmnlgfikaaW.PrintMore Go.Proofs.Ytoonepmnlgfikaa.Base Go.Proofs.Ytoonepmnlgfikaa.Opening Go.Maps Go.Sort Go.Shelf
set_option linter.unusedVariables false
set_option linter.unusedSimpArgs false
theorem hv_step (x a b : Int) (h0 : 0 ≤ x) (h1 : x < 1048576) (ha : 0 ≤ a) (ha1 : a ≤ 140737488355328) (hb : 0 ≤ b) (hb1 : b ≤ 140737488355328) : wrap64 (wrap64 (x + a) + b) = x + a + b := by
  rw [wrap64_in (x + a) (by omega) (by omega), wrap64_in _ (by omega) (by omega)]
theorem heavyV_small (l0 : List V.S74) (l1 : List Int) (hl : l0.length ≤ 140737488355328) (hs : ∀ j : Nat, j < l0.length → (V.rd_T74 l0 (j : Int)).f4.size ≤ 140737488355328 ∧ (V.rd_T74 l0 (j : Int)).f5.length ≤ 140737488355328) :
    ∀ (d k : Nat) (i : Nat) (x : Int), i + d = l0.length → d < k → 0 ≤ x → V.lecternlaw20_heavy.l0 k x (i : Int) l0 l1 = some false → x ≤ 30000 ∧ ∀ j : Nat, i ≤ j → j < l0.length → (V.rd_T74 l0 (j : Int)).f4.size ≤ 30000
  | 0, k, i, x, hd, hk, hx, h => by
    obtain ⟨k, rfl⟩ : ∃ n, k = n + 1 := ⟨k - 1, by omega⟩
    unfold V.lecternlaw20_heavy.l0 at h
    rw [if_neg (by omega)] at h
    refine ⟨?_, fun j h1 h2 => by omega⟩
    by_cases hx3 : x > 30000
    · rw [if_pos hx3] at h
      cases h
    · omega
  | d + 1, k, i, x, hd, hk, hx, h => by
    obtain ⟨k, rfl⟩ : ∃ n, k = n + 1 := ⟨k - 1, by omega⟩
    have hw : wrap64 ((i : Int) + 1) = ((i + 1 : Nat) : Int) := by rw [wrap64_in _ (by omega) (by omega)]; rfl
    unfold V.lecternlaw20_heavy.l0 at h
    rw [if_pos (by omega), hw, if_pos (show (0 : Int) ≤ (i : Int) by omega)] at h
    by_cases h5 : x < 1048576
    · rw [if_pos h5] at h
      obtain ⟨ha, hb⟩ := hs i (by omega)
      rw [hv_step x _ _ hx h5 (by omega) (by omega) (by omega) (by omega)] at h
      obtain ⟨r1, r2⟩ := heavyV_small l0 l1 hl hs d k (i + 1) _ (by omega) (by omega) (by omega) h
      refine ⟨by omega, fun j h1 h2 => ?_⟩
      by_cases e : j = i
      · subst e; omega
      · exact r2 j (by omega) h2
    · rw [if_neg h5, if_pos (by omega)] at h
      cases h
theorem rd74_ok {l0 : List V.S74} (h : ∀ y ∈ l0, ok74 y) (j : Nat) (hj : j < l0.length) : (V.rd_T74 l0 (j : Int)).f4.size ≤ 140737488355328 ∧ (V.rd_T74 l0 (j : Int)).f5.length ≤ 140737488355328 := by
  have e : V.rd_T74 l0 (j : Int) = l0[j] := by
    unfold V.rd_T74
    rw [Int.toNat_natCast, List.getD_eq_getElem?_getD, List.getElem?_eq_getElem hj]
    rfl
  have ho := h _ (List.getElem_mem hj)
  rw [e]
  have h1 := ho.2.2.2.2.1
  have h2 := ho.2.2.2.2.2.1
  exact ⟨by omega, by omega⟩
end Go.Proofs.Ytoonepmnlgfikaa.D
