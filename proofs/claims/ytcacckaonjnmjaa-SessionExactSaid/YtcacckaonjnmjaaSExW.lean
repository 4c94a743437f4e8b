/- SessionExact: the law's function. -/
import Derived.Test.YtcacckaonjnmjaaSExL
namespace Go.Proofs.Ytcacckaonjnmjaa.S
open Go.RowKit Go.Proofs.YtcacckaonjnmjaaW.PrintWords Go.Proofs.YtcacckaonjnmjaaW.PrintLast Go.Proofs.YtcacckaonjnmjaaW.PrintMore Go.Proofs.Ytcacckaonjnmjaa.Opening
set_option linter.unusedVariables false
set_option linter.unusedSimpArgs false
theorem within7 (a : Int) : ∃ r : Nat, r < 7 ∧ lecternlaw0_Within.f a 7 = some (r : Int) := by
  have e : IntKind.u64.wrap 7 = 7 := by decide
  unfold lecternlaw0_Within.f
  rw [e, if_neg (by decide)]
  generalize hx : IntKind.u64.wrap a = x
  have hx0 : 0 ≤ x := by
    rw [← hx]
    exact (show (0 : Int) ≤ a % 18446744073709551616 from Int.emod_nonneg _ (by decide))
  refine ⟨(Int.tmod x 7).toNat, ?_, ?_⟩
  · have h1 := Int.tmod_lt_of_pos x (show (0 : Int) < 7 by decide)
    omega
  · have h1 := Int.tmod_lt_of_pos x (show (0 : Int) < 7 by decide)
    have h0 : 0 ≤ Int.tmod x 7 := Int.tmod_nonneg 7 hx0
    rw [wr64 _ (by omega) (by omega), Int.toNat_of_nonneg h0]
/-- A row of sessions that may be copied. -/
def RowOk (W : World) (v : Value) : Prop := ∃ S A c, v = .slice A S.length c ∧ Good S ∧ Kd.V k88 88 W 0 (fun _ => True) (.slice A S.length c) S
theorem okI {n : Int} (h : (Lit.int .i64 n).wf = true) : True := trivial
theorem begin_nil (S : List S88) (a q : Int) : ∃ b1 b2 b4 b5, beginV S a q = (b1, b2, [], b4, b5) := by
  have hnil : (beginV S a q).2.2.1 = [] := by
    unfold beginV
    repeat' split
    all_goals rfl
  generalize beginV S a q = z at *
  obtain ⟨b1, b2, b3, b4, b5⟩ := z
  exact ⟨b1, b2, b4, b5, by rw [show b3 = [] from hnil]⟩
theorem C_zero (A : Option Addr) (W : World) : Kd.C k116 W A ([] : List S116).length [] := ⟨rfl, by simp, fun h => absurd h (Nat.lt_irrefl 0)⟩
theorem open_yes {S : List S88} {a : Int} (h : (numB a 1 && !anyS S a) = true) : openV S a = (openTo S a, 0) := by
  unfold openV
  cases h1 : numB a 1 <;> cases h2 : anyS S a <;> simp_all
theorem open_no {S : List S88} {a : Int} (h : (numB a 1 && !anyS S a) = false) : openV S a = ([], 1) := by
  unfold openV
  cases h1 : numB a 1 <;> cases h2 : anyS S a <;> simp_all
set_option maxRecDepth 100000 in
set_option maxHeartbeats 12800000 in
theorem exact_walk0 (A0 : Option Addr) (c0 : Nat) (l0 : List S88) (A1 : Option Addr) (c1 : Nat) (l1 : List S33) (w : World) (hr0 : Kd.C k88 w A0 l0.length l0) (hc0 : l0.length ≤ c0) (hr1 : Kd.C k33 w A1 l1.length l1) (hc1 : l1.length ≤ c1) (hl1 : l1.length ≤ 1000000000000000) (b : Bool) (hb : Ev (fun k => lecternlaw14_heavy.f k l0 l1) b) (hg : b = false → Good l0 ∧ ∀ j : Nat, j < l1.length → (rd_T33 l1 (j : Int)).f4.f2.length ≤ 500) :
    Calls Try.prog 8 #[.agg #[.slice A0 l0.length c0, .slice A1 l1.length c1]] w fun e w' => e = .returned (.bool true) ∧ Below w.heap.size w w' := by
  have HG := Aside0.mk hg
  have HBV := Aside0.mk hb
  have HR0 := Aside0.mk hr0
  have HC0 := Aside0.mk hc0
  have HR1 := Aside0.mk hr1
  have HC1 := Aside0.mk hc1
  have hu25 := Try.underlying25
  have hu33 := Try.underlying33
  have hu31 := Try.underlying31
  clear hb hg hr0 hc0 hr1 hc1
  go_enter Try.func8, Try.ntmps8
  go_wp2_with fail
  have hbx := heap_alloc_new w (.cells #[.slice A0 l0.length c0, .slice A1 l1.length c1] 25)
  have hbl : Below w.heap.size w (w.alloc (.cells #[.slice A0 l0.length c0, .slice A1 l1.length c1] 25)) := below_alloc (Below.refl _ _) _
  have HL := Aside0.mk hbl
  clear hbl
  generalize w.alloc (.cells #[.slice A0 l0.length c0, .slice A1 l1.length c1] 25) = w0 at *
  obtain ⟨kh, hkh⟩ := HBV.out
  have HKH := Aside0.mk (hkh kh (Nat.le_refl _))
  clear hkh
  refine (lecternlaw14_heavy.calls kh A0 c0 l0 A1 c1 l1 b _ (Kd.C_below HR0.out HL.out) HC0.out (Kd.C_below HR1.out HL.out) HC1.out HKH.out).mono ?_
  rintro e w1 ⟨rfl, hbel⟩
  have hbx1 := (hbel.block _ (blk_lt hbx)).trans hbx
  have HBX := Aside0.mk hbx1
  have HP1 : Aside0 (w.heap.size < w1.heap.size) := ⟨blk_lt hbx1⟩
  have HR0' : Aside0 (Kd.C k88 w1 A0 l0.length l0) := ⟨Kd.C_below (Kd.C_below HR0.out HL.out) hbel⟩
  have HR1' : Aside0 (Kd.C k33 w1 A1 l1.length l1) := ⟨Kd.C_below (Kd.C_below HR1.out HL.out) hbel⟩
  have HL1 : Aside0 (Below w.heap.size w w1) := ⟨below_step HL.out hbel⟩
  clear hbel hbx hbx1 HR0 HR1 HL HBV HKH
  cases b with
  | true =>
    go_wp2_with fail
    go_ret
    exact ⟨rfl, HL1.out⟩
  | false =>
    have HGD := Aside0.mk (HG.out rfl)
    have hbb : (false = true) = False := by simp
    have b0 : w1.cell? ⟨w.heap.size, 0, none⟩ = some (.slice A0 l0.length c0) := (blk_cell HBX.out 0).trans rfl
    clear HG
    go_wp2_with fail
    refine (e26 HGD.out.1 HR0'.out HC0.out).mono ?_
    rintro e w2 ⟨A2, c2, rfl, h2, hV2, hb2⟩
    have HB2 := Aside0.mk hb2
    have HV2 : Aside0 (RowOk w2 (.slice A2 l0.length c2)) := ⟨⟨l0, A2, c2, rfl, HGD.out.1, hV2⟩⟩
    clear h2 hV2 hb2 b0
    go_wp2_with fail
    go_loopg [3, 4] 20 (fun kq v3 v4 w' => ∃ i : Nat, Aside0 (i + kq = 20) ∧ v4 = .int .i64 i ∧ Aside0 (RowOk w' v3) ∧ Aside0 (Below w1.heap.size w1 w'))
    case atStart => exact ⟨0, ⟨rfl⟩, rfl, HV2, HB2⟩
    case round =>
      obtain ⟨i, HIK, rfl, HRV, HBW⟩ := hrel
      clear HV2 HB2
      have x0 : wr.cell? ⟨w.heap.size, 1, none⟩ = some (.slice A1 l1.length c1) := (blk_cell ((HBW.out.block _ HP1.out).trans HBX.out) 1).trans rfl
      have stop : True := trivial
      by_cases hlt : i < l1.length ∧ i < 20
      · obtain ⟨hlt, h20⟩ := hlt
        have hd1 : decide (i < l1.length) = true := decide_eq_true hlt
        have hd2 : decide ((i : Int) < 20) = true := decide_eq_true (by omega)
        have HGM : Aside0 (gk - 1 < gk ∧ i + 1 + (gk - 1) = 20) := ⟨by have := HIK.out; omega⟩
        have hw1 : wrap64 ((i : Int) + 1) = ((i + 1 : Nat) : Int) := by rw [wr64 _ (by omega) (by omega)]; rfl
        obtain ⟨ad, A6, c6, eA, d0, d1, d2, d3, d4, d5, d6, hc6, hC6⟩ := at_T33 HR1'.out (i : Int) (by omega) (by omega)
        rw [Int.toNat_natCast] at d0 d1 d2 d3 d4 d5 d6
        have hsz := HGD.out.2 i hlt
        generalize hact : rd_T33 l1 (i : Int) = act at *
        obtain ⟨do_, cl_, sq_, ix_, r0_, r1_, hs_⟩ := act
        dsimp only at *
        have HC6 := Aside0.mk hC6
        have HK6 := Aside0.mk hc6
        have HSZ : Aside0 (hs_.length ≤ 1000000) := ⟨by omega⟩
        have KQ : Aside0 (∀ W, Below w1.heap.size w1 W → W.cell? (ad.add (i * 7)) = some (.int .i64 do_) ∧ W.cell? ⟨(ad.add (i * 7)).block, (ad.add (i * 7)).off + 1, none⟩ = some (.int .i64 cl_) ∧ W.cell? ⟨(ad.add (i * 7)).block, (ad.add (i * 7)).off + 2, none⟩ = some (.int .i64 sq_) ∧ W.cell? ⟨(ad.add (i * 7)).block, (ad.add (i * 7)).off + 3, none⟩ = some (.int .i64 ix_) ∧ W.cell? ⟨(ad.add (i * 7)).block, (ad.add (i * 7)).off + 4, none⟩ = some (.int .i64 r0_) ∧ W.cell? ⟨(ad.add (i * 7)).block, (ad.add (i * 7)).off + 5, none⟩ = some (.int .i64 r1_) ∧ W.cell? ⟨(ad.add (i * 7)).block, (ad.add (i * 7)).off + 6, none⟩ = some (.slice A6 hs_.length c6)) := ⟨fun W hb => ⟨(hb.cell (World.block_lt_of_cell? w1 _ d0)).trans d0, (hb.cell (World.block_lt_of_cell? w1 _ d1)).trans d1, (hb.cell (World.block_lt_of_cell? w1 _ d2)).trans d2, (hb.cell (World.block_lt_of_cell? w1 _ d3)).trans d3, (hb.cell (World.block_lt_of_cell? w1 _ d4)).trans d4, (hb.cell (World.block_lt_of_cell? w1 _ d5)).trans d5, (hb.cell (World.block_lt_of_cell? w1 _ d6)).trans d6⟩⟩
        obtain ⟨e0, e1, e2, e3, e4, e5, e6⟩ := KQ.out wr HBW.out
        have q0 : ((i : Int) < (l1.length : Int)) = True := eq_true (by omega)
        have p0 : ((0 : Int) ≤ (i : Int)) = True := eq_true (by omega)
        obtain ⟨S, A, c, rfl, hgS, hVS⟩ := HRV.out
        have HGS := Aside0.mk hgS
        have HVS := Aside0.mk hVS
        subst eA
        clear d0 d1 d2 d3 d4 d5 d6 hc6 hC6 hsz hact hgS hVS HRV hlt h20
        go_wp2_with fail
        obtain ⟨g5, hg5⟩ : ∃ g, g = wr.heap.size := ⟨_, rfl⟩
        have hX := heap_alloc_new wr (.cells #[.int .i64 do_, .int .i64 cl_, .int .i64 sq_, .int .i64 ix_, .int .i64 r0_, .int .i64 r1_, .slice A6 hs_.length c6] 33)
        have hBa : Below wr.heap.size wr (wr.alloc (.cells #[.int .i64 do_, .int .i64 cl_, .int .i64 sq_, .int .i64 ix_, .int .i64 r0_, .int .i64 r1_, .slice A6 hs_.length c6] 33)) := below_alloc (Below.refl _ _) _
        have HVA := Aside0.mk (Kd.V_below HVS.out hBa)
        have HBA := Aside0.mk (below_step HBW.out hBa)
        rw [← hg5] at hX ⊢
        have HX := Aside0.mk hX
        clear hX hBa hg5 e0 e1 e2 e3 e4 e5 e6 x0 HVS
        generalize wr.alloc (.cells #[.int .i64 do_, .int .i64 cl_, .int .i64 sq_, .int .i64 ix_, .int .i64 r0_, .int .i64 r1_, .slice A6 hs_.length c6] 33) = wa at *
        refine (e26 HGS.out (V_C HVA.out) (V_le HVA.out)).mono ?_
        rintro e wb ⟨Ai, ci, rfl, hle, hVb, hbb⟩
        have HVI := Aside0.mk hVb
        have HVS := Aside0.mk (Kd.V_below HVA.out hbb)
        have HBB := Aside0.mk (below_step HBA.out hbb)
        have HC6B := Aside0.mk (Kd.C_below HC6.out (below_step HBA.out hbb))
        have hXb := (hbb.block _ (blk_lt HX.out)).trans HX.out
        have HXB := Aside0.mk hXb
        have KB : Aside0 (∀ W, Below wb.heap.size wb W → W.cell? ⟨g5, 0, none⟩ = some (.int .i64 do_) ∧ W.cell? ⟨g5, 1, none⟩ = some (.int .i64 cl_) ∧ W.cell? ⟨g5, 2, none⟩ = some (.int .i64 sq_) ∧ W.cell? ⟨g5, 3, none⟩ = some (.int .i64 ix_) ∧ W.cell? ⟨g5, 4, none⟩ = some (.int .i64 r0_) ∧ W.cell? ⟨g5, 5, none⟩ = some (.int .i64 r1_) ∧ W.cell? ⟨g5, 6, none⟩ = some (.slice A6 hs_.length c6)) := ⟨fun W hb => ⟨(blk_cell (blk_below HXB.out hb) 0).trans rfl, (blk_cell (blk_below HXB.out hb) 1).trans rfl, (blk_cell (blk_below HXB.out hb) 2).trans rfl, (blk_cell (blk_below HXB.out hb) 3).trans rfl, (blk_cell (blk_below HXB.out hb) 4).trans rfl, (blk_cell (blk_below HXB.out hb) 5).trans rfl, (blk_cell (blk_below HXB.out hb) 6).trans rfl⟩⟩
        have HB0 : Aside0 (Below wb.heap.size wb wb) := ⟨Below.refl _ _⟩
        have HGB : Aside0 (g5 < wb.heap.size) := ⟨blk_lt hXb⟩
        clear hle hVb hbb hXb HX HVA HBA
        obtain ⟨D, hD7, hD⟩ := within7 do_
        have HD := Aside0.mk hD
        have HD7 := Aside0.mk hD7
        clear hD hD7
        by_cases hm : mayP S
        · go_wp2_with fail
          refine (e14 hm (V_C (Kd.V_below HVS.out HB0.out)) (V_le HVS.out)).mono ?_
          rintro e w1 ⟨rfl, hb1⟩
          have HB1 : Aside0 (Below wb.heap.size wb w1) := ⟨below_step HB0.out hb1⟩
          clear hb1 HB0
          go_wp2_with fail
          refine (e27 hm (V_C (Kd.V_below HVI.out HB1.out)) (V_le HVI.out)).mono ?_
          rintro e w2 ⟨rfl, hb2⟩
          have HB2 : Aside0 (Below wb.heap.size wb w2) := ⟨below_step HB1.out hb2⟩
          clear hb2 HB1
          go_wp2_with fail
          refine (e17 _).mono ?_
          rintro e w3 ⟨rfl, hb3⟩
          have HB3 : Aside0 (Below wb.heap.size wb w3) := ⟨below_step HB2.out hb3⟩
          clear hb3 HB2
          obtain ⟨z0, z1, z2, z3, z4, z5, z6⟩ := KB.out w3 HB3.out
          go_wp2_with fail
          refine (e21 _ _ HD.out).mono ?_
          rintro e w4 ⟨rfl, hb4⟩
          have HB4 : Aside0 (Below wb.heap.size wb w4) := ⟨below_step HB3.out hb4⟩
          clear z0 z1 z2 z3 z4 z5 z6
          clear hb4 HB3
          rcases (show D = 0 ∨ D = 1 ∨ D = 2 ∨ D = 3 ∨ D = 4 ∨ D = 5 ∨ D = 6 by have := HD7.out; omega) with hd | hd | hd | hd | hd | hd | hd
          · obtain rfl : D = 0 := hd
            clear HD7
            as_aux_lemma =>
              obtain ⟨z0, z1, z2, z3, z4, z5, z6⟩ := KB.out w4 HB4.out
              go_wp2_with fail
              refine (e32 hm ix_ (V_C (Kd.V_below HVS.out HB4.out)) (V_le HVS.out)).mono ?_
              rintro e w5 ⟨rfl, hb5⟩
              have HB5 : Aside0 (Below wb.heap.size wb w5) := ⟨below_step HB4.out hb5⟩
              clear hb5 HB4
              clear z0 z1 z2 z3 z4 z5 z6
              obtain ⟨ob, hob⟩ : ∃ ob, ob = (numB ix_ 1 && !anyS S ix_) := ⟨_, rfl⟩
              rw [← hob]
              have HOB := Aside0.mk hob
              clear hob
              obtain ⟨z0, z1, z2, z3, z4, z5, z6⟩ := KB.out w5 HB5.out
              cases ob with
              | true =>
                go_wp2_with fail
                refine (e33 hm ix_ (V_C (Kd.V_below HVS.out HB5.out)) (V_le HVS.out)).mono ?_
                rintro e w6 ⟨Aw, cw, rfl, hw1_, hw2_, hb6⟩
                have HB6 : Aside0 (Below wb.heap.size wb w6) := ⟨below_step HB5.out hb6⟩
                have HWQ := Aside0.mk hw2_
                have HWL := Aside0.mk hw1_
                clear hb6 HB5 hw1_ hw2_ z0 z1 z2 z3 z4 z5 z6
                have HQ6 : Aside0 (Below w6.heap.size w6 w6) := ⟨Below.refl _ _⟩
                obtain ⟨z0, z1, z2, z3, z4, z5, z6⟩ := KB.out w6 HB6.out
                go_wp2_with fail
                refine (e22 ix_ (openTo S ix_) 0 (by have h := open_may hm ix_; rwa [open_yes HOB.out.symm] at h) (V_C (Kd.V_below HVI.out HB6.out)) (V_le HVI.out)).mono ?_
                rintro e w7 ⟨Ax, cx, rfl, hx1, hx2, hx3, hb7⟩
                have HXR7 := Aside0.mk hx3
                have HQ7 : Aside0 (Below w6.heap.size w6 w7) := ⟨hb7⟩
                clear hx1 hx2 hx3 hb7 HQ6
                clear z0 z1 z2 z3 z4 z5 z6
                go_wp2_with fail
                refine (e17 _).mono ?_
                rintro e w8 ⟨rfl, hb8⟩
                have HQ8 : Aside0 (Below w6.heap.size w6 w8) := ⟨below_step HQ7.out hb8⟩
                have HXR8 := Aside0.mk (Kd.R_below HXR7.out hb8)
                clear hb8 HQ7 HXR7
                go_wp2_with fail
                refine (e28 (open_good hm ix_) (kF_C (Kd.R_reads' HXR8.out).2.2) (Kd.R_reads' HXR8.out).2.1 (Kd.C_below HWQ.out HQ8.out) HWL.out).mono ?_
                rintro e w9 ⟨rfl, hb9⟩
                have HQ9 : Aside0 (Below w6.heap.size w6 w9) := ⟨below_step HQ8.out hb9⟩
                have HXR9 := Aside0.mk (Kd.R_below HXR8.out hb9)
                clear hb9 HQ8 HXR8
                go_wp2_with fail
                refine (e28 HGS.out (V_C (Kd.V_below HVI.out (below_step HB6.out HQ9.out))) (V_le HVI.out) (V_C (Kd.V_below HVS.out (below_step HB6.out HQ9.out))) (V_le HVS.out)).mono ?_
                rintro e w10 ⟨rfl, hb10⟩
                have HQ10 : Aside0 (Below w6.heap.size w6 w10) := ⟨below_step HQ9.out hb10⟩
                have HXR10 := Aside0.mk (Kd.R_below HXR9.out hb10)
                clear hb10 HQ9 HXR9
                go_wp2_with fail
                refine (e34 _ w6.heap.size (open_good hm ix_).1 HQ10.out.size HXR10.out).mono ?_
                rintro e w11 ⟨rfl, hb11⟩
                have HQ11 : Aside0 (Below w6.heap.size w6 w11) := ⟨HQ10.out.trans hb11⟩
                clear hb11 HQ10 HXR10
                go_wp2_with fail
                refine (e28 HGS.out (V_C (Kd.V_below HVI.out (below_step HB6.out HQ11.out))) (V_le HVI.out) (V_C (Kd.V_below HVS.out (below_step HB6.out HQ11.out))) (V_le HVS.out)).mono ?_
                rintro e w12 ⟨rfl, hb12⟩
                have HQ12 : Aside0 (Below w6.heap.size w6 w12) := ⟨below_step HQ11.out hb12⟩
                clear hb12 HQ11
                go_wp2_with fail
                refine (e26 (open_good hm ix_) (Kd.C_below HWQ.out HQ12.out) HWL.out).mono ?_
                rintro e w13 ⟨As, cs, rfl, hle, hVs, hb13⟩
                have HVN := Aside0.mk hVs
                have HQ13 : Aside0 (Below w6.heap.size w6 w13) := ⟨below_step HQ12.out hb13⟩
                clear hb13 HQ12 hle hVs
                go_wp2_with fail
                go_roundg (gk - 1)
                case measure => exact HGM.out.1
                case rel => exact ⟨i + 1, HGM.out.2 ▸ ⟨by have := HGM.out.2; omega⟩, by rw [hw1], ⟨⟨_, As, cs, rfl, (open_good hm ix_), HVN.out⟩⟩, ⟨below_step HBB.out (below_step HB6.out HQ13.out)⟩⟩
              | false =>
                have HWQ : Aside0 (Kd.C k88 w5 none ([] : List S88).length []) := ⟨Kd.C_nil _ _⟩
                have HWL : Aside0 (([] : List S88).length ≤ 0) := ⟨Nat.le_refl _⟩
                clear z0 z1 z2 z3 z4 z5 z6
                have HQ5 : Aside0 (Below w5.heap.size w5 w5) := ⟨Below.refl _ _⟩
                obtain ⟨z0, z1, z2, z3, z4, z5, z6⟩ := KB.out w5 HB5.out
                go_wp2_with fail
                refine (e22 ix_ [] 1 (by have h := open_may hm ix_; rwa [open_no HOB.out.symm] at h) (V_C (Kd.V_below HVI.out HB5.out)) (V_le HVI.out)).mono ?_
                rintro e w6 ⟨Ax, cx, rfl, hx1, hx2, hx3, hb6⟩
                have HXR6 := Aside0.mk hx3
                have HQ6 : Aside0 (Below w5.heap.size w5 w6) := ⟨hb6⟩
                clear hx1 hx2 hx3 hb6 HQ5
                clear z0 z1 z2 z3 z4 z5 z6
                go_wp2_with fail
                refine (e17 _).mono ?_
                rintro e w7 ⟨rfl, hb7⟩
                have HQ7 : Aside0 (Below w5.heap.size w5 w7) := ⟨below_step HQ6.out hb7⟩
                have HXR7 := Aside0.mk (Kd.R_below HXR6.out hb7)
                clear hb7 HQ6 HXR6
                go_wp2_with fail
                refine (e28 Good.nil (kF_C (Kd.R_reads' HXR7.out).2.2) (Kd.R_reads' HXR7.out).2.1 (Kd.C_below HWQ.out HQ7.out) HWL.out).mono ?_
                rintro e w8 ⟨rfl, hb8⟩
                have HQ8 : Aside0 (Below w5.heap.size w5 w8) := ⟨below_step HQ7.out hb8⟩
                have HXR8 := Aside0.mk (Kd.R_below HXR7.out hb8)
                clear hb8 HQ7 HXR7
                go_wp2_with fail
                refine (e28 HGS.out (V_C (Kd.V_below HVI.out (below_step HB5.out HQ8.out))) (V_le HVI.out) (V_C (Kd.V_below HVS.out (below_step HB5.out HQ8.out))) (V_le HVS.out)).mono ?_
                rintro e w9 ⟨rfl, hb9⟩
                have HQ9 : Aside0 (Below w5.heap.size w5 w9) := ⟨below_step HQ8.out hb9⟩
                have HXR9 := Aside0.mk (Kd.R_below HXR8.out hb9)
                clear hb9 HQ8 HXR8
                go_wp2_with fail
                refine (e34 _ w5.heap.size Good.nil.1 HQ9.out.size HXR9.out).mono ?_
                rintro e w10 ⟨rfl, hb10⟩
                have HQ10 : Aside0 (Below w5.heap.size w5 w10) := ⟨HQ9.out.trans hb10⟩
                clear hb10 HQ9 HXR9
                go_wp2_with fail
                refine (e28 HGS.out (V_C (Kd.V_below HVI.out (below_step HB5.out HQ10.out))) (V_le HVI.out) (V_C (Kd.V_below HVS.out (below_step HB5.out HQ10.out))) (V_le HVS.out)).mono ?_
                rintro e w11 ⟨rfl, hb11⟩
                have HQ11 : Aside0 (Below w5.heap.size w5 w11) := ⟨below_step HQ10.out hb11⟩
                clear hb11 HQ10
                go_wp2_with fail
                go_roundg (gk - 1)
                case measure => exact HGM.out.1
                case rel => exact ⟨i + 1, HGM.out.2 ▸ ⟨by have := HGM.out.2; omega⟩, by rw [hw1], ⟨⟨S, A, c, rfl, HGS.out, Kd.V_below HVS.out (below_step HB5.out HQ11.out)⟩⟩, ⟨below_step HBB.out (below_step HB5.out HQ11.out)⟩⟩
          · obtain rfl : D = 1 := hd
            clear HD7
            as_aux_lemma =>
              obtain ⟨z0, z1, z2, z3, z4, z5, z6⟩ := KB.out w4 HB4.out
              go_wp2_with fail
              refine (e32 hm ix_ (V_C (Kd.V_below HVS.out HB4.out)) (V_le HVS.out)).mono ?_
              rintro e w5 ⟨rfl, hb5⟩
              have HB5 : Aside0 (Below wb.heap.size wb w5) := ⟨below_step HB4.out hb5⟩
              clear hb5 HB4
              clear z0 z1 z2 z3 z4 z5 z6
              obtain ⟨ob, hob⟩ : ∃ ob, ob = (numB ix_ 1 && !anyS S ix_) := ⟨_, rfl⟩
              rw [← hob]
              have HOB := Aside0.mk hob
              clear hob
              obtain ⟨z0, z1, z2, z3, z4, z5, z6⟩ := KB.out w5 HB5.out
              cases ob with
              | true =>
                go_wp2_with fail
                refine (e33 hm ix_ (V_C (Kd.V_below HVS.out HB5.out)) (V_le HVS.out)).mono ?_
                rintro e w6 ⟨Aw, cw, rfl, hw1_, hw2_, hb6⟩
                have HB6 : Aside0 (Below wb.heap.size wb w6) := ⟨below_step HB5.out hb6⟩
                have HWQ := Aside0.mk hw2_
                have HWL := Aside0.mk hw1_
                clear hb6 HB5 hw1_ hw2_ z0 z1 z2 z3 z4 z5 z6
                have HQ6 : Aside0 (Below w6.heap.size w6 w6) := ⟨Below.refl _ _⟩
                obtain ⟨z0, z1, z2, z3, z4, z5, z6⟩ := KB.out w6 HB6.out
                go_wp2_with fail
                refine (e22 ix_ (openTo S ix_) 0 (by have h := open_may hm ix_; rwa [open_yes HOB.out.symm] at h) (V_C (Kd.V_below HVI.out HB6.out)) (V_le HVI.out)).mono ?_
                rintro e w7 ⟨Ax, cx, rfl, hx1, hx2, hx3, hb7⟩
                have HXR7 := Aside0.mk hx3
                have HQ7 : Aside0 (Below w6.heap.size w6 w7) := ⟨hb7⟩
                clear hx1 hx2 hx3 hb7 HQ6
                clear z0 z1 z2 z3 z4 z5 z6
                go_wp2_with fail
                refine (e17 _).mono ?_
                rintro e w8 ⟨rfl, hb8⟩
                have HQ8 : Aside0 (Below w6.heap.size w6 w8) := ⟨below_step HQ7.out hb8⟩
                have HXR8 := Aside0.mk (Kd.R_below HXR7.out hb8)
                clear hb8 HQ7 HXR7
                go_wp2_with fail
                refine (e28 (open_good hm ix_) (kF_C (Kd.R_reads' HXR8.out).2.2) (Kd.R_reads' HXR8.out).2.1 (Kd.C_below HWQ.out HQ8.out) HWL.out).mono ?_
                rintro e w9 ⟨rfl, hb9⟩
                have HQ9 : Aside0 (Below w6.heap.size w6 w9) := ⟨below_step HQ8.out hb9⟩
                have HXR9 := Aside0.mk (Kd.R_below HXR8.out hb9)
                clear hb9 HQ8 HXR8
                go_wp2_with fail
                refine (e28 HGS.out (V_C (Kd.V_below HVI.out (below_step HB6.out HQ9.out))) (V_le HVI.out) (V_C (Kd.V_below HVS.out (below_step HB6.out HQ9.out))) (V_le HVS.out)).mono ?_
                rintro e w10 ⟨rfl, hb10⟩
                have HQ10 : Aside0 (Below w6.heap.size w6 w10) := ⟨below_step HQ9.out hb10⟩
                have HXR10 := Aside0.mk (Kd.R_below HXR9.out hb10)
                clear hb10 HQ9 HXR9
                go_wp2_with fail
                refine (e34 _ w6.heap.size (open_good hm ix_).1 HQ10.out.size HXR10.out).mono ?_
                rintro e w11 ⟨rfl, hb11⟩
                have HQ11 : Aside0 (Below w6.heap.size w6 w11) := ⟨HQ10.out.trans hb11⟩
                clear hb11 HQ10 HXR10
                go_wp2_with fail
                refine (e28 HGS.out (V_C (Kd.V_below HVI.out (below_step HB6.out HQ11.out))) (V_le HVI.out) (V_C (Kd.V_below HVS.out (below_step HB6.out HQ11.out))) (V_le HVS.out)).mono ?_
                rintro e w12 ⟨rfl, hb12⟩
                have HQ12 : Aside0 (Below w6.heap.size w6 w12) := ⟨below_step HQ11.out hb12⟩
                clear hb12 HQ11
                go_wp2_with fail
                refine (e26 (open_good hm ix_) (Kd.C_below HWQ.out HQ12.out) HWL.out).mono ?_
                rintro e w13 ⟨As, cs, rfl, hle, hVs, hb13⟩
                have HVN := Aside0.mk hVs
                have HQ13 : Aside0 (Below w6.heap.size w6 w13) := ⟨below_step HQ12.out hb13⟩
                clear hb13 HQ12 hle hVs
                go_wp2_with fail
                go_roundg (gk - 1)
                case measure => exact HGM.out.1
                case rel => exact ⟨i + 1, HGM.out.2 ▸ ⟨by have := HGM.out.2; omega⟩, by rw [hw1], ⟨⟨_, As, cs, rfl, (open_good hm ix_), HVN.out⟩⟩, ⟨below_step HBB.out (below_step HB6.out HQ13.out)⟩⟩
              | false =>
                have HWQ : Aside0 (Kd.C k88 w5 none ([] : List S88).length []) := ⟨Kd.C_nil _ _⟩
                have HWL : Aside0 (([] : List S88).length ≤ 0) := ⟨Nat.le_refl _⟩
                clear z0 z1 z2 z3 z4 z5 z6
                have HQ5 : Aside0 (Below w5.heap.size w5 w5) := ⟨Below.refl _ _⟩
                obtain ⟨z0, z1, z2, z3, z4, z5, z6⟩ := KB.out w5 HB5.out
                go_wp2_with fail
                refine (e22 ix_ [] 1 (by have h := open_may hm ix_; rwa [open_no HOB.out.symm] at h) (V_C (Kd.V_below HVI.out HB5.out)) (V_le HVI.out)).mono ?_
                rintro e w6 ⟨Ax, cx, rfl, hx1, hx2, hx3, hb6⟩
                have HXR6 := Aside0.mk hx3
                have HQ6 : Aside0 (Below w5.heap.size w5 w6) := ⟨hb6⟩
                clear hx1 hx2 hx3 hb6 HQ5
                clear z0 z1 z2 z3 z4 z5 z6
                go_wp2_with fail
                refine (e17 _).mono ?_
                rintro e w7 ⟨rfl, hb7⟩
                have HQ7 : Aside0 (Below w5.heap.size w5 w7) := ⟨below_step HQ6.out hb7⟩
                have HXR7 := Aside0.mk (Kd.R_below HXR6.out hb7)
                clear hb7 HQ6 HXR6
                go_wp2_with fail
                refine (e28 Good.nil (kF_C (Kd.R_reads' HXR7.out).2.2) (Kd.R_reads' HXR7.out).2.1 (Kd.C_below HWQ.out HQ7.out) HWL.out).mono ?_
                rintro e w8 ⟨rfl, hb8⟩
                have HQ8 : Aside0 (Below w5.heap.size w5 w8) := ⟨below_step HQ7.out hb8⟩
                have HXR8 := Aside0.mk (Kd.R_below HXR7.out hb8)
                clear hb8 HQ7 HXR7
                go_wp2_with fail
                refine (e28 HGS.out (V_C (Kd.V_below HVI.out (below_step HB5.out HQ8.out))) (V_le HVI.out) (V_C (Kd.V_below HVS.out (below_step HB5.out HQ8.out))) (V_le HVS.out)).mono ?_
                rintro e w9 ⟨rfl, hb9⟩
                have HQ9 : Aside0 (Below w5.heap.size w5 w9) := ⟨below_step HQ8.out hb9⟩
                have HXR9 := Aside0.mk (Kd.R_below HXR8.out hb9)
                clear hb9 HQ8 HXR8
                go_wp2_with fail
                refine (e34 _ w5.heap.size Good.nil.1 HQ9.out.size HXR9.out).mono ?_
                rintro e w10 ⟨rfl, hb10⟩
                have HQ10 : Aside0 (Below w5.heap.size w5 w10) := ⟨HQ9.out.trans hb10⟩
                clear hb10 HQ9 HXR9
                go_wp2_with fail
                refine (e28 HGS.out (V_C (Kd.V_below HVI.out (below_step HB5.out HQ10.out))) (V_le HVI.out) (V_C (Kd.V_below HVS.out (below_step HB5.out HQ10.out))) (V_le HVS.out)).mono ?_
                rintro e w11 ⟨rfl, hb11⟩
                have HQ11 : Aside0 (Below w5.heap.size w5 w11) := ⟨below_step HQ10.out hb11⟩
                clear hb11 HQ10
                go_wp2_with fail
                go_roundg (gk - 1)
                case measure => exact HGM.out.1
                case rel => exact ⟨i + 1, HGM.out.2 ▸ ⟨by have := HGM.out.2; omega⟩, by rw [hw1], ⟨⟨S, A, c, rfl, HGS.out, Kd.V_below HVS.out (below_step HB5.out HQ11.out)⟩⟩, ⟨below_step HBB.out (below_step HB5.out HQ11.out)⟩⟩
          · obtain rfl : D = 2 := hd
            clear HD7
            as_aux_lemma =>
              obtain ⟨b1, b2, b4, b5, hbv⟩ : ∃ b1 b2 b4 b5, beginV S cl_ sq_ = (b1, b2, [], b4, b5) := begin_nil S cl_ sq_
              have HBV := Aside0.mk hbv
              clear hbv
              go_upto_region 27 with (fail)
              have hY := heap_alloc_new w4 (.cells #[.int .i64 0, .int .i64 0, .slice none 0 0] 31)
              have hBY : Below w4.heap.size w4 (w4.alloc (.cells #[.int .i64 0, .int .i64 0, .slice none 0 0] 31)) := below_alloc (Below.refl _ _) _
              obtain ⟨g13, hg13⟩ : ∃ g, g = w4.heap.size := ⟨_, rfl⟩
              have HN : Aside0 (g5 ≠ g13 ∧ wb.heap.size ≤ g13) := ⟨by have := HGB.out; have := HB4.out.size; omega⟩
              rw [← hg13] at hY ⊢
              have HYg135 := Aside0.mk hY
              have HB5 : Aside0 (Below wb.heap.size wb (w4.alloc (.cells #[.int .i64 0, .int .i64 0, .slice none 0 0] 31))) := ⟨below_step HB4.out hBY⟩
              clear hY hBY hg13 HB4
              generalize w4.alloc (.cells #[.int .i64 0, .int .i64 0, .slice none 0 0] 31) = w5 at *
              obtain ⟨z0, z1, z2, z3, z4, z5, z6⟩ := KB.out w5 HB5.out
              go_wp2_with fail
              refine (e16 hm cl_ sq_ b1 b2 b5 [] b4 HBV.out (Kd.V_below HVS.out HB5.out)).mono ?_
              rintro e w6 ⟨A3, c3, rfl, h3, hC3, hb6⟩
              have HB6 : Aside0 (Below wb.heap.size wb w6) := ⟨below_step HB5.out hb6⟩
              have HY6 : Aside0 (w6.heap[g13]? = _) := ⟨blk_below HYg135.out hb6⟩
              have HK3 := Aside0.mk h3
              have f0 := blk_frozen HY6.out 0
              have f1 := blk_frozen HY6.out 1
              have f2 := blk_frozen HY6.out 2
              have y0 : w6.cell? ⟨g13, 0, none⟩ = some (.int .i64 0) := (blk_cell HY6.out 0).trans rfl
              have y1 : w6.cell? ⟨g13, 1, none⟩ = some (.int .i64 0) := (blk_cell HY6.out 1).trans rfl
              have y2 : w6.cell? ⟨g13, 2, none⟩ = some (.slice none 0 0) := (blk_cell HY6.out 2).trans rfl
              clear hb6 h3 hC3 HYg135 HB5
              clear z0 z1 z2 z3 z4 z5 z6
              go_upto_region 28 with (fail)
              have HYg137 : Aside0 ((((w6.setCell ⟨g13, 0, none⟩ (.int .i64 b1)).setCell ⟨g13, 1, none⟩ (.int .i64 b2)).setCell ⟨g13, 2, none⟩ (.slice A3 0 c3)).heap[g13]? = some (.cells #[.int .i64 b1, .int .i64 b2, .slice A3 0 c3] 31 (0, 0))) := ⟨blk_put (blk_put (blk_put HY6.out 0 _ rfl) 1 _ rfl) 2 _ rfl⟩
              have HB7 : Aside0 (Below wb.heap.size wb (((w6.setCell ⟨g13, 0, none⟩ (.int .i64 b1)).setCell ⟨g13, 1, none⟩ (.int .i64 b2)).setCell ⟨g13, 2, none⟩ (.slice A3 0 c3))) := ⟨((HB6.out.setCell HN.out.2 _).setCell HN.out.2 _).setCell HN.out.2 _⟩
              clear y0 y1 y2 f0 f1 f2 HB6 HY6
              generalize ((w6.setCell ⟨g13, 0, none⟩ (.int .i64 b1)).setCell ⟨g13, 1, none⟩ (.int .i64 b2)).setCell ⟨g13, 2, none⟩ (.slice A3 0 c3) = w7 at *
              obtain ⟨z0, z1, z2, z3, z4, z5, z6⟩ := KB.out w7 HB7.out
              go_wp2_with fail
              refine (e15 cl_ sq_ b1 b2 b5 [] b4 (HBV.out ▸ begin_may hm cl_ sq_) (V_C (Kd.V_below HVI.out HB7.out)) (V_le HVI.out)).mono ?_
              rintro e w8 ⟨A4, c4, rfl, h4, hC4, hb8⟩
              have HB8 : Aside0 (Below wb.heap.size wb w8) := ⟨below_step HB7.out hb8⟩
              have HYg138 := Aside0.mk (blk_below HYg137.out hb8)
              have HK4 := Aside0.mk h4
              clear hb8 h4 hC4 HYg137 HB7
              clear z0 z1 z2 z3 z4 z5 z6
              go_wp2_with fail
              have hY := heap_alloc_new w8 (.cells #[.int .i64 b1, .int .i64 b2, .slice A4 0 c4] 31)
              have hBY : Below w8.heap.size w8 (w8.alloc (.cells #[.int .i64 b1, .int .i64 b2, .slice A4 0 c4] 31)) := below_alloc (Below.refl _ _) _
              obtain ⟨g15, hg15⟩ : ∃ g, g = w8.heap.size := ⟨_, rfl⟩
              rw [← hg15] at hY ⊢
              have HYg159 := Aside0.mk hY
              have HYg139 := Aside0.mk (blk_below HYg138.out hBY)
              have HB9 : Aside0 (Below wb.heap.size wb (w8.alloc (.cells #[.int .i64 b1, .int .i64 b2, .slice A4 0 c4] 31))) := ⟨below_step HB8.out hBY⟩
              clear hY hBY hg15 HB8 HYg138
              generalize w8.alloc (.cells #[.int .i64 b1, .int .i64 b2, .slice A4 0 c4] 31) = w9 at *
              refine (e17 _).mono ?_
              rintro e w10 ⟨rfl, hb10⟩
              have HB10 : Aside0 (Below wb.heap.size wb w10) := ⟨below_step HB9.out hb10⟩
              have HYg1310 := Aside0.mk (blk_below HYg139.out hb10)
              have HYg1510 := Aside0.mk (blk_below HYg159.out hb10)
              clear hb10 HB9 HYg139 HYg159
              have y0 : w10.cell? ⟨g13, 0, none⟩ = some (.int .i64 b1) := (blk_cell HYg1310.out 0).trans rfl
              have y1 : w10.cell? ⟨g13, 1, none⟩ = some (.int .i64 b2) := (blk_cell HYg1310.out 1).trans rfl
              have y2 : w10.cell? ⟨g13, 2, none⟩ = some (.slice A3 0 c3) := (blk_cell HYg1310.out 2).trans rfl
              have x0 : w10.cell? ⟨g15, 0, none⟩ = some (.int .i64 b1) := (blk_cell HYg1510.out 0).trans rfl
              have x1 : w10.cell? ⟨g15, 1, none⟩ = some (.int .i64 b2) := (blk_cell HYg1510.out 1).trans rfl
              have x2 : w10.cell? ⟨g15, 2, none⟩ = some (.slice A4 0 c4) := (blk_cell HYg1510.out 2).trans rfl
              go_wp2_with fail
              refine (e18 b1 b2 [] (by simp) (C_zero _ _) HK4.out (C_zero _ _) HK3.out).mono ?_
              rintro e w11 ⟨rfl, hb11⟩
              have HB11 : Aside0 (Below wb.heap.size wb w11) := ⟨below_step HB10.out hb11⟩
              clear hb11 HB10 y0 y1 y2 x0 x1 x2
              go_wp2_with fail
              refine (e28 HGS.out (V_C (Kd.V_below HVI.out HB11.out)) (V_le HVI.out) (V_C (Kd.V_below HVS.out HB11.out)) (V_le HVS.out)).mono ?_
              rintro e w12 ⟨rfl, hb12⟩
              have HB12 : Aside0 (Below wb.heap.size wb w12) := ⟨below_step HB11.out hb12⟩
              clear hb12 HB11
              go_wp2_with fail
              go_roundg (gk - 1)
              case measure => exact HGM.out.1
              case rel => exact ⟨i + 1, HGM.out.2 ▸ ⟨by have := HGM.out.2; omega⟩, by rw [hw1], ⟨⟨S, A, c, rfl, HGS.out, Kd.V_below HVS.out HB12.out⟩⟩, ⟨below_step HBB.out HB12.out⟩⟩
          · obtain rfl : D = 3 := hd
            clear HD7
            as_aux_lemma =>
              obtain ⟨b1, b2, b4, b5, hbv⟩ : ∃ b1 b2 b4 b5, beginV S cl_ sq_ = (b1, b2, [], b4, b5) := begin_nil S cl_ sq_
              have HBV := Aside0.mk hbv
              clear hbv
              go_upto_region 27 with (fail)
              have hY := heap_alloc_new w4 (.cells #[.int .i64 0, .int .i64 0, .slice none 0 0] 31)
              have hBY : Below w4.heap.size w4 (w4.alloc (.cells #[.int .i64 0, .int .i64 0, .slice none 0 0] 31)) := below_alloc (Below.refl _ _) _
              obtain ⟨g13, hg13⟩ : ∃ g, g = w4.heap.size := ⟨_, rfl⟩
              have HN : Aside0 (g5 ≠ g13 ∧ wb.heap.size ≤ g13) := ⟨by have := HGB.out; have := HB4.out.size; omega⟩
              rw [← hg13] at hY ⊢
              have HYg135 := Aside0.mk hY
              have HB5 : Aside0 (Below wb.heap.size wb (w4.alloc (.cells #[.int .i64 0, .int .i64 0, .slice none 0 0] 31))) := ⟨below_step HB4.out hBY⟩
              clear hY hBY hg13 HB4
              generalize w4.alloc (.cells #[.int .i64 0, .int .i64 0, .slice none 0 0] 31) = w5 at *
              obtain ⟨z0, z1, z2, z3, z4, z5, z6⟩ := KB.out w5 HB5.out
              go_wp2_with fail
              refine (e16 hm cl_ sq_ b1 b2 b5 [] b4 HBV.out (Kd.V_below HVS.out HB5.out)).mono ?_
              rintro e w6 ⟨A3, c3, rfl, h3, hC3, hb6⟩
              have HB6 : Aside0 (Below wb.heap.size wb w6) := ⟨below_step HB5.out hb6⟩
              have HY6 : Aside0 (w6.heap[g13]? = _) := ⟨blk_below HYg135.out hb6⟩
              have HK3 := Aside0.mk h3
              have f0 := blk_frozen HY6.out 0
              have f1 := blk_frozen HY6.out 1
              have f2 := blk_frozen HY6.out 2
              have y0 : w6.cell? ⟨g13, 0, none⟩ = some (.int .i64 0) := (blk_cell HY6.out 0).trans rfl
              have y1 : w6.cell? ⟨g13, 1, none⟩ = some (.int .i64 0) := (blk_cell HY6.out 1).trans rfl
              have y2 : w6.cell? ⟨g13, 2, none⟩ = some (.slice none 0 0) := (blk_cell HY6.out 2).trans rfl
              clear hb6 h3 hC3 HYg135 HB5
              clear z0 z1 z2 z3 z4 z5 z6
              go_upto_region 28 with (fail)
              have HYg137 : Aside0 ((((w6.setCell ⟨g13, 0, none⟩ (.int .i64 b1)).setCell ⟨g13, 1, none⟩ (.int .i64 b2)).setCell ⟨g13, 2, none⟩ (.slice A3 0 c3)).heap[g13]? = some (.cells #[.int .i64 b1, .int .i64 b2, .slice A3 0 c3] 31 (0, 0))) := ⟨blk_put (blk_put (blk_put HY6.out 0 _ rfl) 1 _ rfl) 2 _ rfl⟩
              have HB7 : Aside0 (Below wb.heap.size wb (((w6.setCell ⟨g13, 0, none⟩ (.int .i64 b1)).setCell ⟨g13, 1, none⟩ (.int .i64 b2)).setCell ⟨g13, 2, none⟩ (.slice A3 0 c3))) := ⟨((HB6.out.setCell HN.out.2 _).setCell HN.out.2 _).setCell HN.out.2 _⟩
              clear y0 y1 y2 f0 f1 f2 HB6 HY6
              generalize ((w6.setCell ⟨g13, 0, none⟩ (.int .i64 b1)).setCell ⟨g13, 1, none⟩ (.int .i64 b2)).setCell ⟨g13, 2, none⟩ (.slice A3 0 c3) = w7 at *
              obtain ⟨z0, z1, z2, z3, z4, z5, z6⟩ := KB.out w7 HB7.out
              go_wp2_with fail
              refine (e15 cl_ sq_ b1 b2 b5 [] b4 (HBV.out ▸ begin_may hm cl_ sq_) (V_C (Kd.V_below HVI.out HB7.out)) (V_le HVI.out)).mono ?_
              rintro e w8 ⟨A4, c4, rfl, h4, hC4, hb8⟩
              have HB8 : Aside0 (Below wb.heap.size wb w8) := ⟨below_step HB7.out hb8⟩
              have HYg138 := Aside0.mk (blk_below HYg137.out hb8)
              have HK4 := Aside0.mk h4
              clear hb8 h4 hC4 HYg137 HB7
              clear z0 z1 z2 z3 z4 z5 z6
              go_wp2_with fail
              have hY := heap_alloc_new w8 (.cells #[.int .i64 b1, .int .i64 b2, .slice A4 0 c4] 31)
              have hBY : Below w8.heap.size w8 (w8.alloc (.cells #[.int .i64 b1, .int .i64 b2, .slice A4 0 c4] 31)) := below_alloc (Below.refl _ _) _
              obtain ⟨g15, hg15⟩ : ∃ g, g = w8.heap.size := ⟨_, rfl⟩
              rw [← hg15] at hY ⊢
              have HYg159 := Aside0.mk hY
              have HYg139 := Aside0.mk (blk_below HYg138.out hBY)
              have HB9 : Aside0 (Below wb.heap.size wb (w8.alloc (.cells #[.int .i64 b1, .int .i64 b2, .slice A4 0 c4] 31))) := ⟨below_step HB8.out hBY⟩
              clear hY hBY hg15 HB8 HYg138
              generalize w8.alloc (.cells #[.int .i64 b1, .int .i64 b2, .slice A4 0 c4] 31) = w9 at *
              refine (e17 _).mono ?_
              rintro e w10 ⟨rfl, hb10⟩
              have HB10 : Aside0 (Below wb.heap.size wb w10) := ⟨below_step HB9.out hb10⟩
              have HYg1310 := Aside0.mk (blk_below HYg139.out hb10)
              have HYg1510 := Aside0.mk (blk_below HYg159.out hb10)
              clear hb10 HB9 HYg139 HYg159
              have y0 : w10.cell? ⟨g13, 0, none⟩ = some (.int .i64 b1) := (blk_cell HYg1310.out 0).trans rfl
              have y1 : w10.cell? ⟨g13, 1, none⟩ = some (.int .i64 b2) := (blk_cell HYg1310.out 1).trans rfl
              have y2 : w10.cell? ⟨g13, 2, none⟩ = some (.slice A3 0 c3) := (blk_cell HYg1310.out 2).trans rfl
              have x0 : w10.cell? ⟨g15, 0, none⟩ = some (.int .i64 b1) := (blk_cell HYg1510.out 0).trans rfl
              have x1 : w10.cell? ⟨g15, 1, none⟩ = some (.int .i64 b2) := (blk_cell HYg1510.out 1).trans rfl
              have x2 : w10.cell? ⟨g15, 2, none⟩ = some (.slice A4 0 c4) := (blk_cell HYg1510.out 2).trans rfl
              go_wp2_with fail
              refine (e18 b1 b2 [] (by simp) (C_zero _ _) HK4.out (C_zero _ _) HK3.out).mono ?_
              rintro e w11 ⟨rfl, hb11⟩
              have HB11 : Aside0 (Below wb.heap.size wb w11) := ⟨below_step HB10.out hb11⟩
              clear hb11 HB10 y0 y1 y2 x0 x1 x2
              go_wp2_with fail
              refine (e28 HGS.out (V_C (Kd.V_below HVI.out HB11.out)) (V_le HVI.out) (V_C (Kd.V_below HVS.out HB11.out)) (V_le HVS.out)).mono ?_
              rintro e w12 ⟨rfl, hb12⟩
              have HB12 : Aside0 (Below wb.heap.size wb w12) := ⟨below_step HB11.out hb12⟩
              clear hb12 HB11
              go_wp2_with fail
              go_roundg (gk - 1)
              case measure => exact HGM.out.1
              case rel => exact ⟨i + 1, HGM.out.2 ▸ ⟨by have := HGM.out.2; omega⟩, by rw [hw1], ⟨⟨S, A, c, rfl, HGS.out, Kd.V_below HVS.out HB12.out⟩⟩, ⟨below_step HBB.out HB12.out⟩⟩
          · obtain rfl : D = 4 := hd
            clear HD7
            as_aux_lemma =>
              obtain ⟨cv, cb, hcv⟩ : ∃ cv cb, doneV S cl_ sq_ r0_ r1_ hs_ ix_ = (cv, cb) := ⟨_, _, rfl⟩
              have HCG : Aside0 (Good cv) := ⟨by have h := done_good hm cl_ sq_ r0_ r1_ hs_ ix_; rwa [hcv] at h⟩
              have HCV := Aside0.mk hcv
              have hcb : (cb != cb) = false := by simp
              clear hcv
              obtain ⟨z0, z1, z2, z3, z4, z5, z6⟩ := KB.out w4 HB4.out
              go_wp2_with fail
              refine (e29 hm cl_ sq_ r0_ r1_ hs_ ix_ cv cb HCV.out (V_C (Kd.V_below HVS.out HB4.out)) (V_le HVS.out) (Kd.C_below HC6B.out HB4.out) HK6.out).mono ?_
              rintro e w5 ⟨Aw, cw, rfl, hw1_, hw2_, hb5⟩
              have HB5 : Aside0 (Below wb.heap.size wb w5) := ⟨below_step HB4.out hb5⟩
              have HWQ := Aside0.mk hw2_
              have HWL := Aside0.mk hw1_
              clear hb5 HB4 hw1_ hw2_ z0 z1 z2 z3 z4 z5 z6
              have H30 : Aside0 (∀ W, Below w5.heap.size w5 W → Calls Try.prog 30 #[.agg #[.int .i64 r0_, .int .i64 r1_, .slice A6 hs_.length c6]] W fun e w' => ∃ A' c', e = .returned (.agg #[.int .i64 r0_, .int .i64 r1_, .slice A' hs_.length c']) ∧ hs_.length ≤ c' ∧ Kd.C k116 w' A' hs_.length hs_ ∧ Below w5.heap.size w5 w') := ⟨fun W hW => by
                refine (e30 r0_ r1_ hs_ HSZ.out (Kd.C_below HC6B.out (below_step HB5.out hW)) HK6.out).mono ?_
                rintro e w' ⟨A', c', rfl, h1, h2, hb⟩
                exact ⟨A', c', rfl, h1, h2, below_step hW hb⟩⟩
              have H23 : Aside0 (∀ W, Below w5.heap.size w5 W → ∀ A' c', hs_.length ≤ c' → Kd.C k116 W A' hs_.length hs_ → Calls Try.prog 23 #[.slice Ai S.length ci, .int .i64 cl_, .int .i64 sq_, .agg #[.int .i64 r0_, .int .i64 r1_, .slice A' hs_.length c'], .int .i64 ix_] W fun e w' => ∃ Ax cx, e = .returned (.tuple #[.slice Ax cv.length cx, .int .i64 cb]) ∧ Kd.R kF 88 w' w5.heap.size (fun _ => True) (.slice Ax cv.length cx) cv ∧ Below w5.heap.size w5 w') := ⟨fun W hW A' c' h1 h2 => by
                refine (e23 cl_ sq_ r0_ r1_ hs_ ix_ cv cb (HCV.out ▸ done_may hm cl_ sq_ r0_ r1_ hs_ ix_) (V_C (Kd.V_below HVI.out (below_step HB5.out hW))) (V_le HVI.out) h2 h1).mono ?_
                rintro e w' ⟨Ax, cx, rfl, _, _, h3, hb⟩
                exact ⟨Ax, cx, rfl, Kd.R_lower h3 hW.size, below_step hW hb⟩⟩
              have KE : Aside0 (∀ W, Below w5.heap.size w5 W → (fun w' : World => w'.cell? ⟨g5, 0, none⟩ = some (.int .i64 do_) ∧ w'.cell? ⟨g5, 1, none⟩ = some (.int .i64 cl_) ∧ w'.cell? ⟨g5, 2, none⟩ = some (.int .i64 sq_) ∧ w'.cell? ⟨g5, 3, none⟩ = some (.int .i64 ix_) ∧ w'.cell? ⟨g5, 4, none⟩ = some (.int .i64 r0_) ∧ w'.cell? ⟨g5, 5, none⟩ = some (.int .i64 r1_) ∧ w'.cell? ⟨g5, 6, none⟩ = some (.slice A6 hs_.length c6)) W) := ⟨fun W hW => KB.out W (below_step HB5.out hW)⟩
              obtain ⟨z0, z1, z2, z3, z4, z5, z6⟩ := KB.out w5 HB5.out
              go_upto_region 35 with (fail)
              go_region_held3 (fun w' => w'.cell? ⟨g5, 0, none⟩ = some (.int .i64 do_) ∧ w'.cell? ⟨g5, 1, none⟩ = some (.int .i64 cl_) ∧ w'.cell? ⟨g5, 2, none⟩ = some (.int .i64 sq_) ∧ w'.cell? ⟨g5, 3, none⟩ = some (.int .i64 ix_) ∧ w'.cell? ⟨g5, 4, none⟩ = some (.int .i64 r0_) ∧ w'.cell? ⟨g5, 5, none⟩ = some (.int .i64 r1_) ∧ w'.cell? ⟨g5, 6, none⟩ = some (.slice A6 hs_.length c6))
                (exact KE.out _ (by repeat (first | exact Below.refl _ _ | exact (Aside0.out ‹Aside0 (Below w5.heap.size w5 _)›) | apply pw_below_drewN | apply below_drew1 | apply below_alloc)))
                (first
                | (go_at_call 30; refine (H30.out _ (by repeat (first | exact Below.refl _ _ | exact (Aside0.out ‹Aside0 (Below w5.heap.size w5 _)›) | apply pw_below_drewN | apply below_drew1 | apply below_alloc))).mono ?_; rintro e w6 ⟨A5, c5, rfl, h5, hC5, hb6⟩; have HQ6 := Aside0.mk hb6; have HC5 := Aside0.mk hC5; have HK5 := Aside0.mk h5; clear hb6 hC5 h5)
                | (go_at_call 23; refine (H23.out _ (by repeat (first | exact Below.refl _ _ | exact (Aside0.out ‹Aside0 (Below w5.heap.size w5 _)›) | apply pw_below_drewN | apply below_drew1 | apply below_alloc)) A5 c5 HK5.out (by repeat (first | exact HC5.out | (with_reducible refine Kd.C_alloc ?_ _) | (with_reducible refine Kd.C_drewN ?_ _) | (with_reducible refine Kd.C_drew ?_)))).mono ?_; rintro e w7 ⟨Ax, cx, rfl, hx3, hb7⟩; have HXR7 := Aside0.mk hx3; have HQ7 := Aside0.mk hb7; clear hb7 hx3))
              clear H30 H23 KE
              go_wp2_with fail
              refine (e17 _).mono ?_
              rintro e w8 ⟨rfl, hb8⟩
              have HQ8 : Aside0 (Below w5.heap.size w5 w8) := ⟨below_step HQ7.out hb8⟩
              have HXR8 := Aside0.mk (Kd.R_below HXR7.out hb8)
              clear hb8 HQ7 HXR7
              go_wp2_with fail
              refine (e28 HCG.out (kF_C (Kd.R_reads' HXR8.out).2.2) (Kd.R_reads' HXR8.out).2.1 (Kd.C_below HWQ.out HQ8.out) HWL.out).mono ?_
              rintro e w9 ⟨rfl, hb9⟩
              have HQ9 : Aside0 (Below w5.heap.size w5 w9) := ⟨below_step HQ8.out hb9⟩
              have HXR9 := Aside0.mk (Kd.R_below HXR8.out hb9)
              clear hb9 HQ8 HXR8
              go_wp2_with fail
              refine (e28 HGS.out (V_C (Kd.V_below HVI.out (below_step HB5.out HQ9.out))) (V_le HVI.out) (V_C (Kd.V_below HVS.out (below_step HB5.out HQ9.out))) (V_le HVS.out)).mono ?_
              rintro e w10 ⟨rfl, hb10⟩
              have HQ10 : Aside0 (Below w5.heap.size w5 w10) := ⟨below_step HQ9.out hb10⟩
              have HXR10 := Aside0.mk (Kd.R_below HXR9.out hb10)
              clear hb10 HQ9 HXR9
              go_wp2_with fail
              refine (e34 _ w5.heap.size HCG.out.1 HQ10.out.size HXR10.out).mono ?_
              rintro e w11 ⟨rfl, hb11⟩
              have HQ11 : Aside0 (Below w5.heap.size w5 w11) := ⟨HQ10.out.trans hb11⟩
              clear hb11 HQ10 HXR10
              go_wp2_with fail
              refine (e28 HGS.out (V_C (Kd.V_below HVI.out (below_step HB5.out HQ11.out))) (V_le HVI.out) (V_C (Kd.V_below HVS.out (below_step HB5.out HQ11.out))) (V_le HVS.out)).mono ?_
              rintro e w12 ⟨rfl, hb12⟩
              have HQ12 : Aside0 (Below w5.heap.size w5 w12) := ⟨below_step HQ11.out hb12⟩
              clear hb12 HQ11
              by_cases hz : cb = 0
              · have hzb : (cb == 0) = true := beq_iff_eq.mpr hz
                clear hz
                go_wp2_with fail
                refine (e26 HCG.out (Kd.C_below HWQ.out HQ12.out) HWL.out).mono ?_
                rintro e w13 ⟨As, cs, rfl, hle, hVs, hb13⟩
                have HVN := Aside0.mk hVs
                have HQ13 : Aside0 (Below w5.heap.size w5 w13) := ⟨below_step HQ12.out hb13⟩
                clear hb13 HQ12 hle hVs
                go_wp2_with fail
                go_roundg (gk - 1)
                case measure => exact HGM.out.1
                case rel => exact ⟨i + 1, HGM.out.2 ▸ ⟨by have := HGM.out.2; omega⟩, by rw [hw1], ⟨⟨_, As, cs, rfl, HCG.out, HVN.out⟩⟩, ⟨below_step HBB.out (below_step HB5.out HQ13.out)⟩⟩
              · have hzb : (cb == 0) = false := beq_eq_false_iff_ne.mpr hz
                clear hz
                go_wp2_with fail
                go_roundg (gk - 1)
                case measure => exact HGM.out.1
                case rel => exact ⟨i + 1, HGM.out.2 ▸ ⟨by have := HGM.out.2; omega⟩, by rw [hw1], ⟨⟨S, A, c, rfl, HGS.out, Kd.V_below HVS.out (below_step HB5.out HQ12.out)⟩⟩, ⟨below_step HBB.out (below_step HB5.out HQ12.out)⟩⟩
              
          · obtain rfl : D = 5 := hd
            clear HD7
            as_aux_lemma =>
              obtain ⟨cv, cb, hcv⟩ : ∃ cv cb, doneV S cl_ sq_ r0_ r1_ hs_ ix_ = (cv, cb) := ⟨_, _, rfl⟩
              have HCG : Aside0 (Good cv) := ⟨by have h := done_good hm cl_ sq_ r0_ r1_ hs_ ix_; rwa [hcv] at h⟩
              have HCV := Aside0.mk hcv
              have hcb : (cb != cb) = false := by simp
              clear hcv
              obtain ⟨z0, z1, z2, z3, z4, z5, z6⟩ := KB.out w4 HB4.out
              go_wp2_with fail
              refine (e29 hm cl_ sq_ r0_ r1_ hs_ ix_ cv cb HCV.out (V_C (Kd.V_below HVS.out HB4.out)) (V_le HVS.out) (Kd.C_below HC6B.out HB4.out) HK6.out).mono ?_
              rintro e w5 ⟨Aw, cw, rfl, hw1_, hw2_, hb5⟩
              have HB5 : Aside0 (Below wb.heap.size wb w5) := ⟨below_step HB4.out hb5⟩
              have HWQ := Aside0.mk hw2_
              have HWL := Aside0.mk hw1_
              clear hb5 HB4 hw1_ hw2_ z0 z1 z2 z3 z4 z5 z6
              have H30 : Aside0 (∀ W, Below w5.heap.size w5 W → Calls Try.prog 30 #[.agg #[.int .i64 r0_, .int .i64 r1_, .slice A6 hs_.length c6]] W fun e w' => ∃ A' c', e = .returned (.agg #[.int .i64 r0_, .int .i64 r1_, .slice A' hs_.length c']) ∧ hs_.length ≤ c' ∧ Kd.C k116 w' A' hs_.length hs_ ∧ Below w5.heap.size w5 w') := ⟨fun W hW => by
                refine (e30 r0_ r1_ hs_ HSZ.out (Kd.C_below HC6B.out (below_step HB5.out hW)) HK6.out).mono ?_
                rintro e w' ⟨A', c', rfl, h1, h2, hb⟩
                exact ⟨A', c', rfl, h1, h2, below_step hW hb⟩⟩
              have H23 : Aside0 (∀ W, Below w5.heap.size w5 W → ∀ A' c', hs_.length ≤ c' → Kd.C k116 W A' hs_.length hs_ → Calls Try.prog 23 #[.slice Ai S.length ci, .int .i64 cl_, .int .i64 sq_, .agg #[.int .i64 r0_, .int .i64 r1_, .slice A' hs_.length c'], .int .i64 ix_] W fun e w' => ∃ Ax cx, e = .returned (.tuple #[.slice Ax cv.length cx, .int .i64 cb]) ∧ Kd.R kF 88 w' w5.heap.size (fun _ => True) (.slice Ax cv.length cx) cv ∧ Below w5.heap.size w5 w') := ⟨fun W hW A' c' h1 h2 => by
                refine (e23 cl_ sq_ r0_ r1_ hs_ ix_ cv cb (HCV.out ▸ done_may hm cl_ sq_ r0_ r1_ hs_ ix_) (V_C (Kd.V_below HVI.out (below_step HB5.out hW))) (V_le HVI.out) h2 h1).mono ?_
                rintro e w' ⟨Ax, cx, rfl, _, _, h3, hb⟩
                exact ⟨Ax, cx, rfl, Kd.R_lower h3 hW.size, below_step hW hb⟩⟩
              have KE : Aside0 (∀ W, Below w5.heap.size w5 W → (fun w' : World => w'.cell? ⟨g5, 0, none⟩ = some (.int .i64 do_) ∧ w'.cell? ⟨g5, 1, none⟩ = some (.int .i64 cl_) ∧ w'.cell? ⟨g5, 2, none⟩ = some (.int .i64 sq_) ∧ w'.cell? ⟨g5, 3, none⟩ = some (.int .i64 ix_) ∧ w'.cell? ⟨g5, 4, none⟩ = some (.int .i64 r0_) ∧ w'.cell? ⟨g5, 5, none⟩ = some (.int .i64 r1_) ∧ w'.cell? ⟨g5, 6, none⟩ = some (.slice A6 hs_.length c6)) W) := ⟨fun W hW => KB.out W (below_step HB5.out hW)⟩
              obtain ⟨z0, z1, z2, z3, z4, z5, z6⟩ := KB.out w5 HB5.out
              go_upto_region 35 with (fail)
              go_region_held3 (fun w' => w'.cell? ⟨g5, 0, none⟩ = some (.int .i64 do_) ∧ w'.cell? ⟨g5, 1, none⟩ = some (.int .i64 cl_) ∧ w'.cell? ⟨g5, 2, none⟩ = some (.int .i64 sq_) ∧ w'.cell? ⟨g5, 3, none⟩ = some (.int .i64 ix_) ∧ w'.cell? ⟨g5, 4, none⟩ = some (.int .i64 r0_) ∧ w'.cell? ⟨g5, 5, none⟩ = some (.int .i64 r1_) ∧ w'.cell? ⟨g5, 6, none⟩ = some (.slice A6 hs_.length c6))
                (exact KE.out _ (by repeat (first | exact Below.refl _ _ | exact (Aside0.out ‹Aside0 (Below w5.heap.size w5 _)›) | apply pw_below_drewN | apply below_drew1 | apply below_alloc)))
                (first
                | (go_at_call 30; refine (H30.out _ (by repeat (first | exact Below.refl _ _ | exact (Aside0.out ‹Aside0 (Below w5.heap.size w5 _)›) | apply pw_below_drewN | apply below_drew1 | apply below_alloc))).mono ?_; rintro e w6 ⟨A5, c5, rfl, h5, hC5, hb6⟩; have HQ6 := Aside0.mk hb6; have HC5 := Aside0.mk hC5; have HK5 := Aside0.mk h5; clear hb6 hC5 h5)
                | (go_at_call 23; refine (H23.out _ (by repeat (first | exact Below.refl _ _ | exact (Aside0.out ‹Aside0 (Below w5.heap.size w5 _)›) | apply pw_below_drewN | apply below_drew1 | apply below_alloc)) A5 c5 HK5.out (by repeat (first | exact HC5.out | (with_reducible refine Kd.C_alloc ?_ _) | (with_reducible refine Kd.C_drewN ?_ _) | (with_reducible refine Kd.C_drew ?_)))).mono ?_; rintro e w7 ⟨Ax, cx, rfl, hx3, hb7⟩; have HXR7 := Aside0.mk hx3; have HQ7 := Aside0.mk hb7; clear hb7 hx3))
              clear H30 H23 KE
              go_wp2_with fail
              refine (e17 _).mono ?_
              rintro e w8 ⟨rfl, hb8⟩
              have HQ8 : Aside0 (Below w5.heap.size w5 w8) := ⟨below_step HQ7.out hb8⟩
              have HXR8 := Aside0.mk (Kd.R_below HXR7.out hb8)
              clear hb8 HQ7 HXR7
              go_wp2_with fail
              refine (e28 HCG.out (kF_C (Kd.R_reads' HXR8.out).2.2) (Kd.R_reads' HXR8.out).2.1 (Kd.C_below HWQ.out HQ8.out) HWL.out).mono ?_
              rintro e w9 ⟨rfl, hb9⟩
              have HQ9 : Aside0 (Below w5.heap.size w5 w9) := ⟨below_step HQ8.out hb9⟩
              have HXR9 := Aside0.mk (Kd.R_below HXR8.out hb9)
              clear hb9 HQ8 HXR8
              go_wp2_with fail
              refine (e28 HGS.out (V_C (Kd.V_below HVI.out (below_step HB5.out HQ9.out))) (V_le HVI.out) (V_C (Kd.V_below HVS.out (below_step HB5.out HQ9.out))) (V_le HVS.out)).mono ?_
              rintro e w10 ⟨rfl, hb10⟩
              have HQ10 : Aside0 (Below w5.heap.size w5 w10) := ⟨below_step HQ9.out hb10⟩
              have HXR10 := Aside0.mk (Kd.R_below HXR9.out hb10)
              clear hb10 HQ9 HXR9
              go_wp2_with fail
              refine (e34 _ w5.heap.size HCG.out.1 HQ10.out.size HXR10.out).mono ?_
              rintro e w11 ⟨rfl, hb11⟩
              have HQ11 : Aside0 (Below w5.heap.size w5 w11) := ⟨HQ10.out.trans hb11⟩
              clear hb11 HQ10 HXR10
              go_wp2_with fail
              refine (e28 HGS.out (V_C (Kd.V_below HVI.out (below_step HB5.out HQ11.out))) (V_le HVI.out) (V_C (Kd.V_below HVS.out (below_step HB5.out HQ11.out))) (V_le HVS.out)).mono ?_
              rintro e w12 ⟨rfl, hb12⟩
              have HQ12 : Aside0 (Below w5.heap.size w5 w12) := ⟨below_step HQ11.out hb12⟩
              clear hb12 HQ11
              by_cases hz : cb = 0
              · have hzb : (cb == 0) = true := beq_iff_eq.mpr hz
                clear hz
                go_wp2_with fail
                refine (e26 HCG.out (Kd.C_below HWQ.out HQ12.out) HWL.out).mono ?_
                rintro e w13 ⟨As, cs, rfl, hle, hVs, hb13⟩
                have HVN := Aside0.mk hVs
                have HQ13 : Aside0 (Below w5.heap.size w5 w13) := ⟨below_step HQ12.out hb13⟩
                clear hb13 HQ12 hle hVs
                go_wp2_with fail
                go_roundg (gk - 1)
                case measure => exact HGM.out.1
                case rel => exact ⟨i + 1, HGM.out.2 ▸ ⟨by have := HGM.out.2; omega⟩, by rw [hw1], ⟨⟨_, As, cs, rfl, HCG.out, HVN.out⟩⟩, ⟨below_step HBB.out (below_step HB5.out HQ13.out)⟩⟩
              · have hzb : (cb == 0) = false := beq_eq_false_iff_ne.mpr hz
                clear hz
                go_wp2_with fail
                go_roundg (gk - 1)
                case measure => exact HGM.out.1
                case rel => exact ⟨i + 1, HGM.out.2 ▸ ⟨by have := HGM.out.2; omega⟩, by rw [hw1], ⟨⟨S, A, c, rfl, HGS.out, Kd.V_below HVS.out (below_step HB5.out HQ12.out)⟩⟩, ⟨below_step HBB.out (below_step HB5.out HQ12.out)⟩⟩
              
          · obtain rfl : D = 6 := hd
            clear HD7
            as_aux_lemma =>
              obtain ⟨cv, cb, hcv⟩ : ∃ cv cb, closeV S cl_ = (cv, cb) := ⟨_, _, rfl⟩
              have HCG : Aside0 (Good cv) := ⟨by have h := close_good hm cl_; rwa [hcv] at h⟩
              have HCV := Aside0.mk hcv
              have hcb : (cb != cb) = false := by simp
              clear hcv
              obtain ⟨z0, z1, z2, z3, z4, z5, z6⟩ := KB.out w4 HB4.out
              go_wp2_with fail
              refine (e31 hm cl_ cv cb HCV.out (Kd.V_below HVS.out HB4.out)).mono ?_
              rintro e w5 ⟨Aw, cw, rfl, hw1_, hw2_, hb5⟩
              have HB5 : Aside0 (Below wb.heap.size wb w5) := ⟨below_step HB4.out hb5⟩
              have HWQ := Aside0.mk hw2_
              have HWL := Aside0.mk hw1_
              clear hb5 HB4 hw1_ hw2_ z0 z1 z2 z3 z4 z5 z6
              have HQ5 : Aside0 (Below w5.heap.size w5 w5) := ⟨Below.refl _ _⟩
              obtain ⟨z0, z1, z2, z3, z4, z5, z6⟩ := KB.out w5 HB5.out
              go_wp2_with fail
              refine (e25 cl_ cv cb (HCV.out ▸ close_may hm cl_) (V_C (Kd.V_below HVI.out HB5.out)) (V_le HVI.out)).mono ?_
              rintro e w6 ⟨Ax, cx, rfl, hx1, hx2, hx3, hb6⟩
              have HXR6 := Aside0.mk hx3
              have HQ6 : Aside0 (Below w5.heap.size w5 w6) := ⟨hb6⟩
              clear hx1 hx2 hx3 hb6 HQ5
              clear z0 z1 z2 z3 z4 z5 z6
              go_wp2_with fail
              refine (e17 _).mono ?_
              rintro e w7 ⟨rfl, hb7⟩
              have HQ7 : Aside0 (Below w5.heap.size w5 w7) := ⟨below_step HQ6.out hb7⟩
              have HXR7 := Aside0.mk (Kd.R_below HXR6.out hb7)
              clear hb7 HQ6 HXR6
              go_wp2_with fail
              refine (e28 HCG.out (kF_C (Kd.R_reads' HXR7.out).2.2) (Kd.R_reads' HXR7.out).2.1 (Kd.C_below HWQ.out HQ7.out) HWL.out).mono ?_
              rintro e w8 ⟨rfl, hb8⟩
              have HQ8 : Aside0 (Below w5.heap.size w5 w8) := ⟨below_step HQ7.out hb8⟩
              have HXR8 := Aside0.mk (Kd.R_below HXR7.out hb8)
              clear hb8 HQ7 HXR7
              go_wp2_with fail
              refine (e28 HGS.out (V_C (Kd.V_below HVI.out (below_step HB5.out HQ8.out))) (V_le HVI.out) (V_C (Kd.V_below HVS.out (below_step HB5.out HQ8.out))) (V_le HVS.out)).mono ?_
              rintro e w9 ⟨rfl, hb9⟩
              have HQ9 : Aside0 (Below w5.heap.size w5 w9) := ⟨below_step HQ8.out hb9⟩
              have HXR9 := Aside0.mk (Kd.R_below HXR8.out hb9)
              clear hb9 HQ8 HXR8
              go_wp2_with fail
              refine (e34 _ w5.heap.size HCG.out.1 HQ9.out.size HXR9.out).mono ?_
              rintro e w10 ⟨rfl, hb10⟩
              have HQ10 : Aside0 (Below w5.heap.size w5 w10) := ⟨HQ9.out.trans hb10⟩
              clear hb10 HQ9 HXR9
              go_wp2_with fail
              refine (e28 HGS.out (V_C (Kd.V_below HVI.out (below_step HB5.out HQ10.out))) (V_le HVI.out) (V_C (Kd.V_below HVS.out (below_step HB5.out HQ10.out))) (V_le HVS.out)).mono ?_
              rintro e w11 ⟨rfl, hb11⟩
              have HQ11 : Aside0 (Below w5.heap.size w5 w11) := ⟨below_step HQ10.out hb11⟩
              clear hb11 HQ10
              by_cases hz : cb = 0
              · have hzb : (cb == 0) = true := beq_iff_eq.mpr hz
                clear hz
                go_wp2_with fail
                refine (e26 HCG.out (Kd.C_below HWQ.out HQ11.out) HWL.out).mono ?_
                rintro e w12 ⟨As, cs, rfl, hle, hVs, hb12⟩
                have HVN := Aside0.mk hVs
                have HQ12 : Aside0 (Below w5.heap.size w5 w12) := ⟨below_step HQ11.out hb12⟩
                clear hb12 HQ11 hle hVs
                go_wp2_with fail
                go_roundg (gk - 1)
                case measure => exact HGM.out.1
                case rel => exact ⟨i + 1, HGM.out.2 ▸ ⟨by have := HGM.out.2; omega⟩, by rw [hw1], ⟨⟨_, As, cs, rfl, HCG.out, HVN.out⟩⟩, ⟨below_step HBB.out (below_step HB5.out HQ12.out)⟩⟩
              · have hzb : (cb == 0) = false := beq_eq_false_iff_ne.mpr hz
                clear hz
                go_wp2_with fail
                go_roundg (gk - 1)
                case measure => exact HGM.out.1
                case rel => exact ⟨i + 1, HGM.out.2 ▸ ⟨by have := HGM.out.2; omega⟩, by rw [hw1], ⟨⟨S, A, c, rfl, HGS.out, Kd.V_below HVS.out (below_step HB5.out HQ11.out)⟩⟩, ⟨below_step HBB.out (below_step HB5.out HQ11.out)⟩⟩
        · go_wp2_with fail
          refine (e14n hm (V_C (Kd.V_below HVS.out HB0.out)) (V_le HVS.out)).mono ?_
          rintro e w1 ⟨rfl, hb1⟩
          have HB1 : Aside0 (Below wb.heap.size wb w1) := ⟨below_step HB0.out hb1⟩
          clear hb1 HB0
          go_wp2_with fail
          refine (e27n HGS.out hm (V_C (Kd.V_below HVI.out HB1.out)) (V_le HVI.out)).mono ?_
          rintro e w2 ⟨rfl, hb2⟩
          have HB2 : Aside0 (Below wb.heap.size wb w2) := ⟨below_step HB1.out hb2⟩
          clear hb2 HB1
          go_wp2_with fail
          refine (e17 _).mono ?_
          rintro e w3 ⟨rfl, hb3⟩
          have HB3 : Aside0 (Below wb.heap.size wb w3) := ⟨below_step HB2.out hb3⟩
          clear hb3 HB2
          obtain ⟨z0, z1, z2, z3, z4, z5, z6⟩ := KB.out w3 HB3.out
          go_wp2_with fail
          refine (e21 _ _ HD.out).mono ?_
          rintro e w4 ⟨rfl, hb4⟩
          have HB4 : Aside0 (Below wb.heap.size wb w4) := ⟨below_step HB3.out hb4⟩
          clear z0 z1 z2 z3 z4 z5 z6
          clear hb4 HB3
          rcases (show D = 0 ∨ D = 1 ∨ D = 2 ∨ D = 3 ∨ D = 4 ∨ D = 5 ∨ D = 6 by have := HD7.out; omega) with hd | hd | hd | hd | hd | hd | hd
          · obtain rfl : D = 0 := hd
            clear HD7
            as_aux_lemma =>
              have HWQ : Aside0 (Kd.C k88 w4 none ([] : List S88).length []) := ⟨Kd.C_nil _ _⟩
              have HWL : Aside0 (([] : List S88).length ≤ 0) := ⟨Nat.le_refl _⟩
              have HQ4 : Aside0 (Below w4.heap.size w4 w4) := ⟨Below.refl _ _⟩
              obtain ⟨z0, z1, z2, z3, z4, z5, z6⟩ := KB.out w4 HB4.out
              go_wp2_with fail
              refine (e22 ix_ [] 1 (open_not HGS.out.len' hm ix_) (V_C (Kd.V_below HVI.out HB4.out)) (V_le HVI.out)).mono ?_
              rintro e w5 ⟨Ax, cx, rfl, hx1, hx2, hx3, hb5⟩
              have HXR5 := Aside0.mk hx3
              have HQ5 : Aside0 (Below w4.heap.size w4 w5) := ⟨hb5⟩
              clear hx1 hx2 hx3 hb5 HQ4
              clear z0 z1 z2 z3 z4 z5 z6
              go_wp2_with fail
              refine (e17 _).mono ?_
              rintro e w6 ⟨rfl, hb6⟩
              have HQ6 : Aside0 (Below w4.heap.size w4 w6) := ⟨below_step HQ5.out hb6⟩
              have HXR6 := Aside0.mk (Kd.R_below HXR5.out hb6)
              clear hb6 HQ5 HXR5
              go_wp2_with fail
              refine (e28 Good.nil (kF_C (Kd.R_reads' HXR6.out).2.2) (Kd.R_reads' HXR6.out).2.1 (Kd.C_below HWQ.out HQ6.out) HWL.out).mono ?_
              rintro e w7 ⟨rfl, hb7⟩
              have HQ7 : Aside0 (Below w4.heap.size w4 w7) := ⟨below_step HQ6.out hb7⟩
              have HXR7 := Aside0.mk (Kd.R_below HXR6.out hb7)
              clear hb7 HQ6 HXR6
              go_wp2_with fail
              refine (e28 HGS.out (V_C (Kd.V_below HVI.out (below_step HB4.out HQ7.out))) (V_le HVI.out) (V_C (Kd.V_below HVS.out (below_step HB4.out HQ7.out))) (V_le HVS.out)).mono ?_
              rintro e w8 ⟨rfl, hb8⟩
              have HQ8 : Aside0 (Below w4.heap.size w4 w8) := ⟨below_step HQ7.out hb8⟩
              have HXR8 := Aside0.mk (Kd.R_below HXR7.out hb8)
              clear hb8 HQ7 HXR7
              go_wp2_with fail
              refine (e34 _ w4.heap.size Good.nil.1 HQ8.out.size HXR8.out).mono ?_
              rintro e w9 ⟨rfl, hb9⟩
              have HQ9 : Aside0 (Below w4.heap.size w4 w9) := ⟨HQ8.out.trans hb9⟩
              clear hb9 HQ8 HXR8
              go_wp2_with fail
              refine (e28 HGS.out (V_C (Kd.V_below HVI.out (below_step HB4.out HQ9.out))) (V_le HVI.out) (V_C (Kd.V_below HVS.out (below_step HB4.out HQ9.out))) (V_le HVS.out)).mono ?_
              rintro e w10 ⟨rfl, hb10⟩
              have HQ10 : Aside0 (Below w4.heap.size w4 w10) := ⟨below_step HQ9.out hb10⟩
              clear hb10 HQ9
              go_wp2_with fail
              go_roundg (gk - 1)
              case measure => exact HGM.out.1
              case rel => exact ⟨i + 1, HGM.out.2 ▸ ⟨by have := HGM.out.2; omega⟩, by rw [hw1], ⟨⟨S, A, c, rfl, HGS.out, Kd.V_below HVS.out (below_step HB4.out HQ10.out)⟩⟩, ⟨below_step HBB.out (below_step HB4.out HQ10.out)⟩⟩
          · obtain rfl : D = 1 := hd
            clear HD7
            as_aux_lemma =>
              have HWQ : Aside0 (Kd.C k88 w4 none ([] : List S88).length []) := ⟨Kd.C_nil _ _⟩
              have HWL : Aside0 (([] : List S88).length ≤ 0) := ⟨Nat.le_refl _⟩
              have HQ4 : Aside0 (Below w4.heap.size w4 w4) := ⟨Below.refl _ _⟩
              obtain ⟨z0, z1, z2, z3, z4, z5, z6⟩ := KB.out w4 HB4.out
              go_wp2_with fail
              refine (e22 ix_ [] 1 (open_not HGS.out.len' hm ix_) (V_C (Kd.V_below HVI.out HB4.out)) (V_le HVI.out)).mono ?_
              rintro e w5 ⟨Ax, cx, rfl, hx1, hx2, hx3, hb5⟩
              have HXR5 := Aside0.mk hx3
              have HQ5 : Aside0 (Below w4.heap.size w4 w5) := ⟨hb5⟩
              clear hx1 hx2 hx3 hb5 HQ4
              clear z0 z1 z2 z3 z4 z5 z6
              go_wp2_with fail
              refine (e17 _).mono ?_
              rintro e w6 ⟨rfl, hb6⟩
              have HQ6 : Aside0 (Below w4.heap.size w4 w6) := ⟨below_step HQ5.out hb6⟩
              have HXR6 := Aside0.mk (Kd.R_below HXR5.out hb6)
              clear hb6 HQ5 HXR5
              go_wp2_with fail
              refine (e28 Good.nil (kF_C (Kd.R_reads' HXR6.out).2.2) (Kd.R_reads' HXR6.out).2.1 (Kd.C_below HWQ.out HQ6.out) HWL.out).mono ?_
              rintro e w7 ⟨rfl, hb7⟩
              have HQ7 : Aside0 (Below w4.heap.size w4 w7) := ⟨below_step HQ6.out hb7⟩
              have HXR7 := Aside0.mk (Kd.R_below HXR6.out hb7)
              clear hb7 HQ6 HXR6
              go_wp2_with fail
              refine (e28 HGS.out (V_C (Kd.V_below HVI.out (below_step HB4.out HQ7.out))) (V_le HVI.out) (V_C (Kd.V_below HVS.out (below_step HB4.out HQ7.out))) (V_le HVS.out)).mono ?_
              rintro e w8 ⟨rfl, hb8⟩
              have HQ8 : Aside0 (Below w4.heap.size w4 w8) := ⟨below_step HQ7.out hb8⟩
              have HXR8 := Aside0.mk (Kd.R_below HXR7.out hb8)
              clear hb8 HQ7 HXR7
              go_wp2_with fail
              refine (e34 _ w4.heap.size Good.nil.1 HQ8.out.size HXR8.out).mono ?_
              rintro e w9 ⟨rfl, hb9⟩
              have HQ9 : Aside0 (Below w4.heap.size w4 w9) := ⟨HQ8.out.trans hb9⟩
              clear hb9 HQ8 HXR8
              go_wp2_with fail
              refine (e28 HGS.out (V_C (Kd.V_below HVI.out (below_step HB4.out HQ9.out))) (V_le HVI.out) (V_C (Kd.V_below HVS.out (below_step HB4.out HQ9.out))) (V_le HVS.out)).mono ?_
              rintro e w10 ⟨rfl, hb10⟩
              have HQ10 : Aside0 (Below w4.heap.size w4 w10) := ⟨below_step HQ9.out hb10⟩
              clear hb10 HQ9
              go_wp2_with fail
              go_roundg (gk - 1)
              case measure => exact HGM.out.1
              case rel => exact ⟨i + 1, HGM.out.2 ▸ ⟨by have := HGM.out.2; omega⟩, by rw [hw1], ⟨⟨S, A, c, rfl, HGS.out, Kd.V_below HVS.out (below_step HB4.out HQ10.out)⟩⟩, ⟨below_step HBB.out (below_step HB4.out HQ10.out)⟩⟩
          · obtain rfl : D = 2 := hd
            clear HD7
            as_aux_lemma =>
              go_upto_region 28 with (fail)
              have hY := heap_alloc_new w4 (.cells #[.int .i64 0, .int .i64 0, .slice none 0 0] 31)
              have hBY : Below w4.heap.size w4 (w4.alloc (.cells #[.int .i64 0, .int .i64 0, .slice none 0 0] 31)) := below_alloc (Below.refl _ _) _
              obtain ⟨g13, hg13⟩ : ∃ g, g = w4.heap.size := ⟨_, rfl⟩
              have HN : Aside0 (g5 ≠ g13 ∧ wb.heap.size ≤ g13) := ⟨by have := HGB.out; have := HB4.out.size; omega⟩
              rw [← hg13] at hY ⊢
              have HYg135 := Aside0.mk hY
              have HB5 : Aside0 (Below wb.heap.size wb (w4.alloc (.cells #[.int .i64 0, .int .i64 0, .slice none 0 0] 31))) := ⟨below_step HB4.out hBY⟩
              clear hY hBY hg13 HB4
              generalize w4.alloc (.cells #[.int .i64 0, .int .i64 0, .slice none 0 0] 31) = w5 at *
              obtain ⟨z0, z1, z2, z3, z4, z5, z6⟩ := KB.out w5 HB5.out
              go_wp2_with fail
              refine (e15 cl_ sq_ 0 0 1 [] false (begin_not HGS.out.len' hm cl_ sq_) (V_C (Kd.V_below HVI.out HB5.out)) (V_le HVI.out)).mono ?_
              rintro e w8 ⟨A4, c4, rfl, h4, hC4, hb8⟩
              have HB8 : Aside0 (Below wb.heap.size wb w8) := ⟨below_step HB5.out hb8⟩
              have HYg138 := Aside0.mk (blk_below HYg135.out hb8)
              have HK4 := Aside0.mk h4
              clear hb8 h4 hC4 HYg135 HB5
              clear z0 z1 z2 z3 z4 z5 z6
              go_wp2_with fail
              have hY := heap_alloc_new w8 (.cells #[.int .i64 0, .int .i64 0, .slice A4 0 c4] 31)
              have hBY : Below w8.heap.size w8 (w8.alloc (.cells #[.int .i64 0, .int .i64 0, .slice A4 0 c4] 31)) := below_alloc (Below.refl _ _) _
              obtain ⟨g15, hg15⟩ : ∃ g, g = w8.heap.size := ⟨_, rfl⟩
              rw [← hg15] at hY ⊢
              have HYg159 := Aside0.mk hY
              have HYg139 := Aside0.mk (blk_below HYg138.out hBY)
              have HB9 : Aside0 (Below wb.heap.size wb (w8.alloc (.cells #[.int .i64 0, .int .i64 0, .slice A4 0 c4] 31))) := ⟨below_step HB8.out hBY⟩
              clear hY hBY hg15 HB8 HYg138
              generalize w8.alloc (.cells #[.int .i64 0, .int .i64 0, .slice A4 0 c4] 31) = w9 at *
              refine (e17 _).mono ?_
              rintro e w10 ⟨rfl, hb10⟩
              have HB10 : Aside0 (Below wb.heap.size wb w10) := ⟨below_step HB9.out hb10⟩
              have HYg1310 := Aside0.mk (blk_below HYg139.out hb10)
              have HYg1510 := Aside0.mk (blk_below HYg159.out hb10)
              clear hb10 HB9 HYg139 HYg159
              have y0 : w10.cell? ⟨g13, 0, none⟩ = some (.int .i64 0) := (blk_cell HYg1310.out 0).trans rfl
              have y1 : w10.cell? ⟨g13, 1, none⟩ = some (.int .i64 0) := (blk_cell HYg1310.out 1).trans rfl
              have y2 : w10.cell? ⟨g13, 2, none⟩ = some (.slice none 0 0) := (blk_cell HYg1310.out 2).trans rfl
              have x0 : w10.cell? ⟨g15, 0, none⟩ = some (.int .i64 0) := (blk_cell HYg1510.out 0).trans rfl
              have x1 : w10.cell? ⟨g15, 1, none⟩ = some (.int .i64 0) := (blk_cell HYg1510.out 1).trans rfl
              have x2 : w10.cell? ⟨g15, 2, none⟩ = some (.slice A4 0 c4) := (blk_cell HYg1510.out 2).trans rfl
              go_wp2_with fail
              refine (e18 0 0 [] (by simp) (C_zero _ _) HK4.out (C_zero _ _) (Nat.le_refl _)).mono ?_
              rintro e w11 ⟨rfl, hb11⟩
              have HB11 : Aside0 (Below wb.heap.size wb w11) := ⟨below_step HB10.out hb11⟩
              clear hb11 HB10 y0 y1 y2 x0 x1 x2
              go_wp2_with fail
              refine (e28 HGS.out (V_C (Kd.V_below HVI.out HB11.out)) (V_le HVI.out) (V_C (Kd.V_below HVS.out HB11.out)) (V_le HVS.out)).mono ?_
              rintro e w12 ⟨rfl, hb12⟩
              have HB12 : Aside0 (Below wb.heap.size wb w12) := ⟨below_step HB11.out hb12⟩
              clear hb12 HB11
              go_wp2_with fail
              go_roundg (gk - 1)
              case measure => exact HGM.out.1
              case rel => exact ⟨i + 1, HGM.out.2 ▸ ⟨by have := HGM.out.2; omega⟩, by rw [hw1], ⟨⟨S, A, c, rfl, HGS.out, Kd.V_below HVS.out HB12.out⟩⟩, ⟨below_step HBB.out HB12.out⟩⟩
          · obtain rfl : D = 3 := hd
            clear HD7
            as_aux_lemma =>
              go_upto_region 28 with (fail)
              have hY := heap_alloc_new w4 (.cells #[.int .i64 0, .int .i64 0, .slice none 0 0] 31)
              have hBY : Below w4.heap.size w4 (w4.alloc (.cells #[.int .i64 0, .int .i64 0, .slice none 0 0] 31)) := below_alloc (Below.refl _ _) _
              obtain ⟨g13, hg13⟩ : ∃ g, g = w4.heap.size := ⟨_, rfl⟩
              have HN : Aside0 (g5 ≠ g13 ∧ wb.heap.size ≤ g13) := ⟨by have := HGB.out; have := HB4.out.size; omega⟩
              rw [← hg13] at hY ⊢
              have HYg135 := Aside0.mk hY
              have HB5 : Aside0 (Below wb.heap.size wb (w4.alloc (.cells #[.int .i64 0, .int .i64 0, .slice none 0 0] 31))) := ⟨below_step HB4.out hBY⟩
              clear hY hBY hg13 HB4
              generalize w4.alloc (.cells #[.int .i64 0, .int .i64 0, .slice none 0 0] 31) = w5 at *
              obtain ⟨z0, z1, z2, z3, z4, z5, z6⟩ := KB.out w5 HB5.out
              go_wp2_with fail
              refine (e15 cl_ sq_ 0 0 1 [] false (begin_not HGS.out.len' hm cl_ sq_) (V_C (Kd.V_below HVI.out HB5.out)) (V_le HVI.out)).mono ?_
              rintro e w8 ⟨A4, c4, rfl, h4, hC4, hb8⟩
              have HB8 : Aside0 (Below wb.heap.size wb w8) := ⟨below_step HB5.out hb8⟩
              have HYg138 := Aside0.mk (blk_below HYg135.out hb8)
              have HK4 := Aside0.mk h4
              clear hb8 h4 hC4 HYg135 HB5
              clear z0 z1 z2 z3 z4 z5 z6
              go_wp2_with fail
              have hY := heap_alloc_new w8 (.cells #[.int .i64 0, .int .i64 0, .slice A4 0 c4] 31)
              have hBY : Below w8.heap.size w8 (w8.alloc (.cells #[.int .i64 0, .int .i64 0, .slice A4 0 c4] 31)) := below_alloc (Below.refl _ _) _
              obtain ⟨g15, hg15⟩ : ∃ g, g = w8.heap.size := ⟨_, rfl⟩
              rw [← hg15] at hY ⊢
              have HYg159 := Aside0.mk hY
              have HYg139 := Aside0.mk (blk_below HYg138.out hBY)
              have HB9 : Aside0 (Below wb.heap.size wb (w8.alloc (.cells #[.int .i64 0, .int .i64 0, .slice A4 0 c4] 31))) := ⟨below_step HB8.out hBY⟩
              clear hY hBY hg15 HB8 HYg138
              generalize w8.alloc (.cells #[.int .i64 0, .int .i64 0, .slice A4 0 c4] 31) = w9 at *
              refine (e17 _).mono ?_
              rintro e w10 ⟨rfl, hb10⟩
              have HB10 : Aside0 (Below wb.heap.size wb w10) := ⟨below_step HB9.out hb10⟩
              have HYg1310 := Aside0.mk (blk_below HYg139.out hb10)
              have HYg1510 := Aside0.mk (blk_below HYg159.out hb10)
              clear hb10 HB9 HYg139 HYg159
              have y0 : w10.cell? ⟨g13, 0, none⟩ = some (.int .i64 0) := (blk_cell HYg1310.out 0).trans rfl
              have y1 : w10.cell? ⟨g13, 1, none⟩ = some (.int .i64 0) := (blk_cell HYg1310.out 1).trans rfl
              have y2 : w10.cell? ⟨g13, 2, none⟩ = some (.slice none 0 0) := (blk_cell HYg1310.out 2).trans rfl
              have x0 : w10.cell? ⟨g15, 0, none⟩ = some (.int .i64 0) := (blk_cell HYg1510.out 0).trans rfl
              have x1 : w10.cell? ⟨g15, 1, none⟩ = some (.int .i64 0) := (blk_cell HYg1510.out 1).trans rfl
              have x2 : w10.cell? ⟨g15, 2, none⟩ = some (.slice A4 0 c4) := (blk_cell HYg1510.out 2).trans rfl
              go_wp2_with fail
              refine (e18 0 0 [] (by simp) (C_zero _ _) HK4.out (C_zero _ _) (Nat.le_refl _)).mono ?_
              rintro e w11 ⟨rfl, hb11⟩
              have HB11 : Aside0 (Below wb.heap.size wb w11) := ⟨below_step HB10.out hb11⟩
              clear hb11 HB10 y0 y1 y2 x0 x1 x2
              go_wp2_with fail
              refine (e28 HGS.out (V_C (Kd.V_below HVI.out HB11.out)) (V_le HVI.out) (V_C (Kd.V_below HVS.out HB11.out)) (V_le HVS.out)).mono ?_
              rintro e w12 ⟨rfl, hb12⟩
              have HB12 : Aside0 (Below wb.heap.size wb w12) := ⟨below_step HB11.out hb12⟩
              clear hb12 HB11
              go_wp2_with fail
              go_roundg (gk - 1)
              case measure => exact HGM.out.1
              case rel => exact ⟨i + 1, HGM.out.2 ▸ ⟨by have := HGM.out.2; omega⟩, by rw [hw1], ⟨⟨S, A, c, rfl, HGS.out, Kd.V_below HVS.out HB12.out⟩⟩, ⟨below_step HBB.out HB12.out⟩⟩
          · obtain rfl : D = 4 := hd
            clear HD7
            as_aux_lemma =>
              have HWQ : Aside0 (Kd.C k88 w4 none ([] : List S88).length []) := ⟨Kd.C_nil _ _⟩
              have HWL : Aside0 (([] : List S88).length ≤ 0) := ⟨Nat.le_refl _⟩
              have H30 : Aside0 (∀ W, Below w4.heap.size w4 W → Calls Try.prog 30 #[.agg #[.int .i64 r0_, .int .i64 r1_, .slice A6 hs_.length c6]] W fun e w' => ∃ A' c', e = .returned (.agg #[.int .i64 r0_, .int .i64 r1_, .slice A' hs_.length c']) ∧ hs_.length ≤ c' ∧ Kd.C k116 w' A' hs_.length hs_ ∧ Below w4.heap.size w4 w') := ⟨fun W hW => by
                refine (e30 r0_ r1_ hs_ HSZ.out (Kd.C_below HC6B.out (below_step HB4.out hW)) HK6.out).mono ?_
                rintro e w' ⟨A', c', rfl, h1, h2, hb⟩
                exact ⟨A', c', rfl, h1, h2, below_step hW hb⟩⟩
              have H23 : Aside0 (∀ W, Below w4.heap.size w4 W → ∀ A' c', hs_.length ≤ c' → Kd.C k116 W A' hs_.length hs_ → Calls Try.prog 23 #[.slice Ai S.length ci, .int .i64 cl_, .int .i64 sq_, .agg #[.int .i64 r0_, .int .i64 r1_, .slice A' hs_.length c'], .int .i64 ix_] W fun e w' => ∃ Ax cx, e = .returned (.tuple #[.slice Ax ([] : List S88).length cx, .int .i64 1]) ∧ Kd.R kF 88 w' w4.heap.size (fun _ => True) (.slice Ax ([] : List S88).length cx) ([] : List S88) ∧ Below w4.heap.size w4 w') := ⟨fun W hW A' c' h1 h2 => by
                refine (e23 cl_ sq_ r0_ r1_ hs_ ix_ ([] : List S88) 1 (done_not HGS.out.len' hm cl_ sq_ r0_ r1_ hs_ ix_) (V_C (Kd.V_below HVI.out (below_step HB4.out hW))) (V_le HVI.out) h2 h1).mono ?_
                rintro e w' ⟨Ax, cx, rfl, _, _, h3, hb⟩
                exact ⟨Ax, cx, rfl, Kd.R_lower h3 hW.size, below_step hW hb⟩⟩
              have KE : Aside0 (∀ W, Below w4.heap.size w4 W → (fun w' : World => w'.cell? ⟨g5, 0, none⟩ = some (.int .i64 do_) ∧ w'.cell? ⟨g5, 1, none⟩ = some (.int .i64 cl_) ∧ w'.cell? ⟨g5, 2, none⟩ = some (.int .i64 sq_) ∧ w'.cell? ⟨g5, 3, none⟩ = some (.int .i64 ix_) ∧ w'.cell? ⟨g5, 4, none⟩ = some (.int .i64 r0_) ∧ w'.cell? ⟨g5, 5, none⟩ = some (.int .i64 r1_) ∧ w'.cell? ⟨g5, 6, none⟩ = some (.slice A6 hs_.length c6)) W) := ⟨fun W hW => KB.out W (below_step HB4.out hW)⟩
              obtain ⟨z0, z1, z2, z3, z4, z5, z6⟩ := KB.out w4 HB4.out
              go_upto_region 35 with (fail)
              go_region_held3 (fun w' => w'.cell? ⟨g5, 0, none⟩ = some (.int .i64 do_) ∧ w'.cell? ⟨g5, 1, none⟩ = some (.int .i64 cl_) ∧ w'.cell? ⟨g5, 2, none⟩ = some (.int .i64 sq_) ∧ w'.cell? ⟨g5, 3, none⟩ = some (.int .i64 ix_) ∧ w'.cell? ⟨g5, 4, none⟩ = some (.int .i64 r0_) ∧ w'.cell? ⟨g5, 5, none⟩ = some (.int .i64 r1_) ∧ w'.cell? ⟨g5, 6, none⟩ = some (.slice A6 hs_.length c6))
                (exact KE.out _ (by repeat (first | exact Below.refl _ _ | exact (Aside0.out ‹Aside0 (Below w4.heap.size w4 _)›) | apply pw_below_drewN | apply below_drew1 | apply below_alloc)))
                (first
                | (go_at_call 30; refine (H30.out _ (by repeat (first | exact Below.refl _ _ | exact (Aside0.out ‹Aside0 (Below w4.heap.size w4 _)›) | apply pw_below_drewN | apply below_drew1 | apply below_alloc))).mono ?_; rintro e w5 ⟨A5, c5, rfl, h5, hC5, hb5⟩; have HQ5 := Aside0.mk hb5; have HC5 := Aside0.mk hC5; have HK5 := Aside0.mk h5; clear hb5 hC5 h5)
                | (go_at_call 23; refine (H23.out _ (by repeat (first | exact Below.refl _ _ | exact (Aside0.out ‹Aside0 (Below w4.heap.size w4 _)›) | apply pw_below_drewN | apply below_drew1 | apply below_alloc)) A5 c5 HK5.out (by repeat (first | exact HC5.out | (with_reducible refine Kd.C_alloc ?_ _) | (with_reducible refine Kd.C_drewN ?_ _) | (with_reducible refine Kd.C_drew ?_)))).mono ?_; rintro e w6 ⟨Ax, cx, rfl, hx3, hb6⟩; have HXR6 := Aside0.mk hx3; have HQ6 := Aside0.mk hb6; clear hb6 hx3))
              clear H30 H23 KE
              go_wp2_with fail
              refine (e17 _).mono ?_
              rintro e w7 ⟨rfl, hb7⟩
              have HQ7 : Aside0 (Below w4.heap.size w4 w7) := ⟨below_step HQ6.out hb7⟩
              have HXR7 := Aside0.mk (Kd.R_below HXR6.out hb7)
              clear hb7 HQ6 HXR6
              go_wp2_with fail
              refine (e28 Good.nil (kF_C (Kd.R_reads' HXR7.out).2.2) (Kd.R_reads' HXR7.out).2.1 (Kd.C_below HWQ.out HQ7.out) HWL.out).mono ?_
              rintro e w8 ⟨rfl, hb8⟩
              have HQ8 : Aside0 (Below w4.heap.size w4 w8) := ⟨below_step HQ7.out hb8⟩
              have HXR8 := Aside0.mk (Kd.R_below HXR7.out hb8)
              clear hb8 HQ7 HXR7
              go_wp2_with fail
              refine (e28 HGS.out (V_C (Kd.V_below HVI.out (below_step HB4.out HQ8.out))) (V_le HVI.out) (V_C (Kd.V_below HVS.out (below_step HB4.out HQ8.out))) (V_le HVS.out)).mono ?_
              rintro e w9 ⟨rfl, hb9⟩
              have HQ9 : Aside0 (Below w4.heap.size w4 w9) := ⟨below_step HQ8.out hb9⟩
              have HXR9 := Aside0.mk (Kd.R_below HXR8.out hb9)
              clear hb9 HQ8 HXR8
              go_wp2_with fail
              refine (e34 _ w4.heap.size Good.nil.1 HQ9.out.size HXR9.out).mono ?_
              rintro e w10 ⟨rfl, hb10⟩
              have HQ10 : Aside0 (Below w4.heap.size w4 w10) := ⟨HQ9.out.trans hb10⟩
              clear hb10 HQ9 HXR9
              go_wp2_with fail
              refine (e28 HGS.out (V_C (Kd.V_below HVI.out (below_step HB4.out HQ10.out))) (V_le HVI.out) (V_C (Kd.V_below HVS.out (below_step HB4.out HQ10.out))) (V_le HVS.out)).mono ?_
              rintro e w11 ⟨rfl, hb11⟩
              have HQ11 : Aside0 (Below w4.heap.size w4 w11) := ⟨below_step HQ10.out hb11⟩
              clear hb11 HQ10
              go_wp2_with fail
              go_roundg (gk - 1)
              case measure => exact HGM.out.1
              case rel => exact ⟨i + 1, HGM.out.2 ▸ ⟨by have := HGM.out.2; omega⟩, by rw [hw1], ⟨⟨S, A, c, rfl, HGS.out, Kd.V_below HVS.out (below_step HB4.out HQ11.out)⟩⟩, ⟨below_step HBB.out (below_step HB4.out HQ11.out)⟩⟩
              
          · obtain rfl : D = 5 := hd
            clear HD7
            as_aux_lemma =>
              have HWQ : Aside0 (Kd.C k88 w4 none ([] : List S88).length []) := ⟨Kd.C_nil _ _⟩
              have HWL : Aside0 (([] : List S88).length ≤ 0) := ⟨Nat.le_refl _⟩
              have H30 : Aside0 (∀ W, Below w4.heap.size w4 W → Calls Try.prog 30 #[.agg #[.int .i64 r0_, .int .i64 r1_, .slice A6 hs_.length c6]] W fun e w' => ∃ A' c', e = .returned (.agg #[.int .i64 r0_, .int .i64 r1_, .slice A' hs_.length c']) ∧ hs_.length ≤ c' ∧ Kd.C k116 w' A' hs_.length hs_ ∧ Below w4.heap.size w4 w') := ⟨fun W hW => by
                refine (e30 r0_ r1_ hs_ HSZ.out (Kd.C_below HC6B.out (below_step HB4.out hW)) HK6.out).mono ?_
                rintro e w' ⟨A', c', rfl, h1, h2, hb⟩
                exact ⟨A', c', rfl, h1, h2, below_step hW hb⟩⟩
              have H23 : Aside0 (∀ W, Below w4.heap.size w4 W → ∀ A' c', hs_.length ≤ c' → Kd.C k116 W A' hs_.length hs_ → Calls Try.prog 23 #[.slice Ai S.length ci, .int .i64 cl_, .int .i64 sq_, .agg #[.int .i64 r0_, .int .i64 r1_, .slice A' hs_.length c'], .int .i64 ix_] W fun e w' => ∃ Ax cx, e = .returned (.tuple #[.slice Ax ([] : List S88).length cx, .int .i64 1]) ∧ Kd.R kF 88 w' w4.heap.size (fun _ => True) (.slice Ax ([] : List S88).length cx) ([] : List S88) ∧ Below w4.heap.size w4 w') := ⟨fun W hW A' c' h1 h2 => by
                refine (e23 cl_ sq_ r0_ r1_ hs_ ix_ ([] : List S88) 1 (done_not HGS.out.len' hm cl_ sq_ r0_ r1_ hs_ ix_) (V_C (Kd.V_below HVI.out (below_step HB4.out hW))) (V_le HVI.out) h2 h1).mono ?_
                rintro e w' ⟨Ax, cx, rfl, _, _, h3, hb⟩
                exact ⟨Ax, cx, rfl, Kd.R_lower h3 hW.size, below_step hW hb⟩⟩
              have KE : Aside0 (∀ W, Below w4.heap.size w4 W → (fun w' : World => w'.cell? ⟨g5, 0, none⟩ = some (.int .i64 do_) ∧ w'.cell? ⟨g5, 1, none⟩ = some (.int .i64 cl_) ∧ w'.cell? ⟨g5, 2, none⟩ = some (.int .i64 sq_) ∧ w'.cell? ⟨g5, 3, none⟩ = some (.int .i64 ix_) ∧ w'.cell? ⟨g5, 4, none⟩ = some (.int .i64 r0_) ∧ w'.cell? ⟨g5, 5, none⟩ = some (.int .i64 r1_) ∧ w'.cell? ⟨g5, 6, none⟩ = some (.slice A6 hs_.length c6)) W) := ⟨fun W hW => KB.out W (below_step HB4.out hW)⟩
              obtain ⟨z0, z1, z2, z3, z4, z5, z6⟩ := KB.out w4 HB4.out
              go_upto_region 35 with (fail)
              go_region_held3 (fun w' => w'.cell? ⟨g5, 0, none⟩ = some (.int .i64 do_) ∧ w'.cell? ⟨g5, 1, none⟩ = some (.int .i64 cl_) ∧ w'.cell? ⟨g5, 2, none⟩ = some (.int .i64 sq_) ∧ w'.cell? ⟨g5, 3, none⟩ = some (.int .i64 ix_) ∧ w'.cell? ⟨g5, 4, none⟩ = some (.int .i64 r0_) ∧ w'.cell? ⟨g5, 5, none⟩ = some (.int .i64 r1_) ∧ w'.cell? ⟨g5, 6, none⟩ = some (.slice A6 hs_.length c6))
                (exact KE.out _ (by repeat (first | exact Below.refl _ _ | exact (Aside0.out ‹Aside0 (Below w4.heap.size w4 _)›) | apply pw_below_drewN | apply below_drew1 | apply below_alloc)))
                (first
                | (go_at_call 30; refine (H30.out _ (by repeat (first | exact Below.refl _ _ | exact (Aside0.out ‹Aside0 (Below w4.heap.size w4 _)›) | apply pw_below_drewN | apply below_drew1 | apply below_alloc))).mono ?_; rintro e w5 ⟨A5, c5, rfl, h5, hC5, hb5⟩; have HQ5 := Aside0.mk hb5; have HC5 := Aside0.mk hC5; have HK5 := Aside0.mk h5; clear hb5 hC5 h5)
                | (go_at_call 23; refine (H23.out _ (by repeat (first | exact Below.refl _ _ | exact (Aside0.out ‹Aside0 (Below w4.heap.size w4 _)›) | apply pw_below_drewN | apply below_drew1 | apply below_alloc)) A5 c5 HK5.out (by repeat (first | exact HC5.out | (with_reducible refine Kd.C_alloc ?_ _) | (with_reducible refine Kd.C_drewN ?_ _) | (with_reducible refine Kd.C_drew ?_)))).mono ?_; rintro e w6 ⟨Ax, cx, rfl, hx3, hb6⟩; have HXR6 := Aside0.mk hx3; have HQ6 := Aside0.mk hb6; clear hb6 hx3))
              clear H30 H23 KE
              go_wp2_with fail
              refine (e17 _).mono ?_
              rintro e w7 ⟨rfl, hb7⟩
              have HQ7 : Aside0 (Below w4.heap.size w4 w7) := ⟨below_step HQ6.out hb7⟩
              have HXR7 := Aside0.mk (Kd.R_below HXR6.out hb7)
              clear hb7 HQ6 HXR6
              go_wp2_with fail
              refine (e28 Good.nil (kF_C (Kd.R_reads' HXR7.out).2.2) (Kd.R_reads' HXR7.out).2.1 (Kd.C_below HWQ.out HQ7.out) HWL.out).mono ?_
              rintro e w8 ⟨rfl, hb8⟩
              have HQ8 : Aside0 (Below w4.heap.size w4 w8) := ⟨below_step HQ7.out hb8⟩
              have HXR8 := Aside0.mk (Kd.R_below HXR7.out hb8)
              clear hb8 HQ7 HXR7
              go_wp2_with fail
              refine (e28 HGS.out (V_C (Kd.V_below HVI.out (below_step HB4.out HQ8.out))) (V_le HVI.out) (V_C (Kd.V_below HVS.out (below_step HB4.out HQ8.out))) (V_le HVS.out)).mono ?_
              rintro e w9 ⟨rfl, hb9⟩
              have HQ9 : Aside0 (Below w4.heap.size w4 w9) := ⟨below_step HQ8.out hb9⟩
              have HXR9 := Aside0.mk (Kd.R_below HXR8.out hb9)
              clear hb9 HQ8 HXR8
              go_wp2_with fail
              refine (e34 _ w4.heap.size Good.nil.1 HQ9.out.size HXR9.out).mono ?_
              rintro e w10 ⟨rfl, hb10⟩
              have HQ10 : Aside0 (Below w4.heap.size w4 w10) := ⟨HQ9.out.trans hb10⟩
              clear hb10 HQ9 HXR9
              go_wp2_with fail
              refine (e28 HGS.out (V_C (Kd.V_below HVI.out (below_step HB4.out HQ10.out))) (V_le HVI.out) (V_C (Kd.V_below HVS.out (below_step HB4.out HQ10.out))) (V_le HVS.out)).mono ?_
              rintro e w11 ⟨rfl, hb11⟩
              have HQ11 : Aside0 (Below w4.heap.size w4 w11) := ⟨below_step HQ10.out hb11⟩
              clear hb11 HQ10
              go_wp2_with fail
              go_roundg (gk - 1)
              case measure => exact HGM.out.1
              case rel => exact ⟨i + 1, HGM.out.2 ▸ ⟨by have := HGM.out.2; omega⟩, by rw [hw1], ⟨⟨S, A, c, rfl, HGS.out, Kd.V_below HVS.out (below_step HB4.out HQ11.out)⟩⟩, ⟨below_step HBB.out (below_step HB4.out HQ11.out)⟩⟩
              
          · obtain rfl : D = 6 := hd
            clear HD7
            as_aux_lemma =>
              have HWQ : Aside0 (Kd.C k88 w4 none ([] : List S88).length []) := ⟨Kd.C_nil _ _⟩
              have HWL : Aside0 (([] : List S88).length ≤ 0) := ⟨Nat.le_refl _⟩
              have HQ4 : Aside0 (Below w4.heap.size w4 w4) := ⟨Below.refl _ _⟩
              obtain ⟨z0, z1, z2, z3, z4, z5, z6⟩ := KB.out w4 HB4.out
              go_wp2_with fail
              refine (e25 cl_ [] 1 (close_not HGS.out.len' hm cl_) (V_C (Kd.V_below HVI.out HB4.out)) (V_le HVI.out)).mono ?_
              rintro e w5 ⟨Ax, cx, rfl, hx1, hx2, hx3, hb5⟩
              have HXR5 := Aside0.mk hx3
              have HQ5 : Aside0 (Below w4.heap.size w4 w5) := ⟨hb5⟩
              clear hx1 hx2 hx3 hb5 HQ4
              clear z0 z1 z2 z3 z4 z5 z6
              go_wp2_with fail
              refine (e17 _).mono ?_
              rintro e w6 ⟨rfl, hb6⟩
              have HQ6 : Aside0 (Below w4.heap.size w4 w6) := ⟨below_step HQ5.out hb6⟩
              have HXR6 := Aside0.mk (Kd.R_below HXR5.out hb6)
              clear hb6 HQ5 HXR5
              go_wp2_with fail
              refine (e28 Good.nil (kF_C (Kd.R_reads' HXR6.out).2.2) (Kd.R_reads' HXR6.out).2.1 (Kd.C_below HWQ.out HQ6.out) HWL.out).mono ?_
              rintro e w7 ⟨rfl, hb7⟩
              have HQ7 : Aside0 (Below w4.heap.size w4 w7) := ⟨below_step HQ6.out hb7⟩
              have HXR7 := Aside0.mk (Kd.R_below HXR6.out hb7)
              clear hb7 HQ6 HXR6
              go_wp2_with fail
              refine (e28 HGS.out (V_C (Kd.V_below HVI.out (below_step HB4.out HQ7.out))) (V_le HVI.out) (V_C (Kd.V_below HVS.out (below_step HB4.out HQ7.out))) (V_le HVS.out)).mono ?_
              rintro e w8 ⟨rfl, hb8⟩
              have HQ8 : Aside0 (Below w4.heap.size w4 w8) := ⟨below_step HQ7.out hb8⟩
              have HXR8 := Aside0.mk (Kd.R_below HXR7.out hb8)
              clear hb8 HQ7 HXR7
              go_wp2_with fail
              refine (e34 _ w4.heap.size Good.nil.1 HQ8.out.size HXR8.out).mono ?_
              rintro e w9 ⟨rfl, hb9⟩
              have HQ9 : Aside0 (Below w4.heap.size w4 w9) := ⟨HQ8.out.trans hb9⟩
              clear hb9 HQ8 HXR8
              go_wp2_with fail
              refine (e28 HGS.out (V_C (Kd.V_below HVI.out (below_step HB4.out HQ9.out))) (V_le HVI.out) (V_C (Kd.V_below HVS.out (below_step HB4.out HQ9.out))) (V_le HVS.out)).mono ?_
              rintro e w10 ⟨rfl, hb10⟩
              have HQ10 : Aside0 (Below w4.heap.size w4 w10) := ⟨below_step HQ9.out hb10⟩
              clear hb10 HQ9
              go_wp2_with fail
              go_roundg (gk - 1)
              case measure => exact HGM.out.1
              case rel => exact ⟨i + 1, HGM.out.2 ▸ ⟨by have := HGM.out.2; omega⟩, by rw [hw1], ⟨⟨S, A, c, rfl, HGS.out, Kd.V_below HVS.out (below_step HB4.out HQ10.out)⟩⟩, ⟨below_step HBB.out (below_step HB4.out HQ10.out)⟩⟩
      · by_cases h1 : i < l1.length
        · have hd1 : decide (i < l1.length) = true := decide_eq_true h1
          have hd2 : decide ((i : Int) < 20) = false := decide_eq_false (by omega)
          clear hlt h1
          go_wp2_with fail
          refine (e19).mono ?_
          rintro e w3 ⟨rfl, hb3⟩
          have HB3 : Aside0 (Below w.heap.size w w3) := ⟨below_step (HL1.out.trans (HBW.out.mono HL1.out.size)) hb3⟩
          clear hb3 x0
          go_wp2_with fail
          go_ret
          exact ⟨rfl, HB3.out⟩
        · have hd1 : decide (i < l1.length) = false := decide_eq_false h1
          clear hlt h1
          go_wp2_with fail
          refine (e19).mono ?_
          rintro e w3 ⟨rfl, hb3⟩
          have HB3 : Aside0 (Below w.heap.size w w3) := ⟨below_step (HL1.out.trans (HBW.out.mono HL1.out.size)) hb3⟩
          clear hb3 x0
          go_wp2_with fail
          go_ret
          exact ⟨rfl, HB3.out⟩
theorem exact_walk (x : S25) (cs : List Value) (w : World) (hk : k25.K w x cs) (ok : ok25 x) :
    Calls Try.prog 8 #[.agg ⟨cs⟩] w fun e w' => e = .returned (.bool true) ∧ Below w.heap.size w w' := by
  have hl := lens25 x ok
  obtain ⟨L, l⟩ := x
  obtain ⟨c0, c1, rfl, ⟨A0, n0, rfl, h0, hC0⟩, ⟨A1, n1, rfl, h1, hC1⟩⟩ := hk
  obtain ⟨⟨a1, a2⟩, ⟨a3, a4⟩⟩ := ok
  obtain ⟨b, hb, hg⟩ := heavy_good L l hl.1 hl.2 (fun x hx => by have := (a2 x hx).2.2.1.2.2.1; omega) (fun x hx => by have := (a4 x hx).2.2.2.2.2.2.1; omega)
  exact exact_walk0 A0 n0 L A1 n1 l w hC0 h0 hC1 h1 hl.2 b hb hg
end Go.Proofs.Ytcacckaonjnmjaa.S
