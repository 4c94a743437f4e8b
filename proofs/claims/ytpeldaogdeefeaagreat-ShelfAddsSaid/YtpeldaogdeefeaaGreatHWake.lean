/- The shelf: wakes. -/
import Derived.Test.YtpeldaogdeefeaaGreatHSearch
import Derived.Test.YtpeldaogdeefeaaGreatHRef
import Derived.Test.YtpeldaogdeefeaaGreatHDocs
import Derived.Test.YtpeldaogdeefeaaGreatHx72
namespace Go.Proofs.YtpeldaogdeefeaaGreat.H
open Go.RowKit Go.Maps Go.Sort Go.Shelf Go.Lib Go.Proofs.YtpeldaogdeefeaaGreatW.PrintWords Go.Proofs.YtpeldaogdeefeaaGreatW.PrintLast Go.Proofs.YtpeldaogdeefeaaGreatW.PrintMore Go.Proofs.YtpeldaogdeefeaaGreat.Base
set_option linter.unusedVariables false
set_option linter.unusedSimpArgs false
theorem wake_add : addV [] (⟨#[97]⟩ : ByteArray).data.toList (⟨#[120, 120]⟩ : ByteArray).data.toList = ([([97], [120, 120])], 0) := by decide +kernel
theorem wake_search : searchV [([97], [120, 120])] ⟨#[120]⟩ 1 = ([⟨⟨#[97]⟩, 0⟩], 2, 0) := by
  have h : hitsM [([97], [120, 120])] ⟨#[120]⟩ = [⟨⟨#[97]⟩, 0⟩, ⟨⟨#[97]⟩, 1⟩] := rfl
  unfold searchV
  rw [if_neg (by decide), if_neg (by decide), h]
  rfl
theorem wake_eq : lecternref0_EqHits.f 3 [⟨⟨#[97]⟩, 0⟩] [⟨⟨#[97]⟩, 0⟩] = some true := by
  rw [lecternref0_EqHits.f, if_pos rfl, lecternref0_EqHits.l0, if_pos (by decide), if_pos (by decide), if_pos (by decide), if_neg (by simp), lecternref0_EqHits.l0, if_neg (by rw [wrb _ (by omega) (by omega)]; decide)]
theorem lit_R {α : Type} (d : Kd α) (W : World) (e : Nat) {xs : List α} {inner : List Value} {okp : Nat → Prop} (hrep : Reps (d.M W W.heap.size okp) d.sz xs inner) (hm : xs.length ≤ 9223372036854775807) :
    d.R e (W.alloc (.cells inner.toArray e)) W.heap.size (fun _ => True) (.slice (some ⟨W.heap.size, 0, none⟩) xs.length xs.length) xs := by
  refine ⟨fun _ _ => trivial, inner, ?_, ?_⟩
  · have h2 := World.ownsRow_lit (base := W.heap.size) (e := e) (size := d.sz) W inner.toArray xs.length (Nat.le_refl _) (by simpa [maxLen] using hm) (by simpa using hrep.1)
    simpa using h2
  · refine hrep.imp_ (fun p c hp => d.M_mono (fun k hk => ⟨trivial, fun he => ?_⟩) (Kd.M_below (d.M_bound hp) (below_alloc (Below.refl _ _) _)))
    have h3 : k = W.heap.size := by simpa [Value.ownBlock] using he
    have := hk.2.2.1
    omega
set_option maxRecDepth 100000 in
theorem num_calls (a : Int) (w : World) : Calls Tryz.prog 22 #[.int .i64 a] w fun e w' => e = .returned (.int .i64 a) ∧ w' = w := by
  go_enter Tryz.func22, Tryz.ntmps22
  go_wp2_with fail
  go_ret
  exact ⟨rfl, rfl⟩
set_option maxRecDepth 100000 in
set_option maxHeartbeats 1600000 in
theorem wakes_calls (w : World) (m : Int) (hm : w.cell? ⟨0, 0, none⟩ = some (.int .i64 m)) :
    Calls Tryz.prog 27 #[] w fun e w' => e = .returned (.bool true) ∧ Below w.heap.size w w' := by
  have HM := Aside0.mk hm
  clear hm
  go_enter Tryz.func27, Tryz.ntmps27
  go_wp2_with fail
  refine (new_calls none 0 [] _ (Kd.C_nil _ _) (Nat.zero_le _) DocsOk.nil).mono ?_
  rintro e w1 ⟨g, rfl, hs1, hb1⟩
  have HS1 : Aside0 (Shf w1 w.heap.size w1.heap.size g 64 []) := ⟨hs1⟩
  have HB1 := Aside0.mk hb1
  clear hs1 hb1
  go_wp2_with fail
  refine (num_calls 0 w1).mono ?_
  rintro e w' ⟨rfl, rfl⟩
  go_wp2_with fail
  refine (add_calls HS1.out (by decide) ⟨#[97]⟩ ⟨#[120, 120]⟩ (by decide) (by decide) wake_add).mono ?_
  rintro e w2 ⟨rfl, hs2, hk2⟩
  have HS2 := Aside0.mk hs2
  have HB2 : Aside0 (Below w.heap.size w w2) := ⟨HB1.out.trans (hk2.below)⟩
  clear hs2 hk2
  go_wp2_with fail
  refine (num_calls 0 w2).mono ?_
  rintro e w' ⟨rfl, rfl⟩
  go_wp2_with fail
  refine (search_calls HS2.out ⟨#[120]⟩ (by decide) 1 m ((HB2.out.cell (World.block_lt_of_cell? w _ HM.out)).trans HM.out) wake_search).mono ?_
  rintro e w3 ⟨v3, rfl, hr3, hb3⟩
  obtain ⟨A3, c3, rfl⟩ := Kd.R_slice hr3
  have HR3 := Aside0.mk hr3
  have HB3 : Aside0 (Below w.heap.size w w3) := ⟨below_step HB2.out hb3⟩
  clear hr3 hb3
  go_wp2_with fail
  refine (num_calls 0 w3).mono ?_
  rintro e w' ⟨rfl, rfl⟩
  have hlit : Kd.C k53 (w'.alloc (.cells #[.string ⟨#[97]⟩, .int .i64 0] 53)) (some ⟨w'.heap.size, 0, none⟩) 1 [⟨⟨#[97]⟩, 0⟩] := (Kd.R_reads' (lit_R k53 w' 53 (xs := [⟨⟨#[97]⟩, 0⟩]) (inner := [.string ⟨#[97]⟩, .int .i64 0]) (okp := fun _ => True) (Reps.c2 (show Kd.M k53 _ _ _ (⟨⟨#[97]⟩, 0⟩ : S53) [.string ⟨#[97]⟩, .int .i64 0] from (k53_mkM _ _ _ (⟨⟨#[97]⟩, 0⟩ : S53))) (Reps.none _ _)) (by simp))).2.2
  have hb5 : Below w'.heap.size w' (w'.alloc (.cells #[.string ⟨#[97]⟩, .int .i64 0] 53)) := below_alloc (Below.refl _ _) _
  have HLIT := Aside0.mk hlit
  have HB5 := Aside0.mk hb5
  clear hlit hb5
  go_wp2_with fail
  refine (lecternref0_EqHits.calls 3 A3 c3 [⟨⟨#[97]⟩, 0⟩] (some ⟨w'.heap.size, 0, none⟩) 1 [⟨⟨#[97]⟩, 0⟩] true _ (Kd.C_below (Kd.R_reads' HR3.out).2.2 HB5.out) (Kd.R_reads' HR3.out).2.1 HLIT.out (Nat.le_refl _) wake_eq).mono ?_
  rintro e w5 ⟨rfl, n5, rfl⟩
  go_wp2_with fail
  go_ret
  exact ⟨rfl, pw_below_drewN (below_step HB3.out HB5.out) _⟩
end Go.Proofs.YtpeldaogdeefeaaGreat.H
