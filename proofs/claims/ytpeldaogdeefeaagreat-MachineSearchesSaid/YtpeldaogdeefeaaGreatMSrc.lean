/- Search of the reference and of the machine. -/
import Derived.Test.YtpeldaogdeefeaaGreatMSeP
import Derived.Test.YtpeldaogdeefeaaGreatMG9
namespace Go.Proofs.YtpeldaogdeefeaaGreat.M
open Go.Proofs.YtpeldaogdeefeaaGreat.H Go.RowKit Go.Maps Go.Sort Go.Shelf Go.Lib Go.Proofs.YtpeldaogdeefeaaGreatW.PrintWords Go.Proofs.YtpeldaogdeefeaaGreatW.PrintLast Go.Proofs.YtpeldaogdeefeaaGreatW.PrintMore Go.Proofs.YtpeldaogdeefeaaGreat.Base
set_option linter.unusedVariables false
set_option linter.unusedSimpArgs false
def asksV (p : ByteArray) (n : Int) : Int := if p.size = 0 then 5 else (if 4096 < p.size ∨ n < 1 ∨ 1000 < n then 2 else 0)
theorem asks_is (p : ByteArray) (n : Int) : Ev (fun k => lecternref8_Asks.f k p n) (asksV p n) := by
  unfold asksV
  by_cases h0 : p.size = 0
  · rw [if_pos h0]
    exact (Ev.pure _).of_eq fun k => by unfold lecternref8_Asks.f; rw [if_pos ((ne_nil p).2 h0)]
  · rw [if_neg h0]
    have hne : ¬ (p.toList = ([] : List UInt8)) := fun e => h0 ((ne_nil p).1 e)
    have ht : Ev (fun k => lecternref8_Asks.j0 k true) 2 := Ev.step ((Ev.pure _).of_eq fun k => by rw [lecternref8_Asks.j0, if_pos rfl])
    by_cases h1 : 4096 < p.size
    · rw [if_pos (.inl h1)]
      exact ht.of_eq fun k => by unfold lecternref8_Asks.f; rw [if_neg hne, if_pos (by omega)]
    · by_cases h2 : n < 1
      · rw [if_pos (.inr (.inl h2))]
        exact ht.of_eq fun k => by unfold lecternref8_Asks.f; rw [if_neg hne, if_neg (by omega), if_pos h2]
      · by_cases h3 : 1000 < n
        · rw [if_pos (.inr (.inr h3))]
          exact ht.of_eq fun k => by unfold lecternref8_Asks.f; rw [if_neg hne, if_neg (by omega), if_neg h2, decide_eq_true (by omega)]
        · rw [if_neg (by omega)]
          have hf : Ev (fun k => lecternref8_Asks.j0 k false) 0 := Ev.step ((Ev.pure _).of_eq fun k => by rw [lecternref8_Asks.j0, if_neg (by decide)])
          exact hf.of_eq fun k => by unfold lecternref8_Asks.f; rw [if_neg hne, if_neg (by omega), if_neg h2, decide_eq_false (by omega)]
/-- What a search hands back. -/
def SePost (w : World) (r : List S53) (n e : Int) (en : Ending) (w' : World) : Prop := ∃ A c, en = .returned (.tuple #[.slice A r.length c, .int .i64 n, .int .i64 e]) ∧ r.length ≤ c ∧ (∀ W' : World, (∀ i, w.heap.size ≤ i → i < w'.heap.size → W'.heap[i]? = w'.heap[i]?) → Kd.C k53 W' A r.length r) ∧ Below w.heap.size w w'
def SrPost (w : World) (r : List S53) (n e : Int) (en : Ending) (w' : World) : Prop := ∃ A c, en = .returned (.agg #[.int .i64 e, .int .i64 n, .slice A r.length c]) ∧ r.length ≤ c ∧ Kd.C k53 w' A r.length r ∧ Below w.heap.size w w'
set_option maxRecDepth 100000 in
set_option maxHeartbeats 6400000 in
theorem search33 {l : List S36} (hok : DocsOk l) (A : Option Addr) (c : Nat) (p : ByteArray) (n : Int) (w : World) (hC : Kd.C k36 w A l.length l) (hc : l.length ≤ c) {r : List S53} {k e : Int} (hs : searchV (pairs l) p n = (r, k, e)) :
    Calls Tryz.prog 33 #[.slice A l.length c, .string p, .int .i64 n] w (SePost w r k e) := by
  have HC := Aside0.mk hC
  have HCC := Aside0.mk hc
  have HOK := Aside0.mk hok
  have HV := Aside0.mk hs
  obtain ⟨ka, hka⟩ := Ev.some (asks_is p n)
  have HKA := Aside0.mk hka
  clear hC hc hok hs hka
  go_enter Tryz.func33, Tryz.ntmps33
  go_wp2_with fail
  refine (lecternref8_Asks.calls ka p n (asksV p n) _ HKA.out).mono ?_
  rintro e' w' ⟨rfl, ⟨n1, rfl⟩⟩
  have HB1 : Aside0 (Below w.heap.size w (w.drewN n1)) := ⟨pw_below_drewN (Below.refl _ _) n1⟩
  by_cases h0 : p.size = 0
  · have hv : searchV (pairs l) p n = ([], 0, 5) := by unfold searchV; rw [if_pos h0]
    obtain ⟨rfl, hv2⟩ := Prod.mk.inj (hv.symm.trans HV.out)
    obtain ⟨rfl, rfl⟩ := Prod.mk.inj hv2
    have ha : asksV p n = 5 := by unfold asksV; rw [if_pos h0]
    rw [ha]
    clear hv hv2 h0 ha
    go_wp2_with fail
    go_ret3
    exact ⟨_, _, rfl, Nat.zero_le _, fun W' _ => Kd.C_nil _ _, HB1.out⟩
  · by_cases hb : 4096 < p.size ∨ n < 1 ∨ 1000 < n
    · have hv : searchV (pairs l) p n = ([], 0, 2) := by unfold searchV; rw [if_neg h0, if_pos hb]
      obtain ⟨rfl, hv2⟩ := Prod.mk.inj (hv.symm.trans HV.out)
      obtain ⟨rfl, rfl⟩ := Prod.mk.inj hv2
      have ha : asksV p n = 2 := by unfold asksV; rw [if_neg h0, if_pos hb]
      rw [ha]
      clear hv hv2 h0 ha hb
      go_wp2_with fail
      go_ret3
      exact ⟨_, _, rfl, Nat.zero_le _, fun W' _ => Kd.C_nil _ _, HB1.out⟩
    · have hv : searchV (pairs l) p n = ((hitsM (pairs l) p).take n.toNat, ((hitsM (pairs l) p).length : Int), 0) := by unfold searchV; rw [if_neg h0, if_neg hb]
      obtain ⟨rfl, hv2⟩ := Prod.mk.inj (hv.symm.trans HV.out)
      obtain ⟨rfl, rfl⟩ := Prod.mk.inj hv2
      have ha : asksV p n = 0 := by unfold asksV; rw [if_neg h0, if_neg hb]
      rw [ha]
      have HN : Aside0 (1 ≤ n ∧ n ≤ 1000) := ⟨by omega⟩
      obtain ⟨kh, hkh⟩ := Ev.some (refHits_is HOK.out p (by omega) (by omega))
      have HKH := Aside0.mk hkh
      clear hv hv2 h0 ha hb hkh
      go_wp2_with fail
      refine (lecternref8_Hits.calls kh A c l p _ _ (Kd.C_below HC.out HB1.out) HCC.out HKH.out).mono ?_
      rintro e' w2 ⟨v1, rfl, hr1, hb1⟩
      obtain ⟨A1, c1, rfl⟩ := Kd.R_slice hr1
      have HHL : Aside0 ((hitsM (pairs l) p).length ≤ 131200) := ⟨by
        have h1 := hitsM_len p (pairs l) (fun q hq => by have := HOK.out.tx _ (mem_pairs hq); rw [← ba_size] at this; simpa [doc] using this)
        have h2 := HOK.out.few
        have h3 : (pairs l).length * 2049 ≤ 64 * 2049 := Nat.mul_le_mul_right _ (by simpa [pairs] using h2)
        omega⟩
      obtain ⟨hl, hhl⟩ : ∃ z, z = hitsM (pairs l) p := ⟨_, rfl⟩
      have HHh := Aside0.mk hhl
      have HRL : Aside0 (hl.length ≤ c1) := ⟨by rw [hhl]; exact (Kd.R_reads' hr1).2.1⟩
      have HCL : Aside0 (Kd.R k53 53 w2 (w.drewN n1).heap.size (fun _ => True) (.slice A1 hl.length c1) hl) := ⟨by rw [hhl]; exact hr1⟩
      rw [← hhl] at HHL ⊢
      have HB2 : Aside0 (Below w.heap.size w w2) := ⟨below_step HB1.out hb1⟩
      clear hr1 hb1 hhl
      obtain ⟨z, hz⟩ : ∃ z, z = min n.toNat hl.length := ⟨_, rfl⟩
      have HZ := Aside0.mk hz
      have hmin : min (hl.length : Int) n = (z : Int) := by have := HN.out; omega
      have hmin2 : min n (hl.length : Int) = (z : Int) := by have := HN.out; omega
      have hz1 : ((z : Int) ≤ (hl.length : Int)) = True := eq_true (by omega)
      have hz2 : (z ≤ hl.length) = True := eq_true (by omega)
      have hz3 : (z ≤ c1) = True := eq_true (by have := HRL.out; omega)
      have HZ2 : Aside0 (hl.take n.toNat = hl.take z ∧ z = (hl.take z).length) := ⟨by
        refine ⟨?_, by rw [List.length_take]; omega⟩
        rw [HZ.out]
        rcases Nat.le_total n.toNat hl.length with hx | hx
        · rw [Nat.min_eq_left hx]
        · rw [Nat.min_eq_right hx, List.take_of_length_le hx, List.take_of_length_le (Nat.le_refl _)]⟩
      clear hz
      go_wp2_with fail
      rw [← HHh.out]
      rw [HZ2.out.1]
      go_ret3
      refine ⟨A1, c1, ?_, by rw [← HZ2.out.2]; have := HRL.out; have := HZ.out; omega, fun W' hw => Kd.C_take (m := z) (Kd.R_reads' (Kd.R_step (Kd.R_bound HCL.out) (fun k hk hlt => hw k hk.2.1 hlt))).2.2 (by have := HZ.out; omega), HB2.out⟩
      rw [← HZ2.out.2]
      rfl
theorem search_any {w : World} {B U g cnt : Nat} {M : List (Bs × Bs)} (h : Shf w B U g cnt M) (p : ByteArray) (n : Int) (m : Int) (hm : w.cell? ⟨0, 0, none⟩ = some (.int .i64 m)) {r : List S53} {k e : Int} (hs : searchV M p n = (r, k, e)) :
    Calls Tryz.prog 29 #[.pointer (some ⟨g, 0, none⟩), .string p, .int .i64 n] w (SearchPost w r k e) := by
  by_cases hp : p.size ≤ 1000000000000
  · exact search_calls h p hp n m hm hs
  · have hv : searchV M p n = ([], 0, 2) := by unfold searchV; rw [if_neg (by omega), if_pos (by omega)]
    obtain ⟨rfl, hv2⟩ := Prod.mk.inj (hv.symm.trans hs)
    obtain ⟨rfl, rfl⟩ := Prod.mk.inj hv2
    have e1 : (p.toList == []) = false := by rw [beq_eq_false_iff_ne]; exact fun e => by have := (ne_nil p).1 e; omega
    have e2 : (p.toList = []) = False := eq_false (fun e => by have := (ne_nil p).1 e; omega)
    have f1 : decide ((4096 : Int) < (p.size : Int)) = true := decide_eq_true (by omega)
    have f2 : decide (4096 < p.size) = true := decide_eq_true (by omega)
    clear hv hv2 hp h hm hs
    go_enter Tryz.func29, Tryz.ntmps29
    go_wp2_with fail
    go_ret3
    exact ⟨_, rfl, Kd.R_nil _ _ _ _ _, Below.refl _ _⟩
set_option maxRecDepth 100000 in
set_option maxHeartbeats 6400000 in
theorem search51 {w : World} {B U g cnt : Nat} {M : List (Bs × Bs)} {ix : Int} {ss : List S140} (h : Mch w B U g cnt M ix ss) (p : ByteArray) (n : Int) (m : Int) (hm : w.cell? ⟨0, 0, none⟩ = some (.int .i64 m)) {r : List S53} {k e : Int} (hs : searchV M p n = (r, k, e)) :
    Calls Tryz.prog 51 #[.pointer (some ⟨g, 0, none⟩), .string p, .int .i64 n] w (SrPost w r k e) := by
  have HV := Aside0.mk hs
  have HC0 := Aside0.mk hm
  have hu70 := Tryz.underlying70
  have hu132 := Tryz.underlying132
  obtain ⟨gs, vs, hg, hsh, -⟩ := h.ex
  have HG := Aside0.mk hg
  have HSH := Aside0.mk hsh
  clear h hs hm hg hsh
  go_enter Tryz.func51, Tryz.ntmps51
  go_upto_region 1 with (fail)
  obtain ⟨q, hqe⟩ : ∃ b, b = w.heap.size := ⟨_, rfl⟩
  obtain ⟨w1, hw1⟩ : ∃ z, z = w.alloc (.cells #[.int .i64 0, .int .i64 0, .slice none 0 0] 70) := ⟨_, rfl⟩
  have HQ1 : Aside0 (w1.heap[q]? = some (.cells #[.int .i64 0, .int .i64 0, .slice none 0 0] 70 (0, 0))) := ⟨by rw [hw1, hqe]; exact heap_alloc_new w _⟩
  have HB1 : Aside0 (Below w.heap.size w w1) := ⟨by rw [hw1]; exact below_alloc (Below.refl _ _) _⟩
  have HQE : Aside0 (w.heap.size ≤ q) := ⟨by omega⟩
  rw [← hqe, ← hw1]
  clear hqe hw1
  have g0 : w1.cell? ⟨g, 0, none⟩ = some (.pointer (some ⟨gs, 0, none⟩)) := (blk_cell (blk_below HG.out HB1.out) 0).trans rfl
  go_wp2_with fail
  refine (search_any (HSH.out.below HB1.out) p n m ((HB1.out.cell (World.block_lt_of_cell? w _ HC0.out)).trans HC0.out) HV.out).mono ?_
  rintro e' w2 ⟨v, rfl, hr, hb⟩
  obtain ⟨A, c, rfl⟩ := Kd.R_slice hr
  have HR := Aside0.mk hr
  have HB2 : Aside0 (Below w.heap.size w w2) := ⟨below_step HB1.out hb⟩
  have HQ2 := Aside0.mk (blk_below HQ1.out hb)
  have z0 : w2.cell? ⟨q, 0, none⟩ = some (.int .i64 0) := (blk_cell HQ2.out 0).trans rfl
  have z1 : w2.cell? ⟨q, 1, none⟩ = some (.int .i64 0) := (blk_cell HQ2.out 1).trans rfl
  have z2 : w2.cell? ⟨q, 2, none⟩ = some (.slice none 0 0) := (blk_cell HQ2.out 2).trans rfl
  have f0 := blk_frozen HQ2.out 0
  have f1 := blk_frozen HQ2.out 1
  have f2 := blk_frozen HQ2.out 2
  clear hr hb g0
  go_wp2_with fail
  refine bodyPost_ret (results_cell_row rfl _ _ q 70 _ (0, 0) _ rfl (put3 HQ2.out (.int .i64 e) (.int .i64 k) (.slice A r.length c)) Tryz.underlying70 rfl (by kernel_rfl)) rfl ?_
  have hs := R_set3 HR.out HQ2.out (by decide) (.int .i64 e) (.int .i64 k) (.slice A r.length c)
  exact ⟨A, c, rfl, (Kd.R_reads' hs).2.1, (Kd.R_reads' hs).2.2, below3 HB2.out HQE.out _ _ _⟩
set_option maxRecDepth 100000 in
set_option maxHeartbeats 6400000 in
theorem search54 {l : List S36} (hok : DocsOk l) (ix : Int) (A c A2 c2) (ss : List S140) (p : ByteArray) (n : Int) (w : World) (hC : Kd.C k36 w A l.length l) (hc : l.length ≤ c) {r : List S53} {k e : Int} (hs : searchV (pairs l) p n = (r, k, e)) :
    Calls Tryz.prog 54 #[.agg #[.int .i64 ix, .slice A l.length c, .slice A2 ss.length c2], .string p, .int .i64 n] w (SrPost w r k e) := by
  have HV := Aside0.mk hs
  have HC := Aside0.mk hC
  have HCC := Aside0.mk hc
  have HOK := Aside0.mk hok
  have hu70 := Tryz.underlying70
  have hu60 := Tryz.underlying60
  clear hok hC hc hs
  go_enter Tryz.func54, Tryz.ntmps54
  go_upto_region 1 with (fail)
  obtain ⟨s, hse⟩ : ∃ b, b = w.heap.size := ⟨_, rfl⟩
  obtain ⟨q, hqe⟩ : ∃ b, b = w.heap.size + 1 := ⟨_, rfl⟩
  obtain ⟨wa, hwa⟩ : ∃ z, z = w.alloc (.cells #[.int .i64 ix, .slice A l.length c, .slice A2 ss.length c2] 60) := ⟨_, rfl⟩
  obtain ⟨w1, hw1⟩ : ∃ z, z = wa.alloc (.cells #[.int .i64 0, .int .i64 0, .slice none 0 0] 70) := ⟨_, rfl⟩
  have hsa : wa.heap.size = w.heap.size + 1 := by rw [hwa]; exact Array.size_push _
  have HS1 : Aside0 (w1.heap[s]? = some (.cells #[.int .i64 ix, .slice A l.length c, .slice A2 ss.length c2] 60 (0, 0))) := ⟨by rw [hw1]; refine blk_alloc ?_ _; rw [hwa, hse]; exact heap_alloc_new w _⟩
  have HQ1 : Aside0 (w1.heap[q]? = some (.cells #[.int .i64 0, .int .i64 0, .slice none 0 0] 70 (0, 0))) := ⟨by rw [hw1, hqe, ← hsa]; exact heap_alloc_new wa _⟩
  have HB1 : Aside0 (Below w.heap.size w w1) := ⟨by rw [hw1, hwa]; exact below_alloc (below_alloc (Below.refl _ _) _) _⟩
  have HQE : Aside0 (w.heap.size ≤ q) := ⟨by omega⟩
  try rw [← hqe]
  rw [← hse, ← hwa, ← hw1]
  clear hqe hse hwa hw1 hsa
  have g1 : w1.cell? ⟨s, 1, none⟩ = some (.slice A l.length c) := (blk_cell HS1.out 1).trans rfl
  go_wp2_with fail
  refine (search33 HOK.out A c p n w1 (Kd.C_below HC.out HB1.out) HCC.out HV.out).mono ?_
  rintro e' w2 ⟨A9, c9, rfl, hr9, hC9, hb⟩
  have HC9 := Aside0.mk hC9
  have HR9 := Aside0.mk hr9
  have HB2 : Aside0 (Below w.heap.size w w2) := ⟨below_step HB1.out hb⟩
  have HQ2 := Aside0.mk (blk_below HQ1.out hb)
  have z0 : w2.cell? ⟨q, 0, none⟩ = some (.int .i64 0) := (blk_cell HQ2.out 0).trans rfl
  have z1 : w2.cell? ⟨q, 1, none⟩ = some (.int .i64 0) := (blk_cell HQ2.out 1).trans rfl
  have z2 : w2.cell? ⟨q, 2, none⟩ = some (.slice none 0 0) := (blk_cell HQ2.out 2).trans rfl
  have f0 := blk_frozen HQ2.out 0
  have f1 := blk_frozen HQ2.out 1
  have f2 := blk_frozen HQ2.out 2
  clear hr9 hC9 hb g1
  go_wp2_with fail
  refine bodyPost_ret (results_cell_row rfl _ _ q 70 _ (0, 0) _ rfl (put3 HQ2.out (.int .i64 e) (.int .i64 k) (.slice A9 r.length c9)) Tryz.underlying70 rfl (by kernel_rfl)) rfl ?_
  exact ⟨A9, c9, rfl, HR9.out, HC9.out _ (fun i hi hlt => keep3 _ _ _ _ _ _ (by have := blk_lt HQ1.out; omega)), below3 HB2.out HQE.out _ _ _⟩
end Go.Proofs.YtpeldaogdeefeaaGreat.M
