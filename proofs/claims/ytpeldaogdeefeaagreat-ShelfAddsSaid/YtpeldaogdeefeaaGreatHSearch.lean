/- The shelf: Search (no segment). -/
import Derived.Test.YtpeldaogdeefeaaGreatHFind
import Derived.Lib.SlBytesConst
namespace Go.Proofs.YtpeldaogdeefeaaGreat.H
open Go.RowKit Go.Maps Go.Sort Go.Shelf Go.Lib Go.Proofs.YtpeldaogdeefeaaGreatW.PrintWords Go.Proofs.YtpeldaogdeefeaaGreatW.PrintLast Go.Proofs.YtpeldaogdeefeaaGreatW.PrintMore Go.Proofs.YtpeldaogdeefeaaGreat.Base
set_option linter.unusedVariables false
set_option linter.unusedSimpArgs false
set_option maxRecDepth 100000 in
set_option maxHeartbeats 1600000 in
theorem clone_calls (l : List S53) (A : Option Addr) (c n : Nat) (hn : n = l.length) (hl : l.length ≤ 1000000) (w : World) (hC : Kd.C k53 w A l.length l) :
    Calls Tryz.prog 70 #[.slice A n c] w fun e w' => ∃ v, e = .returned v ∧ Kd.R k53 53 w' w.heap.size (fun _ => True) v l ∧ Below w.heap.size w w' := by
  subst hn
  have HC := Aside0.mk hC
  rcases A with _ | ad
  · have h0 : l = [] := by
      rcases Nat.eq_zero_or_pos l.length with h0 | h0
      · exact List.eq_nil_of_length_eq_zero h0
      · obtain ⟨ad, h, _⟩ := hC.2.2 h0
        cases h
    subst h0
    have heq := fun (w : World) => Go.Lib.run_eql_slice_nil (P := Tryz.prog) w 43 53 none 0 c 0 0 Tryz.underlying43
    clear hC HC
    go_enter Tryz.func70, Tryz.ntmps70
    go_wp2_with fail
    go_ret
    exact ⟨_, rfl, Kd.R_nil _ _ _ _ _, Below.refl _ _⟩
  · have heq := fun (w : World) => Go.Lib.run_eql_slice_nil (P := Tryz.prog) w 43 53 (some ad) l.length c 0 0 Tryz.underlying43
    clear hC
    go_enter Tryz.func70, Tryz.ntmps70
    go_wp2_with (first
      | ((with_reducible refine gate_dst (N := 5) rfl ?_); refine Kd.R_lit k53 _ 53 ?hg (N := 5) ?hd (xs := ([] : List S53)) (inner := []) (ok := fun _ => True) (okp := fun _ => True) ?hr ?hp (fun _ hk => hk) trivial (Below.refl _ _) (Nat.le_refl _) (by simp) ?_; (case hd => rfl); (case hg => rfl); (case hr => first | (go_simp; done) | (go_simp; rfl)); (case hp => exact Reps.none _ _); intro v5 w5 ho5 hb5 hg_ hnew_; clear hg_ hnew_; have HO5 := Aside0.mk ho5; have HB5 := Aside0.mk hb5; clear ho5 hb5)
      | ((with_reducible refine gate_builtin (b := .append) (xs := #[.tmp 5, .tmp 6]) rfl ?_); at_builtin; refine Kd.R_append_rows k53 (w0 := w) w.heap.size rfl (.tmp 5) (.tmp 6) 43 53 (.agg #[(.string ⟨#[]⟩), (.int .i64 0)]) 24 rfl Tryz.underlying43 info53 rfl (by decide) (by omega) v5 [] l _ _ _ (fun _ => True) (fun _ => False) rfl rfl HO5.out (Kd.C_below HC.out HB5.out) (fun _ _ h => h) (fun _ h => h.elim) (fun _ _ => trivial) HB5.out HB5.out.size (by simp; omega) ?_; intro v7 w7 ho7 hb7 hg7 hat7; have HO7 := Aside0.mk ho7; have HB7 := Aside0.mk hb7; clear ho7 hb7 hg7 hat7))
    go_ret
    exact ⟨_, rfl, HO7.out, HB7.out⟩
def searchV (M : List (Bs × Bs)) (p : ByteArray) (n : Int) : List S53 × Int × Int :=
  if p.size = 0 then ([], 0, 5) else (if 4096 < p.size ∨ n < 1 ∨ 1000 < n then ([], 0, 2) else ((hitsM M p).take n.toNat, ((hitsM M p).length : Int), 0))
def SearchPost (w : World) (r : List S53) (n e : Int) (en : Ending) (w' : World) : Prop := ∃ v, en = .returned (.tuple #[v, .int .i64 n, .int .i64 e]) ∧ Kd.R k53 53 w' w.heap.size (fun _ => True) v r ∧ Below w.heap.size w w'
set_option maxRecDepth 100000 in
set_option maxHeartbeats 6400000 in
theorem search_calls {w : World} {B U g cnt : Nat} {M : List (Bs × Bs)} (h : Shf w B U g cnt M) (p : ByteArray) (hps : p.size ≤ 1000000000000) (n : Int) (m : Int) (hm : w.cell? ⟨0, 0, none⟩ = some (.int .i64 m)) {r : List S53} {k e : Int} (hs : searchV M p n = (r, k, e)) :
    Calls Tryz.prog 29 #[.pointer (some ⟨g, 0, none⟩), .string p, .int .i64 n] w (SearchPost w r k e) := by
  have HS := Aside0.mk h
  have HM := Aside0.mk hm
  have HV := Aside0.mk hs
  have HPS := Aside0.mk hps
  clear h hm hs hps
  by_cases h0 : p.size = 0
  · have hv : searchV M p n = ([], 0, 5) := by unfold searchV; rw [if_pos h0]
    obtain ⟨rfl, hv2⟩ := Prod.mk.inj (hv.symm.trans HV.out)
    obtain ⟨rfl, rfl⟩ := Prod.mk.inj hv2
    have e1 : (p.toList == []) = true := beq_iff_eq.mpr ((ne_nil p).2 h0)
    have e2 : (p.toList = []) = True := eq_true ((ne_nil p).2 h0)
    clear hv hv2 h0
    go_enter Tryz.func29, Tryz.ntmps29
    go_wp2_with fail
    go_ret3
    exact ⟨_, rfl, Kd.R_nil _ _ _ _ _, Below.refl _ _⟩
  · have e1 : (p.toList == []) = false := by rw [beq_eq_false_iff_ne]; exact fun e => h0 ((ne_nil p).1 e)
    have e2 : (p.toList = []) = False := eq_false (fun e => h0 ((ne_nil p).1 e))
    have HP0 : Aside0 (0 < p.size) := ⟨by omega⟩
    by_cases hb : 4096 < p.size ∨ n < 1 ∨ 1000 < n
    · have hv : searchV M p n = ([], 0, 2) := by unfold searchV; rw [if_neg h0, if_pos hb]
      obtain ⟨rfl, hv2⟩ := Prod.mk.inj (hv.symm.trans HV.out)
      obtain ⟨rfl, rfl⟩ := Prod.mk.inj hv2
      clear hv hv2 h0
      by_cases b1 : 4096 < p.size
      · have f1 : decide ((4096 : Int) < (p.size : Int)) = true := decide_eq_true (by omega)
        have f2 : decide (4096 < p.size) = true := decide_eq_true b1
        clear hb b1
        go_enter Tryz.func29, Tryz.ntmps29
        go_wp2_with fail
        go_ret3
        exact ⟨_, rfl, Kd.R_nil _ _ _ _ _, Below.refl _ _⟩
      · have f1 : decide ((4096 : Int) < (p.size : Int)) = false := decide_eq_false (by omega)
        have f2 : decide (4096 < p.size) = false := decide_eq_false b1
        by_cases b2 : n < 1
        · have f3 : decide (n < 1) = true := decide_eq_true b2
          clear hb b1 b2
          go_enter Tryz.func29, Tryz.ntmps29
          go_wp2_with fail
          go_ret3
          exact ⟨_, rfl, Kd.R_nil _ _ _ _ _, Below.refl _ _⟩
        · have f3 : decide (n < 1) = false := decide_eq_false b2
          have f4 : decide (1000 < n) = true := decide_eq_true (by omega)
          clear hb b1 b2
          go_enter Tryz.func29, Tryz.ntmps29
          go_wp2_with fail
          go_ret3
          exact ⟨_, rfl, Kd.R_nil _ _ _ _ _, Below.refl _ _⟩
    · have hv : searchV M p n = ((hitsM M p).take n.toNat, ((hitsM M p).length : Int), 0) := by unfold searchV; rw [if_neg h0, if_neg hb]
      obtain ⟨rfl, hv2⟩ := Prod.mk.inj (hv.symm.trans HV.out)
      obtain ⟨rfl, rfl⟩ := Prod.mk.inj hv2
      have f1 : decide ((4096 : Int) < (p.size : Int)) = false := decide_eq_false (by omega)
      have f2 : decide (4096 < p.size) = false := decide_eq_false (by omega)
      have f3 : decide (n < 1) = false := decide_eq_false (by omega)
      have f4 : decide (1000 < n) = false := decide_eq_false (by omega)
      have HN : Aside0 (1 ≤ n ∧ n ≤ 1000) := ⟨by omega⟩
      clear hv hv2 h0 hb
      go_enter Tryz.func29, Tryz.ntmps29
      go_wp2_with fail
      refine (hits_calls HS.out p HP0.out m HM.out).mono ?_
      rintro e w1 ⟨v1, rfl, hr1, hb1⟩
      obtain ⟨A1, c1, rfl⟩ := Kd.R_slice hr1
      have HHL : Aside0 ((hitsM M p).length ≤ 131200) := ⟨by
        have h1 := hitsM_len p M (fun q hq => HS.out.tx q hq)
        have h2 := HS.out.few
        have h3 : M.length * 2049 ≤ 64 * 2049 := Nat.mul_le_mul_right _ h2
        omega⟩
      obtain ⟨hl, hhl⟩ : ∃ z, z = hitsM M p := ⟨_, rfl⟩
      have HHh := Aside0.mk hhl
      have HRL : Aside0 (hl.length ≤ c1) := ⟨by rw [hhl]; exact (Kd.R_reads' hr1).2.1⟩
      have HCL : Aside0 (Kd.C k53 w1 A1 hl.length hl) := ⟨by rw [hhl]; exact (Kd.R_reads' hr1).2.2⟩
      rw [← hhl] at HHL ⊢
      have HB1 := Aside0.mk hb1
      clear hr1 hb1 hhl
      obtain ⟨z, hz⟩ : ∃ z, z = min n.toNat hl.length := ⟨_, rfl⟩
      have HZ := Aside0.mk hz
      have hmin : min n (hl.length : Int) = (z : Int) := by have := HN.out; omega
      have hz1 : ((z : Int) ≤ (hl.length : Int)) = True := eq_true (by omega)
      have hz2 : (z ≤ hl.length) = True := eq_true (by omega)
      have hz3 : (z ≤ c1) = True := eq_true (by have := HRL.out; omega)
      clear hz
      go_wp2_with fail
      have HTL : Aside0 (z = (hl.take z).length) := ⟨by rw [List.length_take, HZ.out]; omega⟩
      refine (clone_calls (hl.take z) A1 c1 z HTL.out (by have := HHL.out; rw [← HTL.out]; have := HZ.out; omega) w1 (HTL.out ▸ Kd.C_take (m := z) HCL.out (by have := HZ.out; omega))).mono ?_
      rintro e w2 ⟨v2, rfl, hr2, hb2⟩
      have HR2 := Aside0.mk hr2
      have HB2 := Aside0.mk hb2
      clear hr2 hb2
      go_wp2_with fail
      rw [← HHh.out]
      have HZ2 : hl.take n.toNat = hl.take z := by
        rw [HZ.out]
        rcases Nat.le_total n.toNat hl.length with hx | hx
        · rw [Nat.min_eq_left hx]
        · rw [Nat.min_eq_right hx, List.take_of_length_le hx, List.take_of_length_le (Nat.le_refl _)]
      rw [HZ2]
      go_ret3
      exact ⟨_, rfl, Kd.R_lower HR2.out HB1.out.size, below_step HB1.out HB2.out⟩
end Go.Proofs.YtpeldaogdeefeaaGreat.H
