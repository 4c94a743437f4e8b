/- (*file).torn: what is left of a file whose last write was torn. -/
import Derived.Test.YtoonepmnlgfikaaDiskWalk5
import Derived.Test.YtoonepmnlgfikaaDCopy
import Derived.Test.YtoonepmnlgfikaaDx35
import Derived.Test.YtoonepmnlgfikaaDx36
import Derived.StillTailTactics
import Derived.Deep.RegionHeld3
namespace Go.Proofs.Ytoonepmnlgfikaa.D
open Go.RowKit Go.Proofs.YtoonepmnlgfikaaW.PrintWords Go.Proofs.YtoonepmnlgfikaaW.PrintLast Go.Proofs.YtoonepmnlgfikaaW.PrintMore Go.Proofs.Ytoonepmnlgfikaa.Base
set_option linter.unusedVariables false
set_option linter.unusedSimpArgs false
attribute [local go_sem] max2_int min2_int max_two min_two max_three min_three max_four min_four
set_option maxRecDepth 100000 in
set_option maxHeartbeats 1600000 in
theorem clone62 (l : List Int) (A : Option Addr) (c : Nat) (hl : l.length ≤ 140737488355328) (w : World) (hC : Kd.C (Kd.int .u8) w A l.length l) :
    Calls Try.prog 62 #[.slice A l.length c] w fun e w' => ∃ v, e = .returned v ∧ Kd.R (Kd.int .u8) 5 w' w.heap.size (fun _ => True) v l ∧ Below w.heap.size w w' := by
  have HC := Aside0.mk hC
  rcases A with _ | ad
  · have h0 : l = [] := by
      rcases Nat.eq_zero_or_pos l.length with h0 | h0
      · exact List.eq_nil_of_length_eq_zero h0
      · obtain ⟨ad, h, _⟩ := hC.2.2 h0
        cases h
    subst h0
    have heq := fun (w : World) => Go.Lib.run_eql_slice_nil (P := Try.prog) w 27 5 none 0 c 0 0 Try.underlying27
    clear hC HC
    go_enter Try.func62, Try.ntmps62
    go_wp2_with fail
    go_ret
    exact ⟨_, rfl, Kd.R_nil _ _ _ _ _, Below.refl _ _⟩
  · have heq := fun (w : World) => Go.Lib.run_eql_slice_nil (P := Try.prog) w 27 5 (some ad) l.length c 0 0 Try.underlying27
    clear hC
    go_enter Try.func62, Try.ntmps62
    go_wp2_with (first
      | ((with_reducible refine gate_dst (N := 5) rfl ?_); refine Kd.R_lit (Kd.int .u8) _ 5 ?hg (N := 5) ?hd (xs := ([] : List Int)) (inner := []) (ok := fun _ => True) (okp := fun _ => True) ?hr ?hp (fun _ hk => hk) trivial (Below.refl _ _) (Nat.le_refl _) (by simp) ?_; (case hd => rfl); (case hg => rfl); (case hr => first | (go_simp; done) | (go_simp; rfl)); (case hp => exact Reps.none _ _); intro v5 w5 ho5 hb5 hg_ hnew_; clear hg_ hnew_; have HO5 := Aside0.mk ho5; have HB5 := Aside0.mk hb5; clear ho5 hb5)
      | ((with_reducible refine gate_builtin (b := .append) (xs := #[.tmp 5, .tmp 6]) rfl ?_); at_builtin; refine Kd.R_append_rows (Kd.int .u8) (w0 := w) w.heap.size rfl (.tmp 5) (.tmp 6) 27 5 (.int .u8 0) 1 rfl Try.underlying27 info5 rfl (by decide) (by omega) v5 [] l _ _ _ (fun _ => True) (fun _ => False) rfl rfl HO5.out (Kd.C_below HC.out HB5.out) (fun _ _ h => h) (fun _ h => h.elim) (fun _ _ => trivial) HB5.out HB5.out.size (by simp; omega) ?_; intro v7 w7 ho7 hb7 hg7 hat7; have HO7 := Aside0.mk ho7; have HB7 := Aside0.mk hb7; clear ho7 hb7 hg7 hat7))
    go_ret
    exact ⟨_, rfl, HO7.out, HB7.out⟩
theorem C_two {W : World} {q : Nat} {A0 A1 : Option Addr} {c0 c1 : Nat} {l0 l1 : List Int} (hq : W.heap[q]? = some (.cells #[.slice A0 l0.length c0, .slice A1 l1.length c1] 27 (0, 0))) (h0 : Kd.C (Kd.int .u8) W A0 l0.length l0) (h1 : Kd.C (Kd.int .u8) W A1 l1.length l1) (hc0 : l0.length ≤ c0) (hc1 : l1.length ≤ c1) :
    Kd.C (Kd.slice 5 (Kd.int .u8)) W (some ⟨q, 0, none⟩) 2 [l0, l1] := by
  refine ⟨rfl, by decide, fun _ => ⟨_, rfl, fun j p hj => ?_⟩⟩
  match j, hj with
  | 0, hj =>
    obtain rfl := Option.some.inj hj
    exact ⟨[.slice A0 l0.length c0], rfl, ⟨A0, c0, rfl, hc0, h0⟩, fun i v hv => by
      match i, hv with
      | 0, hv => obtain rfl := Option.some.inj hv; exact (blk_cell hq 0).trans rfl⟩
  | 1, hj =>
    obtain rfl := Option.some.inj hj
    exact ⟨[.slice A1 l1.length c1], rfl, ⟨A1, c1, rfl, hc1, h1⟩, fun i v hv => by
      match i, hv with
      | 0, hv => obtain rfl := Option.some.inj hv; exact (blk_cell hq 1).trans rfl⟩
theorem longest_two (l0 l1 : List Int) : disk_longest.f 5 [l0, l1] = some ((max l0.length l1.length : Nat) : Int) := by
  have e1 : wrap64 ((0 : Int) + 1) = 1 := by rw [wrap64_in _ (by omega) (by omega)]; rfl
  have e2 : wrap64 ((1 : Int) + 1) = 2 := by rw [wrap64_in _ (by omega) (by omega)]; rfl
  have r0 : rd_L2 [l0, l1] 0 = l0 := rfl
  have r1 : rd_L2 [l0, l1] 1 = l1 := rfl
  have m1 : mx (mx 0 (l0.length : Int)) (l1.length : Int) = ((max l0.length l1.length : Nat) : Int) := by
    unfold mx
    split <;> split <;> omega
  show disk_longest.l0 5 0 [l0, l1] 2 0 = _
  rw [disk_longest.l0, if_pos (by decide), if_pos (by decide), if_pos (show (0 : Int) < (([l0, l1] : List (List Int)).length : Int) by show (0 : Int) < 2; decide), e1, r0]
  rw [disk_longest.l0, if_pos (by decide), if_pos (by decide), if_pos (show (1 : Int) < (([l0, l1] : List (List Int)).length : Int) by show (1 : Int) < 2; decide), e2, r1]
  rw [disk_longest.l0, if_neg (by decide), m1]
theorem modulo_is (a : Int) (n : Nat) (h : 0 < n) (hn : n ≤ 1000000000) : ∃ (m : Nat) (t : Int), (m : Int) = a % (n : Int) ∧ m < n ∧ disk_Modulo.f a (n : Int) = some ((m : Int), t) := by
  have h0 : 0 ≤ a % (n : Int) := Int.emod_nonneg _ (by omega)
  have h1 : a % (n : Int) < (n : Int) := Int.emod_lt_of_pos _ (by omega)
  unfold disk_Modulo.f
  rw [if_neg (by omega)]
  have hb1 : Int.tmod a (n : Int) < (n : Int) := Int.tmod_lt_of_pos _ (by omega)
  have hb2 : -(n : Int) < Int.tmod a (n : Int) := Int.lt_tmod_of_pos _ (by omega)
  by_cases hc : Int.tmod a (n : Int) < 0
  · have e : Int.tmod a (n : Int) + (n : Int) = a % (n : Int) := by
      rw [Int.emod_eq_tmod, if_neg (fun hx => by
        rcases hx with hx | hx
        · have := Int.tmod_nonneg (n : Int) hx; omega
        · have := Int.tmod_eq_zero_of_dvd hx; omega)]
      omega
    rw [if_pos hc, wrap64_in _ (by omega) (by omega), e]
    exact ⟨(a % (n : Int)).toNat, _, by omega, by omega, by rw [Int.toNat_of_nonneg h0]⟩
  · have e : Int.tmod a (n : Int) = a % (n : Int) := by
      rw [Int.emod_eq_tmod]
      split
      · omega
      · rename_i hx
        have hx1 : a < 0 := by omega
        have hx2 : ¬ (n : Int) ∣ a := fun hd => hx (.inr hd)
        exfalso
        have h3 : Int.tmod a (n : Int) ≤ 0 := by
          have h4 : Int.tmod (-a) (n : Int) = - Int.tmod a (n : Int) := Int.neg_tmod ..
          have := Int.tmod_nonneg (n : Int) (show 0 ≤ -a by omega)
          omega
        exact hx2 (Int.dvd_of_tmod_eq_zero (by omega))
    rw [if_neg hc, e]
    exact ⟨(a % (n : Int)).toNat, _, by omega, by omega, by rw [Int.toNat_of_nonneg h0]⟩
/-- What is known of the file's block. -/
structure FileAt (w : World) (f : Nat) (u v : Value) (W : World) : Prop where
  mk :: (at_ : W.heap[f]? = some (.cells #[u, v] 82 (0, 0))) (below : Below w.heap.size w W)
theorem FileAt.drewN {w W : World} {f : Nat} {u v : Value} (h : FileAt w f u v W) (n : Nat) : FileAt w f u v (W.drewN n) := ⟨blk_drewN h.at_ n, pw_below_drewN h.below n⟩
theorem FileAt.drew {w W : World} {f : Nat} {u v : Value} (h : FileAt w f u v W) : FileAt w f u v W.drew := ⟨blk_drew h.at_, below_drew1 h.below⟩
theorem FileAt.step {w W W' : World} {f : Nat} {u v : Value} (h : FileAt w f u v W) (hb : Below W.heap.size W W') : FileAt w f u v W' := ⟨blk_below h.at_ hb, below_step h.below hb⟩
theorem FileAt.alloc {w W : World} {f : Nat} {u v : Value} (h : FileAt w f u v W) (o : Obj) : FileAt w f u v (W.alloc o) := ⟨blk_alloc h.at_ o, below_alloc h.below o⟩
/-- l, and zeros behind it up to n. -/
def padTo (l : List Int) (n : Nat) : List Int := l ++ List.replicate (n - l.length) 0
theorem padTo_len {l : List Int} {n : Nat} (h : l.length ≤ n) : (padTo l n).length = n := by
  unfold padTo
  rw [List.length_append, List.length_replicate]
  omega
/-- What a torn file holds: the first nn bytes are new. -/
def tornV (l0 l1 : List Int) (nn : Nat) : List Int := ((padTo l1 (max l0.length l1.length)).take nn ++ (padTo l0 (max l0.length l1.length)).drop nn).take l1.length
set_option maxRecDepth 100000 in
set_option maxHeartbeats 1600000 in
theorem torn_calls (f : Nat) (A0 : Option Addr) (c0 : Nat) (l0 : List Int) (A1 : Option Addr) (c1 : Nat) (l1 : List Int) (times : Int) (w : World) (hf : w.heap[f]? = some (.cells #[.slice A0 l0.length c0, .slice A1 l1.length c1] 82 (0, 0)))
    (hC0 : Kd.C (Kd.int .u8) w A0 l0.length l0) (hc0 : l0.length ≤ c0) (hC1 : Kd.C (Kd.int .u8) w A1 l1.length l1) (hc1 : l1.length ≤ c1) (hl0 : l0.length ≤ 2000000) (hl1 : l1.length ≤ 2000000) :
    Calls Try.prog 44 #[.pointer (some ⟨f, 0, none⟩), .int .i64 times] w fun e w' => ∃ v, e = .returned v ∧ ∃ nn, nn ≤ max l0.length l1.length ∧ Kd.R (Kd.int .u8) 5 w' w.heap.size (fun _ => True) v (tornV l0 l1 nn) ∧ Below w.heap.size w w' := by
  have hu82 := Try.underlying82
  obtain ⟨long, hlong⟩ : ∃ long : Nat, long = max l0.length l1.length := ⟨_, rfl⟩
  have HLONG := Aside0.mk hlong
  obtain ⟨m, t, hm, hmk, hmod⟩ := modulo_is times ((long + 31) / 32 + 1) (by omega) (by omega)
  have H43 : Aside0 (∀ W, Calls Try.prog 43 #[.int .i64 times, .int .i64 (((long : Int) + 32 - 1) / 32 + 1)] W fun e w' => e = .returned (.tuple #[.int .i64 (m : Int), .int .i64 t]) ∧ ∃ n, w' = W.drewN n) := ⟨fun W => by
    rw [show ((long : Int) + 32 - 1) / 32 + 1 = (((long + 31) / 32 + 1 : Nat) : Int) by omega]
    exact (disk_Modulo.calls times _ _ _ W hmod).mono (fun e w' h => ⟨h.1, h.2.out⟩)⟩
  have HM := Aside0.mk hm
  have HMK := Aside0.mk hmk
  clear hm hmk hmod
  have HF : Aside0 (FileAt w f (.slice A0 l0.length c0) (.slice A1 l1.length c1) w) := ⟨⟨hf, Below.refl _ _⟩⟩
  have H61 : Aside0 (∀ W q, W.heap[q]? = some (.cells #[.slice A0 l0.length c0, .slice A1 l1.length c1] 27 (0, 0)) → Below w.heap.size w W → Calls Try.prog 61 #[.slice (some ⟨q, 0, none⟩) 2 2] W fun e w' => e = .returned (.int .i64 ((max l0.length l1.length : Nat) : Int)) ∧ Below W.heap.size W w') := ⟨fun W q hq hb =>
    disk_longest.calls 5 (some ⟨q, 0, none⟩) 2 [l0, l1] _ W (C_two hq (Kd.C_below hC0 hb) (Kd.C_below hC1 hb) hc0 hc1) (Nat.le_refl _) (longest_two l0 l1)⟩
  have HBL : Aside0 (∀ W, Below w.heap.size w W → FileAt w f (.slice A0 l0.length c0) (.slice A1 l1.length c1) W) := ⟨fun W hb => ⟨(hb.block f (blk_lt hf)).trans hf, hb⟩⟩
  have H62 : Aside0 (∀ W, FileAt w f (.slice A0 l0.length c0) (.slice A1 l1.length c1) W → Calls Try.prog 62 #[.slice A0 l0.length c0] W fun e w' => ∃ v, e = .returned v ∧ Kd.R (Kd.int .u8) 5 w' w.heap.size (fun _ => True) v l0 ∧ FileAt w f (.slice A0 l0.length c0) (.slice A1 l1.length c1) w') := ⟨fun W hi => by
    refine (clone62 l0 A0 c0 (by omega) W (Kd.C_below hC0 hi.below)).mono ?_
    rintro e w' ⟨v, rfl, hr, hb⟩
    exact ⟨v, rfl, Kd.R_lower hr hi.below.size, hi.step hb⟩⟩
  have H62b : Aside0 (∀ W, FileAt w f (.slice A0 l0.length c0) (.slice A1 l1.length c1) W → Calls Try.prog 62 #[.slice A1 l1.length c1] W fun e w' => ∃ v, e = .returned v ∧ Kd.R (Kd.int .u8) 5 w' W.heap.size (fun _ => True) v l1 ∧ FileAt w f (.slice A0 l0.length c0) (.slice A1 l1.length c1) w' ∧ Below W.heap.size W w') := ⟨fun W hi => by
    refine (clone62 l1 A1 c1 (by omega) W (Kd.C_below hC1 hi.below)).mono ?_
    rintro e w' ⟨v, rfl, hr, hb⟩
    exact ⟨v, rfl, hr, hi.step hb, hb⟩⟩
  have KP : Aside0 (∀ W, FileAt w f (.slice A0 l0.length c0) (.slice A1 l1.length c1) W → W.cell? ⟨f, 0, none⟩ = some (.slice A0 l0.length c0) ∧ W.cell? ⟨f, 1, none⟩ = some (.slice A1 l1.length c1)) := ⟨fun W hi => ⟨(blk_cell hi.at_ 0).trans rfl, (blk_cell hi.at_ 1).trans rfl⟩⟩
  have k0 : w.cell? ⟨f, 0, none⟩ = some (.slice A0 l0.length c0) := (blk_cell hf 0).trans rfl
  have k1 : w.cell? ⟨f, 1, none⟩ = some (.slice A1 l1.length c1) := (blk_cell hf 1).trans rfl
  have HC0 := Aside0.mk hC0
  have HC1 := Aside0.mk hC1
  rw [← hlong] at H61
  have hb0 : l0.length ≤ long := by omega
  have hb1 : l1.length ≤ long := by omega
  have hb2 : long ≤ 2000000 := by omega
  obtain ⟨nn, hnn⟩ : ∃ nn : Nat, nn = min (m * 32) long := ⟨_, rfl⟩
  have hmn : mn (wrap64 ((m : Int) * 32)) (long : Int) = (nn : Int) := by
    have := HMK.out
    rw [wrap64_in _ (by omega) (by omega)]
    unfold mn
    split <;> omega
  have hnl : nn ≤ long := by omega
  have HNN := Aside0.mk hnn
  clear hf hC0 hC1 hlong hl0 hl1 hnn
  go_enter Try.func44, Try.ntmps44
  go_wp2_with fail
  go_still_tail 8, (by kernel_rfl)
  change wpList _ _ _ _ _ w.drew
  obtain ⟨w1, hw1⟩ : ∃ w1, w1 = w.drew := ⟨_, rfl⟩
  rw [← hw1]
  have HF1 : Aside0 (FileAt w f (.slice A0 l0.length c0) (.slice A1 l1.length c1) w1) := ⟨by rw [hw1]; exact HF.out.drew⟩
  clear k0 k1 hw1 HF
  have E1 : Aside0 (wrap64 ((m : Int) * 32) = ((m * 32 : Nat) : Int)) := ⟨by have := HMK.out; rw [wrap64_in _ (by omega) (by omega)]; omega⟩
  clear hmn
  go_upto_region 4 with (first
    | (go_at_call 61; refine (H61.out _ _ (blk_new _ _) (HF1.out.alloc _).below).mono ?_; rintro e w2 ⟨rfl, hb2⟩; have HF2 := Aside0.mk ((HF1.out.alloc _).step hb2); clear hb2)
    | (go_at_call 43; refine (H43.out _).mono ?_; rintro e w3 ⟨rfl, ⟨n3, rfl⟩⟩))
  go_cut [7] (fun v7 wc => v7 = .int .i64 (nn : Int) ∧ Aside0 (FileAt w f (.slice A0 l0.length c0) (.slice A1 l1.length c1) wc))
  case first =>
    go_wp2_with fail
    all_goals go_meet
    all_goals (case rel => exact ⟨by first | (have := E1.out; have := HNN.out; congr 1; omega) | (have h1 := E1.out; have := HNN.out; rename_i h2; rw [h1] at h2; congr 1; omega), ⟨HF2.out.drewN _⟩⟩)
  case rest =>
    obtain ⟨rfl, HF3⟩ := hcut
    go_wp2_with fail
    have HL0 : Aside0 (((l0.length : Nat) + ((long : Int) - (l0.length : Int)).toNat) * 1 ≤ 140737488355328) := ⟨by omega⟩
    have HP0 : Aside0 (l0 ++ List.replicate ((long : Int) - (l0.length : Int)).toNat 0 = padTo l0 long) := ⟨by unfold padTo; rw [show ((long : Int) - (l0.length : Int)).toNat = long - l0.length by omega]⟩
    have HD0 : Aside0 (0 ≤ (long : Int) - (l0.length : Int)) := ⟨by omega⟩
    have w5a : wrap64 ((long : Int) - (l0.length : Int)) = (long : Int) - (l0.length : Int) := wrap64_in _ (by omega) (by omega)
    have w5b : IntKind.i64.wrap ((long : Int) - (l0.length : Int)) = (long : Int) - (l0.length : Int) := (i64_w _).trans w5a
    go_region_held3 (fun w' => w'.cell? ⟨f, 0, none⟩ = some (.slice A0 l0.length c0))
      (first | exact (KP.out _ (by repeat (first | exact (Aside0.out ‹Aside0 (FileAt w f (.slice A0 l0.length c0) (.slice A1 l1.length c1) _)›) | apply FileAt.drewN | apply FileAt.drew))).1)
      (first
        | (go_at_call 62; refine (H62.out _ (by repeat (first | exact (Aside0.out ‹Aside0 (FileAt w f (.slice A0 l0.length c0) (.slice A1 l1.length c1) _)›) | apply FileAt.drewN | apply FileAt.drew))).mono ?_; rintro e w5 ⟨v5, rfl, hr, hi⟩; have HR5 := Aside0.mk hr; have HF5 := Aside0.mk hi; clear hr hi)
        | ((fail_if_success go_at_call 62); refine Kd.R_append_zeros_step (Kd.int .u8) (w0 := w) w.heap.size rfl (.tmp 40) (.tmp 47) 27 3 5 (.int .u8 0) 1 rfl Try.underlying27 Try.underlying3 info5 rfl (by decide) (by decide) v5 l0 0 ((long : Int) - (l0.length : Int)) (fun _ => True) rfl rfl ?aZ (fun _ _ => trivial) ?aO HD0.out ?aB ?aS HL0.out ?_;
           (case aZ => rfl);
           (case aO => ((with_reducible repeat (first | apply Kd.R_alloc | apply Kd.R_drewN | apply Kd.R_drew)); exact HR5.out));
           (case aB => exact (FileAt.below (by repeat (first | exact (Aside0.out ‹Aside0 (FileAt w f (.slice A0 l0.length c0) (.slice A1 l1.length c1) _)›) | apply FileAt.drewN | apply FileAt.drew))));
           (case aS => exact (FileAt.below (by repeat (first | exact (Aside0.out ‹Aside0 (FileAt w f (.slice A0 l0.length c0) (.slice A1 l1.length c1) _)›) | apply FileAt.drewN | apply FileAt.drew))).size);
           intro v6 w6 ho hb hg hat; rw [HP0.out] at ho; have HR6 := Aside0.mk ho; have HF6 := Aside0.mk (HBL.out _ hb); have HB6 := Aside0.mk hb; have HG6 := Aside0.mk hg; have HA6 := Aside0.mk hat; clear ho hb hg hat))
    go_wp2_with fail
    have hln : (padTo l0 long).length = long := padTo_len hb0
    obtain ⟨A6, c6, rfl⟩ := Kd.R_slice HR6.out
    rw [hln] at HR6 ⊢
    have HRD := Aside0.mk (Kd.R_reads' HR6.out)
    have HLN := Aside0.mk hln
    clear hln
    have H62c : Aside0 (∀ W, Below w6.heap.size w6 W → Calls Try.prog 62 #[.slice A1 l1.length c1] W fun e w' => ∃ v, e = .returned v ∧ Kd.R (Kd.int .u8) 5 w' w6.heap.size (fun _ => True) v l1 ∧ Below w6.heap.size w6 w') := ⟨fun W hb => by
      refine (H62b.out W (HBL.out _ (HB6.out.trans (hb.mono HB6.out.size)))).mono ?_
      rintro e w' ⟨v, rfl, hr, hi, hb'⟩
      exact ⟨v, rfl, Kd.R_lower hr hb.size, below_step hb hb'⟩⟩
    have KP1 : Aside0 (∀ W, Below w6.heap.size w6 W → W.cell? ⟨f, 1, none⟩ = some (.slice A1 l1.length c1)) := ⟨fun W hb => (KP.out _ (HBL.out _ (HB6.out.trans (hb.mono HB6.out.size)))).2⟩
    have HL1 : Aside0 (((l1.length : Nat) + ((long : Int) - (l1.length : Int)).toNat) * 1 ≤ 140737488355328) := ⟨by omega⟩
    have HP1 : Aside0 (l1 ++ List.replicate ((long : Int) - (l1.length : Int)).toNat 0 = padTo l1 long) := ⟨by unfold padTo; rw [show ((long : Int) - (l1.length : Int)).toNat = long - l1.length by omega]⟩
    have HD1 : Aside0 (0 ≤ (long : Int) - (l1.length : Int)) := ⟨by omega⟩
    have w6a : wrap64 ((long : Int) - (l1.length : Int)) = (long : Int) - (l1.length : Int) := wrap64_in _ (by omega) (by omega)
    have w6b : IntKind.i64.wrap ((long : Int) - (l1.length : Int)) = (long : Int) - (l1.length : Int) := (i64_w _).trans w6a
    have HM1 : Aside0 ((padTo l1 long).length = long) := ⟨padTo_len hb1⟩
    have HB66 : Aside0 (Below w6.heap.size w6 w6) := ⟨Below.refl _ _⟩
    clear HF1 HF3 HR5 HF5 HF6 HG6 HA6 HL0 HP0 HD0 w5a w5b H62 H61 H43
    go_region_held3 (fun w' => w'.cell? ⟨f, 1, none⟩ = some (.slice A1 l1.length c1))
      (first | exact KP1.out _ (by repeat (first | exact Below.refl _ _ | exact (Aside0.out ‹Aside0 (Below w6.heap.size w6 _)›) | apply pw_below_drewN | apply below_drew1)))
      (first
        | (go_at_call 62; refine (H62c.out _ (by repeat (first | exact Below.refl _ _ | exact (Aside0.out ‹Aside0 (Below w6.heap.size w6 _)›) | apply pw_below_drewN | apply below_drew1))).mono ?_; rintro e w7 ⟨v7, rfl, hr, hi⟩; have HR7 := Aside0.mk hr; have HB7 := Aside0.mk hi; clear hr hi)
        | ((fail_if_success go_at_call 62); refine Kd.R_append_zeros_step (Kd.int .u8) (w0 := w6) w6.heap.size rfl (.tmp 53) (.tmp 60) 27 3 5 (.int .u8 0) 1 rfl Try.underlying27 Try.underlying3 info5 rfl (by decide) (by decide) v7 l1 0 ((long : Int) - (l1.length : Int)) (fun _ => True) rfl rfl ?aZ (fun _ _ => trivial) ?aO HD1.out ?aB ?aS HL1.out ?_;
           (case aZ => rfl);
           (case aO => ((with_reducible repeat (first | apply Kd.R_alloc | apply Kd.R_drewN | apply Kd.R_drew)); exact HR7.out));
           (case aB => exact (by repeat (first | exact Below.refl _ _ | exact (Aside0.out ‹Aside0 (Below w6.heap.size w6 _)›) | apply pw_below_drewN | apply below_drew1)));
           (case aS => exact (show Below w6.heap.size w6 _ from (by repeat (first | exact Below.refl _ _ | exact (Aside0.out ‹Aside0 (Below w6.heap.size w6 _)›) | apply pw_below_drewN | apply below_drew1))).size);
           intro v8 w8 ho hb hg hat; rw [HP1.out] at ho; have HR8 := Aside0.mk ho; have HB8 := Aside0.mk hb; clear ho hb hg hat))
    have HR6n : Aside0 (Kd.R (Kd.int .u8) 5 w8 w.heap.size (fun _ => True) (.slice A6 long c6) (padTo l0 long)) := ⟨Kd.R_below HR6.out HB8.out⟩
    obtain ⟨A8, c8, rfl⟩ := Kd.R_slice HR8.out
    have HR8n : Aside0 (Kd.C (Kd.int .u8) w8 A8 long (padTo l1 long)) := ⟨by have h1 := HR8.out; rw [HM1.out] at h1; have h2 := (Kd.R_reads' h1).2.2; rw [HM1.out] at h2; exact h2⟩
    have HBW : Aside0 (Below w.heap.size w w8) := ⟨HB6.out.trans (HB8.out.mono HB6.out.size)⟩
    have HKP8 := Aside0.mk (KP1.out w8 HB8.out)
    rw [HM1.out]
    obtain ⟨i5, hi5, _⟩ := info_parts info5
    have hc6 : long ≤ c6 := HRD.out.2.1
    have hcut7 : ∀ W : World, (Instr.slice 27 (.slice A6 long c6) none (some (.int .i64 (nn : Int))) none).run Try.prog W = .ok (.slice A6 nn c6) W := fun W => by
      have := cut_to (P := Try.prog) 27 5 .i64 Try.underlying27 hi5 A6 long c6 (nn : Int) (by omega) (by omega) hc6 W
      rwa [Int.toNat_natCast] at this
    have hcut8 : ∀ W : World, (Instr.slice 27 (.slice A6 long c6) none (some (.int .i64 (l1.length : Int))) none).run Try.prog W = .ok (.slice A6 l1.length c6) W := fun W => by
      have := cut_to (P := Try.prog) 27 5 .i64 Try.underlying27 hi5 A6 long c6 (l1.length : Int) (by omega) (by omega) hc6 W
      rwa [Int.toNat_natCast] at this
    clear HR6 HR8 HB8 HB6 HB7 HR7 HL1 HP1 HD1 w6a w6b H62c H62b HB66 hi5 HF2
    obtain ⟨B0, hB0⟩ : ∃ B0, B0 = padTo l0 long := ⟨_, rfl⟩
    obtain ⟨S0, hS0⟩ : ∃ S0, S0 = padTo l1 long := ⟨_, rfl⟩
    have HB0 := Aside0.mk hB0
    have HS0 := Aside0.mk hS0
    rw [← hB0] at HR6n HLN
    rw [← hS0] at HR8n
    clear hB0 hS0
    apply_assumption
    go_wp2_with (first
      | (refine R_copy_cut (enc := Value.int .u8) (d := (0 : Int)) (w0 := w) w.heap.size rfl (.tmp 64) (.tmp 65) 27 27 5 rfl Try.underlying27 (by kernel_rfl) A6 c6 nn B0 S0 A8 long c8 (fun _ => True) rfl ?cN rfl ?cO HR8n.out HBW.out HBW.out.size ?_;
         (case cN => rw [HLN.out]; exact hnl);
         (case cO => rw [HLN.out]; exact HR6n.out);
         intro w9 ho hb hg; have HR9 := Aside0.mk ho; have HB9 := Aside0.mk hb; have k1 := (KP.out _ (HBL.out _ hb)).2; clear ho hb hg))
    have e1 : min long nn = nn := Nat.min_eq_right hnl
    have e2 : (S0.take nn ++ B0.drop nn).take l1.length = tornV l0 l1 nn := by unfold tornV; rw [← HLONG.out, ← HS0.out, ← HB0.out]
    have h9 := HR9.out
    rw [e1, HLN.out] at h9
    have hlen : l1.length ≤ (S0.take nn ++ B0.drop nn).length := by
      have := HM1.out
      rw [← HS0.out] at this
      rw [List.length_append, List.length_take, List.length_drop, HLN.out, this]
      omega
    have h10 := Kd.R_take (m := l1.length) h9 hlen
    rw [e2] at h10
    go_ret
    exact ⟨_, rfl, nn, by rw [← HLONG.out]; exact hnl, h10, HB9.out⟩
end Go.Proofs.Ytoonepmnlgfikaa.D
