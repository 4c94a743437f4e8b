/- Disk (merged). -/
import Derived.Test.YtoonepmnlgfikaaWMore
import Derived.Test.YtoonepmnlgfikaaDW
import Derived.Test.YtoonepmnlgfikaaDx35
import Derived.Test.YtoonepmnlgfikaaDx36
import Derived.StillTailTactics
import Derived.Deep.RegionHeld3
import Derived.Maps.OwnSet
/-! DCopy -/
namespace Go.Proofs.Ytoonepmnlgfikaa.D
open Go.RowKit Go.Proofs.YtoonepmnlgfikaaW.PrintWords Go.Proofs.YtoonepmnlgfikaaW.PrintLast Go.Proofs.YtoonepmnlgfikaaW.PrintMore
open Go.Proofs.YtoonepmnlgfikaaW.PrintWords.Kd
set_option linter.unusedVariables false
set_option linter.unusedSimpArgs false
theorem R_copy_cut {P : Program} {ops : Array Oper} {rest : List Oper} {o : Oper} {a : Act} {Q : Exit → Act → World → Prop} {α : Type} {W : World} {enc : α → Value} {h1 : ∀ x, (enc x).oneCell' = true} (d : α) {w0 : World} (base : Nat) (hgd : o.guard = none) (s x : Operand) (t t' e : TypeId)
    (ho : o.op = .call { callee := .builtin .copy, args := #[s, x], argTypes := #[t, t'] }) (ht : P.underlying t = some (.slice e)) (hinfo : (P.info? e).map (·.size) = some 1)
    (Ad : Option Addr) (cd nd : Nat) (xs ys : List α) (A : Option Addr) (m c : Nat) (ok : Nat → Prop) (hs : a.eval s = .slice Ad nd cd) (hnd : nd ≤ xs.length) (hx : a.eval x = .slice A m c)
    (HO : (scalar enc h1).R e W base ok (.slice Ad xs.length cd) xs) (HR : (scalar enc h1).C W A m ys) (HB : Below base w0 W) (hbase : base ≤ W.heap.size)
    (h : ∀ w1, (scalar enc h1).R e w1 base ok (.slice Ad xs.length cd) (ys.take (min m nd) ++ xs.drop (min m nd)) → Below base w0 w1 → W.grownBy w1 (Value.slice Ad xs.length cd).ownBlock → wpList P ops Q rest (a.put o.dst (.int .i64 ((min m nd : Nat) : Int))) w1) :
    wpList P ops Q (o :: rest) a W := by
  have hR := reads_of_C (enc := enc) (d := d) (h1 := h1) HR
  have hm : ys.length = m := hR.1
  have hown := own_of_R HO
  have fin : ∀ w1, (Builtin.copy_ #[t, t'] o.type #[.slice Ad nd cd, .slice A m c]).run P W = .ok (goInt ((min m nd : Nat) : Int)) w1 → (scalar enc h1).R e w1 base ok (.slice Ad xs.length cd) (ys.take (min m nd) ++ xs.drop (min m nd)) → W.grownBy w1 (Value.slice Ad xs.length cd).ownBlock → wpList P ops Q (o :: rest) a W := by
    intro w1 hr hrow hg
    refine wpList_plain hgd fun K hK => ?_
    unfold Oper.wp execOp
    simp only [ho, resolve, invoke, builtin, Sem.run_bind, Sem.run_pure, Result.andThen_ok, List.map_toArray, List.map_cons, List.map_nil, hs, hx, hr]
    exact hK _ _ (h w1 hrow (HB.grown hg hbase (own_base hown)) hg)
  rcases Nat.eq_zero_or_pos (min m nd) with h0 | hp
  · refine fin W ?_ (by rw [h0, List.take_zero, List.drop_zero, List.nil_append]; exact HO) (World.grownBy.refl W _)
    rw [h0]
    exact run_copy_none W t t' o.type e Ad A nd cd m c ht hinfo h0
  · obtain ⟨ad, hA, hc⟩ := hR.2.2 (by omega)
    rcases hown.2 with ⟨_, hx0⟩ | ⟨g, cap, cur, hv, hb, hh, hnc, hcm, hcs, htake⟩
    · omega
    have hcs1 : cur.size = cap := by omega
    simp only [Value.slice.injEq] at hv
    obtain ⟨hAd, _, hcd⟩ := hv
    have hsrc : ∀ j u, (encs enc (ys.take (min m nd)))[j]? = some u → W.cell? (ad.add j) = some u := by
      intro j u hu
      have hj : j < (ys.take (min m nd)).length := by
        rcases Nat.lt_or_ge j (ys.take (min m nd)).length with h | h
        · exact h
        · rw [List.getElem?_eq_none (by rw [encs_length]; exact h)] at hu
          cases hu
      have hjm : j < min m nd := by rw [List.length_take] at hj; omega
      rw [encs_get (d := d) _ j hj] at hu
      rw [hc j (by omega), ← hu]
      simp [List.getD_eq_getElem?_getD, hjm]
    have hkl : (encs enc (ys.take (min m nd))).length = min m nd := by rw [encs_length, List.length_take]; omega
    have hr := run_copy_cells (P := P) W t t' o.type e g 0 nd cap ad m c (encs enc (ys.take (min m nd))) ht hinfo (by rw [hkl]) hsrc
      (fun j hj => by rw [cell_of_row W g _ cur e (0, 0) hh]; simp; omega) (fun j _ => blk_frozen hh _) (by intro u hu; simp only [encs, List.mem_map] at hu; obtain ⟨q, _, rfl⟩ := hu; exact h1 q)
    obtain ⟨cur', h3, h4, h5⟩ := setCells_row (encs enc (ys.take (min m nd))) 0 W cur hh (by rw [hkl]; omega)
    obtain ⟨s1, s2, s3, s4⟩ := setCells_same g (encs enc (ys.take (min m nd))) 0 W
    subst hAd; subst hcd
    have hln : (ys.take (min m nd) ++ xs.drop (min m nd)).length = xs.length := by
      rw [List.length_append, List.length_take, List.length_drop]
      omega
    refine fin _ (by rw [hA, hr, hkl]) (R_of_own ?_ HO.1) ⟨s1, s2, s3, by rw [s4]; exact Nat.le_refl _, fun k _ hk => setCells_far _ _ k (fun he => hk (by rw [he]; simp [Value.ownBlock]))⟩
    rw [hln]
    refine ⟨by rw [encs_length, hln, Nat.mul_one], .inr ⟨g, cd, cur', rfl, hb, h3, hnc, hcm, by rw [h4, hcs], ?_⟩⟩
    rw [h5, List.take_zero, List.nil_append, hkl, Nat.zero_add, encs_append, Nat.mul_one]
    rw [List.take_append, hkl, List.take_of_length_le (by rw [hkl]; omega)]
    congr 1
    have htk : cur.toList.take xs.length = encs enc xs := by rw [← htake, Nat.mul_one]
    have hd : encs enc (xs.drop (min m nd)) = (encs enc xs).drop (min m nd) := by simp [encs, List.map_drop]
    rw [hd, ← htk, List.drop_take]
end Go.Proofs.Ytoonepmnlgfikaa.D
/-! DTorn -/
namespace Go.Proofs.Ytoonepmnlgfikaa.D
open Go.RowKit Go.Proofs.YtoonepmnlgfikaaW.PrintWords Go.Proofs.YtoonepmnlgfikaaW.PrintLast Go.Proofs.YtoonepmnlgfikaaW.PrintMore Go.Proofs.Ytoonepmnlgfikaa.Base
set_option linter.unusedVariables false
set_option linter.unusedSimpArgs false
attribute [local go_sem] max2_int min2_int max_two min_two max_three min_three max_four min_four
set_option maxRecDepth 100000 in
set_option maxHeartbeats 1600000 in
theorem clone62 (l : List Int) (A : Option Addr) (c : Nat) (hl : l.length ≤ 140737488355328) (w : World) (hC : Kd.C (Kd.int .u8) w A l.length l) :
    Calls Try.prog 62 #[.slice A l.length c] w fun e w' => ∃ v, e = .returned v ∧ Kd.R (Kd.int .u8) 5 w' w.heap.size (fun _ => True) v l ∧ Below w.heap.size w w' := by
  have HC := Aside0.mk hC
  rcases A with _ | ad
  · have h0 : l = [] := by
      rcases Nat.eq_zero_or_pos l.length with h0 | h0
      · exact List.eq_nil_of_length_eq_zero h0
      · obtain ⟨ad, h, _⟩ := hC.2.2 h0
        cases h
    subst h0
    have heq := fun (w : World) => Go.Lib.run_eql_slice_nil (P := Try.prog) w 27 5 none 0 c 0 0 Try.underlying27
    clear hC HC
    go_enter Try.func62, Try.ntmps62
    go_wp2_with fail
    go_ret
    exact ⟨_, rfl, Kd.R_nil _ _ _ _ _, Below.refl _ _⟩
  · have heq := fun (w : World) => Go.Lib.run_eql_slice_nil (P := Try.prog) w 27 5 (some ad) l.length c 0 0 Try.underlying27
    clear hC
    go_enter Try.func62, Try.ntmps62
    go_wp2_with (first
      | ((with_reducible refine gate_dst (N := 5) rfl ?_); refine Kd.R_lit (Kd.int .u8) _ 5 ?hg (N := 5) ?hd (xs := ([] : List Int)) (inner := []) (ok := fun _ => True) (okp := fun _ => True) ?hr ?hp (fun _ hk => hk) trivial (Below.refl _ _) (Nat.le_refl _) (by simp) ?_; (case hd => rfl); (case hg => rfl); (case hr => first | (go_simp; done) | (go_simp; rfl)); (case hp => exact Reps.none _ _); intro v5 w5 ho5 hb5 hg_ hnew_; clear hg_ hnew_; have HO5 := Aside0.mk ho5; have HB5 := Aside0.mk hb5; clear ho5 hb5)
      | ((with_reducible refine gate_builtin (b := .append) (xs := #[.tmp 5, .tmp 6]) rfl ?_); at_builtin; refine Kd.R_append_rows (Kd.int .u8) (w0 := w) w.heap.size rfl (.tmp 5) (.tmp 6) 27 5 (.int .u8 0) 1 rfl Try.underlying27 info5 rfl (by decide) (by omega) v5 [] l _ _ _ (fun _ => True) (fun _ => False) rfl rfl HO5.out (Kd.C_below HC.out HB5.out) (fun _ _ h => h) (fun _ h => h.elim) (fun _ _ => trivial) HB5.out HB5.out.size (by simp; omega) ?_; intro v7 w7 ho7 hb7 hg7 hat7; have HO7 := Aside0.mk ho7; have HB7 := Aside0.mk hb7; clear ho7 hb7 hg7 hat7))
    go_ret
    exact ⟨_, rfl, HO7.out, HB7.out⟩
theorem C_two {W : World} {q : Nat} {A0 A1 : Option Addr} {c0 c1 : Nat} {l0 l1 : List Int} (hq : W.heap[q]? = some (.cells #[.slice A0 l0.length c0, .slice A1 l1.length c1] 27 (0, 0))) (h0 : Kd.C (Kd.int .u8) W A0 l0.length l0) (h1 : Kd.C (Kd.int .u8) W A1 l1.length l1) (hc0 : l0.length ≤ c0) (hc1 : l1.length ≤ c1) :
    Kd.C (Kd.slice 5 (Kd.int .u8)) W (some ⟨q, 0, none⟩) 2 [l0, l1] := by
  refine ⟨rfl, by decide, fun _ => ⟨_, rfl, fun j p hj => ?_⟩⟩
  match j, hj with
  | 0, hj =>
    obtain rfl := Option.some.inj hj
    exact ⟨[.slice A0 l0.length c0], rfl, ⟨A0, c0, rfl, hc0, h0⟩, fun i v hv => by
      match i, hv with
      | 0, hv => obtain rfl := Option.some.inj hv; exact (blk_cell hq 0).trans rfl⟩
  | 1, hj =>
    obtain rfl := Option.some.inj hj
    exact ⟨[.slice A1 l1.length c1], rfl, ⟨A1, c1, rfl, hc1, h1⟩, fun i v hv => by
      match i, hv with
      | 0, hv => obtain rfl := Option.some.inj hv; exact (blk_cell hq 1).trans rfl⟩
theorem longest_two (l0 l1 : List Int) : disk_longest.f 5 [l0, l1] = some ((max l0.length l1.length : Nat) : Int) := by
  have e1 : wrap64 ((0 : Int) + 1) = 1 := by rw [wrap64_in _ (by omega) (by omega)]; rfl
  have e2 : wrap64 ((1 : Int) + 1) = 2 := by rw [wrap64_in _ (by omega) (by omega)]; rfl
  have r0 : rd_L2 [l0, l1] 0 = l0 := rfl
  have r1 : rd_L2 [l0, l1] 1 = l1 := rfl
  have m1 : mx (mx 0 (l0.length : Int)) (l1.length : Int) = ((max l0.length l1.length : Nat) : Int) := by
    unfold mx
    split <;> split <;> omega
  show disk_longest.l0 5 0 [l0, l1] 2 0 = _
  rw [disk_longest.l0, if_pos (by decide), if_pos (by decide), if_pos (show (0 : Int) < (([l0, l1] : List (List Int)).length : Int) by show (0 : Int) < 2; decide), e1, r0]
  rw [disk_longest.l0, if_pos (by decide), if_pos (by decide), if_pos (show (1 : Int) < (([l0, l1] : List (List Int)).length : Int) by show (1 : Int) < 2; decide), e2, r1]
  rw [disk_longest.l0, if_neg (by decide), m1]
theorem modulo_is (a : Int) (n : Nat) (h : 0 < n) (hn : n ≤ 1000000000) : ∃ (m : Nat) (t : Int), (m : Int) = a % (n : Int) ∧ m < n ∧ disk_Modulo.f a (n : Int) = some ((m : Int), t) := by
  have h0 : 0 ≤ a % (n : Int) := Int.emod_nonneg _ (by omega)
  have h1 : a % (n : Int) < (n : Int) := Int.emod_lt_of_pos _ (by omega)
  unfold disk_Modulo.f
  rw [if_neg (by omega)]
  have hb1 : Int.tmod a (n : Int) < (n : Int) := Int.tmod_lt_of_pos _ (by omega)
  have hb2 : -(n : Int) < Int.tmod a (n : Int) := Int.lt_tmod_of_pos _ (by omega)
  by_cases hc : Int.tmod a (n : Int) < 0
  · have e : Int.tmod a (n : Int) + (n : Int) = a % (n : Int) := by
      rw [Int.emod_eq_tmod, if_neg (fun hx => by
        rcases hx with hx | hx
        · have := Int.tmod_nonneg (n : Int) hx; omega
        · have := Int.tmod_eq_zero_of_dvd hx; omega)]
      omega
    rw [if_pos hc, wrap64_in _ (by omega) (by omega), e]
    exact ⟨(a % (n : Int)).toNat, _, by omega, by omega, by rw [Int.toNat_of_nonneg h0]⟩
  · have e : Int.tmod a (n : Int) = a % (n : Int) := by
      rw [Int.emod_eq_tmod]
      split
      · omega
      · rename_i hx
        have hx1 : a < 0 := by omega
        have hx2 : ¬ (n : Int) ∣ a := fun hd => hx (.inr hd)
        exfalso
        have h3 : Int.tmod a (n : Int) ≤ 0 := by
          have h4 : Int.tmod (-a) (n : Int) = - Int.tmod a (n : Int) := Int.neg_tmod ..
          have := Int.tmod_nonneg (n : Int) (show 0 ≤ -a by omega)
          omega
        exact hx2 (Int.dvd_of_tmod_eq_zero (by omega))
    rw [if_neg hc, e]
    exact ⟨(a % (n : Int)).toNat, _, by omega, by omega, by rw [Int.toNat_of_nonneg h0]⟩
/-- What is known of the file's block. -/
structure FileAt (w : World) (f : Nat) (u v : Value) (W : World) : Prop where
  mk :: (at_ : W.heap[f]? = some (.cells #[u, v] 82 (0, 0))) (below : Below w.heap.size w W)
theorem FileAt.drewN {w W : World} {f : Nat} {u v : Value} (h : FileAt w f u v W) (n : Nat) : FileAt w f u v (W.drewN n) := ⟨blk_drewN h.at_ n, pw_below_drewN h.below n⟩
theorem FileAt.drew {w W : World} {f : Nat} {u v : Value} (h : FileAt w f u v W) : FileAt w f u v W.drew := ⟨blk_drew h.at_, below_drew1 h.below⟩
theorem FileAt.step {w W W' : World} {f : Nat} {u v : Value} (h : FileAt w f u v W) (hb : Below W.heap.size W W') : FileAt w f u v W' := ⟨blk_below h.at_ hb, below_step h.below hb⟩
theorem FileAt.alloc {w W : World} {f : Nat} {u v : Value} (h : FileAt w f u v W) (o : Obj) : FileAt w f u v (W.alloc o) := ⟨blk_alloc h.at_ o, below_alloc h.below o⟩
/-- l, and zeros behind it up to n. -/
def padTo (l : List Int) (n : Nat) : List Int := l ++ List.replicate (n - l.length) 0
theorem padTo_len {l : List Int} {n : Nat} (h : l.length ≤ n) : (padTo l n).length = n := by
  unfold padTo
  rw [List.length_append, List.length_replicate]
  omega
/-- What a torn file holds: the first nn bytes are new. -/
def tornV (l0 l1 : List Int) (nn : Nat) : List Int := ((padTo l1 (max l0.length l1.length)).take nn ++ (padTo l0 (max l0.length l1.length)).drop nn).take l1.length
set_option maxRecDepth 100000 in
set_option maxHeartbeats 1600000 in
theorem torn_calls (f : Nat) (A0 : Option Addr) (c0 : Nat) (l0 : List Int) (A1 : Option Addr) (c1 : Nat) (l1 : List Int) (times : Int) (w : World) (hf : w.heap[f]? = some (.cells #[.slice A0 l0.length c0, .slice A1 l1.length c1] 82 (0, 0)))
    (hC0 : Kd.C (Kd.int .u8) w A0 l0.length l0) (hc0 : l0.length ≤ c0) (hC1 : Kd.C (Kd.int .u8) w A1 l1.length l1) (hc1 : l1.length ≤ c1) (hl0 : l0.length ≤ 2000000) (hl1 : l1.length ≤ 2000000) :
    Calls Try.prog 44 #[.pointer (some ⟨f, 0, none⟩), .int .i64 times] w fun e w' => ∃ v, e = .returned v ∧ ∃ nn, nn ≤ max l0.length l1.length ∧ Kd.R (Kd.int .u8) 5 w' w.heap.size (fun _ => True) v (tornV l0 l1 nn) ∧ Below w.heap.size w w' := by
  have hu82 := Try.underlying82
  obtain ⟨long, hlong⟩ : ∃ long : Nat, long = max l0.length l1.length := ⟨_, rfl⟩
  have HLONG := Aside0.mk hlong
  obtain ⟨m, t, hm, hmk, hmod⟩ := modulo_is times ((long + 31) / 32 + 1) (by omega) (by omega)
  have H43 : Aside0 (∀ W, Calls Try.prog 43 #[.int .i64 times, .int .i64 (((long : Int) + 32 - 1) / 32 + 1)] W fun e w' => e = .returned (.tuple #[.int .i64 (m : Int), .int .i64 t]) ∧ ∃ n, w' = W.drewN n) := ⟨fun W => by
    rw [show ((long : Int) + 32 - 1) / 32 + 1 = (((long + 31) / 32 + 1 : Nat) : Int) by omega]
    exact (disk_Modulo.calls times _ _ _ W hmod).mono (fun e w' h => ⟨h.1, h.2.out⟩)⟩
  have HM := Aside0.mk hm
  have HMK := Aside0.mk hmk
  clear hm hmk hmod
  have HF : Aside0 (FileAt w f (.slice A0 l0.length c0) (.slice A1 l1.length c1) w) := ⟨⟨hf, Below.refl _ _⟩⟩
  have H61 : Aside0 (∀ W q, W.heap[q]? = some (.cells #[.slice A0 l0.length c0, .slice A1 l1.length c1] 27 (0, 0)) → Below w.heap.size w W → Calls Try.prog 61 #[.slice (some ⟨q, 0, none⟩) 2 2] W fun e w' => e = .returned (.int .i64 ((max l0.length l1.length : Nat) : Int)) ∧ Below W.heap.size W w') := ⟨fun W q hq hb =>
    disk_longest.calls 5 (some ⟨q, 0, none⟩) 2 [l0, l1] _ W (C_two hq (Kd.C_below hC0 hb) (Kd.C_below hC1 hb) hc0 hc1) (Nat.le_refl _) (longest_two l0 l1)⟩
  have HBL : Aside0 (∀ W, Below w.heap.size w W → FileAt w f (.slice A0 l0.length c0) (.slice A1 l1.length c1) W) := ⟨fun W hb => ⟨(hb.block f (blk_lt hf)).trans hf, hb⟩⟩
  have H62 : Aside0 (∀ W, FileAt w f (.slice A0 l0.length c0) (.slice A1 l1.length c1) W → Calls Try.prog 62 #[.slice A0 l0.length c0] W fun e w' => ∃ v, e = .returned v ∧ Kd.R (Kd.int .u8) 5 w' w.heap.size (fun _ => True) v l0 ∧ FileAt w f (.slice A0 l0.length c0) (.slice A1 l1.length c1) w') := ⟨fun W hi => by
    refine (clone62 l0 A0 c0 (by omega) W (Kd.C_below hC0 hi.below)).mono ?_
    rintro e w' ⟨v, rfl, hr, hb⟩
    exact ⟨v, rfl, Kd.R_lower hr hi.below.size, hi.step hb⟩⟩
  have H62b : Aside0 (∀ W, FileAt w f (.slice A0 l0.length c0) (.slice A1 l1.length c1) W → Calls Try.prog 62 #[.slice A1 l1.length c1] W fun e w' => ∃ v, e = .returned v ∧ Kd.R (Kd.int .u8) 5 w' W.heap.size (fun _ => True) v l1 ∧ FileAt w f (.slice A0 l0.length c0) (.slice A1 l1.length c1) w' ∧ Below W.heap.size W w') := ⟨fun W hi => by
    refine (clone62 l1 A1 c1 (by omega) W (Kd.C_below hC1 hi.below)).mono ?_
    rintro e w' ⟨v, rfl, hr, hb⟩
    exact ⟨v, rfl, hr, hi.step hb, hb⟩⟩
  have KP : Aside0 (∀ W, FileAt w f (.slice A0 l0.length c0) (.slice A1 l1.length c1) W → W.cell? ⟨f, 0, none⟩ = some (.slice A0 l0.length c0) ∧ W.cell? ⟨f, 1, none⟩ = some (.slice A1 l1.length c1)) := ⟨fun W hi => ⟨(blk_cell hi.at_ 0).trans rfl, (blk_cell hi.at_ 1).trans rfl⟩⟩
  have k0 : w.cell? ⟨f, 0, none⟩ = some (.slice A0 l0.length c0) := (blk_cell hf 0).trans rfl
  have k1 : w.cell? ⟨f, 1, none⟩ = some (.slice A1 l1.length c1) := (blk_cell hf 1).trans rfl
  have HC0 := Aside0.mk hC0
  have HC1 := Aside0.mk hC1
  rw [← hlong] at H61
  have hb0 : l0.length ≤ long := by omega
  have hb1 : l1.length ≤ long := by omega
  have hb2 : long ≤ 2000000 := by omega
  obtain ⟨nn, hnn⟩ : ∃ nn : Nat, nn = min (m * 32) long := ⟨_, rfl⟩
  have hmn : mn (wrap64 ((m : Int) * 32)) (long : Int) = (nn : Int) := by
    have := HMK.out
    rw [wrap64_in _ (by omega) (by omega)]
    unfold mn
    split <;> omega
  have hnl : nn ≤ long := by omega
  have HNN := Aside0.mk hnn
  clear hf hC0 hC1 hlong hl0 hl1 hnn
  go_enter Try.func44, Try.ntmps44
  go_wp2_with fail
  go_still_tail 8, (by kernel_rfl)
  change wpList _ _ _ _ _ w.drew
  obtain ⟨w1, hw1⟩ : ∃ w1, w1 = w.drew := ⟨_, rfl⟩
  rw [← hw1]
  have HF1 : Aside0 (FileAt w f (.slice A0 l0.length c0) (.slice A1 l1.length c1) w1) := ⟨by rw [hw1]; exact HF.out.drew⟩
  clear k0 k1 hw1 HF
  have E1 : Aside0 (wrap64 ((m : Int) * 32) = ((m * 32 : Nat) : Int)) := ⟨by have := HMK.out; rw [wrap64_in _ (by omega) (by omega)]; omega⟩
  clear hmn
  go_upto_region 4 with (first
    | (go_at_call 61; refine (H61.out _ _ (blk_new _ _) (HF1.out.alloc _).below).mono ?_; rintro e w2 ⟨rfl, hb2⟩; have HF2 := Aside0.mk ((HF1.out.alloc _).step hb2); clear hb2)
    | (go_at_call 43; refine (H43.out _).mono ?_; rintro e w3 ⟨rfl, ⟨n3, rfl⟩⟩))
  go_cut [7] (fun v7 wc => v7 = .int .i64 (nn : Int) ∧ Aside0 (FileAt w f (.slice A0 l0.length c0) (.slice A1 l1.length c1) wc))
  case first =>
    go_wp2_with fail
    all_goals go_meet
    all_goals (case rel => exact ⟨by first | (have := E1.out; have := HNN.out; congr 1; omega) | (have h1 := E1.out; have := HNN.out; rename_i h2; rw [h1] at h2; congr 1; omega), ⟨HF2.out.drewN _⟩⟩)
  case rest =>
    obtain ⟨rfl, HF3⟩ := hcut
    go_wp2_with fail
    have HL0 : Aside0 (((l0.length : Nat) + ((long : Int) - (l0.length : Int)).toNat) * 1 ≤ 140737488355328) := ⟨by omega⟩
    have HP0 : Aside0 (l0 ++ List.replicate ((long : Int) - (l0.length : Int)).toNat 0 = padTo l0 long) := ⟨by unfold padTo; rw [show ((long : Int) - (l0.length : Int)).toNat = long - l0.length by omega]⟩
    have HD0 : Aside0 (0 ≤ (long : Int) - (l0.length : Int)) := ⟨by omega⟩
    have w5a : wrap64 ((long : Int) - (l0.length : Int)) = (long : Int) - (l0.length : Int) := wrap64_in _ (by omega) (by omega)
    have w5b : IntKind.i64.wrap ((long : Int) - (l0.length : Int)) = (long : Int) - (l0.length : Int) := (i64_w _).trans w5a
    go_region_held3 (fun w' => w'.cell? ⟨f, 0, none⟩ = some (.slice A0 l0.length c0))
      (first | exact (KP.out _ (by repeat (first | exact (Aside0.out ‹Aside0 (FileAt w f (.slice A0 l0.length c0) (.slice A1 l1.length c1) _)›) | apply FileAt.drewN | apply FileAt.drew))).1)
      (first
        | (go_at_call 62; refine (H62.out _ (by repeat (first | exact (Aside0.out ‹Aside0 (FileAt w f (.slice A0 l0.length c0) (.slice A1 l1.length c1) _)›) | apply FileAt.drewN | apply FileAt.drew))).mono ?_; rintro e w5 ⟨v5, rfl, hr, hi⟩; have HR5 := Aside0.mk hr; have HF5 := Aside0.mk hi; clear hr hi)
        | ((fail_if_success go_at_call 62); refine Kd.R_append_zeros_step (Kd.int .u8) (w0 := w) w.heap.size rfl (.tmp 40) (.tmp 47) 27 3 5 (.int .u8 0) 1 rfl Try.underlying27 Try.underlying3 info5 rfl (by decide) (by decide) v5 l0 0 ((long : Int) - (l0.length : Int)) (fun _ => True) rfl rfl ?aZ (fun _ _ => trivial) ?aO HD0.out ?aB ?aS HL0.out ?_;
           (case aZ => rfl);
           (case aO => ((with_reducible repeat (first | apply Kd.R_alloc | apply Kd.R_drewN | apply Kd.R_drew)); exact HR5.out));
           (case aB => exact (FileAt.below (by repeat (first | exact (Aside0.out ‹Aside0 (FileAt w f (.slice A0 l0.length c0) (.slice A1 l1.length c1) _)›) | apply FileAt.drewN | apply FileAt.drew))));
           (case aS => exact (FileAt.below (by repeat (first | exact (Aside0.out ‹Aside0 (FileAt w f (.slice A0 l0.length c0) (.slice A1 l1.length c1) _)›) | apply FileAt.drewN | apply FileAt.drew))).size);
           intro v6 w6 ho hb hg hat; rw [HP0.out] at ho; have HR6 := Aside0.mk ho; have HF6 := Aside0.mk (HBL.out _ hb); have HB6 := Aside0.mk hb; have HG6 := Aside0.mk hg; have HA6 := Aside0.mk hat; clear ho hb hg hat))
    go_wp2_with fail
    have hln : (padTo l0 long).length = long := padTo_len hb0
    obtain ⟨A6, c6, rfl⟩ := Kd.R_slice HR6.out
    rw [hln] at HR6 ⊢
    have HRD := Aside0.mk (Kd.R_reads' HR6.out)
    have HLN := Aside0.mk hln
    clear hln
    have H62c : Aside0 (∀ W, Below w6.heap.size w6 W → Calls Try.prog 62 #[.slice A1 l1.length c1] W fun e w' => ∃ v, e = .returned v ∧ Kd.R (Kd.int .u8) 5 w' w6.heap.size (fun _ => True) v l1 ∧ Below w6.heap.size w6 w') := ⟨fun W hb => by
      refine (H62b.out W (HBL.out _ (HB6.out.trans (hb.mono HB6.out.size)))).mono ?_
      rintro e w' ⟨v, rfl, hr, hi, hb'⟩
      exact ⟨v, rfl, Kd.R_lower hr hb.size, below_step hb hb'⟩⟩
    have KP1 : Aside0 (∀ W, Below w6.heap.size w6 W → W.cell? ⟨f, 1, none⟩ = some (.slice A1 l1.length c1)) := ⟨fun W hb => (KP.out _ (HBL.out _ (HB6.out.trans (hb.mono HB6.out.size)))).2⟩
    have HL1 : Aside0 (((l1.length : Nat) + ((long : Int) - (l1.length : Int)).toNat) * 1 ≤ 140737488355328) := ⟨by omega⟩
    have HP1 : Aside0 (l1 ++ List.replicate ((long : Int) - (l1.length : Int)).toNat 0 = padTo l1 long) := ⟨by unfold padTo; rw [show ((long : Int) - (l1.length : Int)).toNat = long - l1.length by omega]⟩
    have HD1 : Aside0 (0 ≤ (long : Int) - (l1.length : Int)) := ⟨by omega⟩
    have w6a : wrap64 ((long : Int) - (l1.length : Int)) = (long : Int) - (l1.length : Int) := wrap64_in _ (by omega) (by omega)
    have w6b : IntKind.i64.wrap ((long : Int) - (l1.length : Int)) = (long : Int) - (l1.length : Int) := (i64_w _).trans w6a
    have HM1 : Aside0 ((padTo l1 long).length = long) := ⟨padTo_len hb1⟩
    have HB66 : Aside0 (Below w6.heap.size w6 w6) := ⟨Below.refl _ _⟩
    clear HF1 HF3 HR5 HF5 HF6 HG6 HA6 HL0 HP0 HD0 w5a w5b H62 H61 H43
    go_region_held3 (fun w' => w'.cell? ⟨f, 1, none⟩ = some (.slice A1 l1.length c1))
      (first | exact KP1.out _ (by repeat (first | exact Below.refl _ _ | exact (Aside0.out ‹Aside0 (Below w6.heap.size w6 _)›) | apply pw_below_drewN | apply below_drew1)))
      (first
        | (go_at_call 62; refine (H62c.out _ (by repeat (first | exact Below.refl _ _ | exact (Aside0.out ‹Aside0 (Below w6.heap.size w6 _)›) | apply pw_below_drewN | apply below_drew1))).mono ?_; rintro e w7 ⟨v7, rfl, hr, hi⟩; have HR7 := Aside0.mk hr; have HB7 := Aside0.mk hi; clear hr hi)
        | ((fail_if_success go_at_call 62); refine Kd.R_append_zeros_step (Kd.int .u8) (w0 := w6) w6.heap.size rfl (.tmp 53) (.tmp 60) 27 3 5 (.int .u8 0) 1 rfl Try.underlying27 Try.underlying3 info5 rfl (by decide) (by decide) v7 l1 0 ((long : Int) - (l1.length : Int)) (fun _ => True) rfl rfl ?aZ (fun _ _ => trivial) ?aO HD1.out ?aB ?aS HL1.out ?_;
           (case aZ => rfl);
           (case aO => ((with_reducible repeat (first | apply Kd.R_alloc | apply Kd.R_drewN | apply Kd.R_drew)); exact HR7.out));
           (case aB => exact (by repeat (first | exact Below.refl _ _ | exact (Aside0.out ‹Aside0 (Below w6.heap.size w6 _)›) | apply pw_below_drewN | apply below_drew1)));
           (case aS => exact (show Below w6.heap.size w6 _ from (by repeat (first | exact Below.refl _ _ | exact (Aside0.out ‹Aside0 (Below w6.heap.size w6 _)›) | apply pw_below_drewN | apply below_drew1))).size);
           intro v8 w8 ho hb hg hat; rw [HP1.out] at ho; have HR8 := Aside0.mk ho; have HB8 := Aside0.mk hb; clear ho hb hg hat))
    have HR6n : Aside0 (Kd.R (Kd.int .u8) 5 w8 w.heap.size (fun _ => True) (.slice A6 long c6) (padTo l0 long)) := ⟨Kd.R_below HR6.out HB8.out⟩
    obtain ⟨A8, c8, rfl⟩ := Kd.R_slice HR8.out
    have HR8n : Aside0 (Kd.C (Kd.int .u8) w8 A8 long (padTo l1 long)) := ⟨by have h1 := HR8.out; rw [HM1.out] at h1; have h2 := (Kd.R_reads' h1).2.2; rw [HM1.out] at h2; exact h2⟩
    have HBW : Aside0 (Below w.heap.size w w8) := ⟨HB6.out.trans (HB8.out.mono HB6.out.size)⟩
    have HKP8 := Aside0.mk (KP1.out w8 HB8.out)
    rw [HM1.out]
    obtain ⟨i5, hi5, _⟩ := info_parts info5
    have hc6 : long ≤ c6 := HRD.out.2.1
    have hcut7 : ∀ W : World, (Instr.slice 27 (.slice A6 long c6) none (some (.int .i64 (nn : Int))) none).run Try.prog W = .ok (.slice A6 nn c6) W := fun W => by
      have := cut_to (P := Try.prog) 27 5 .i64 Try.underlying27 hi5 A6 long c6 (nn : Int) (by omega) (by omega) hc6 W
      rwa [Int.toNat_natCast] at this
    have hcut8 : ∀ W : World, (Instr.slice 27 (.slice A6 long c6) none (some (.int .i64 (l1.length : Int))) none).run Try.prog W = .ok (.slice A6 l1.length c6) W := fun W => by
      have := cut_to (P := Try.prog) 27 5 .i64 Try.underlying27 hi5 A6 long c6 (l1.length : Int) (by omega) (by omega) hc6 W
      rwa [Int.toNat_natCast] at this
    clear HR6 HR8 HB8 HB6 HB7 HR7 HL1 HP1 HD1 w6a w6b H62c H62b HB66 hi5 HF2
    obtain ⟨B0, hB0⟩ : ∃ B0, B0 = padTo l0 long := ⟨_, rfl⟩
    obtain ⟨S0, hS0⟩ : ∃ S0, S0 = padTo l1 long := ⟨_, rfl⟩
    have HB0 := Aside0.mk hB0
    have HS0 := Aside0.mk hS0
    rw [← hB0] at HR6n HLN
    rw [← hS0] at HR8n
    clear hB0 hS0
    apply_assumption
    go_wp2_with (first
      | (refine R_copy_cut (enc := Value.int .u8) (d := (0 : Int)) (w0 := w) w.heap.size rfl (.tmp 64) (.tmp 65) 27 27 5 rfl Try.underlying27 (by kernel_rfl) A6 c6 nn B0 S0 A8 long c8 (fun _ => True) rfl ?cN rfl ?cO HR8n.out HBW.out HBW.out.size ?_;
         (case cN => rw [HLN.out]; exact hnl);
         (case cO => rw [HLN.out]; exact HR6n.out);
         intro w9 ho hb hg; have HR9 := Aside0.mk ho; have HB9 := Aside0.mk hb; have k1 := (KP.out _ (HBL.out _ hb)).2; clear ho hb hg))
    have e1 : min long nn = nn := Nat.min_eq_right hnl
    have e2 : (S0.take nn ++ B0.drop nn).take l1.length = tornV l0 l1 nn := by unfold tornV; rw [← HLONG.out, ← HS0.out, ← HB0.out]
    have h9 := HR9.out
    rw [e1, HLN.out] at h9
    have hlen : l1.length ≤ (S0.take nn ++ B0.drop nn).length := by
      have := HM1.out
      rw [← HS0.out] at this
      rw [List.length_append, List.length_take, List.length_drop, HLN.out, this]
      omega
    have h10 := Kd.R_take (m := l1.length) h9 hlen
    rw [e2] at h10
    go_ret
    exact ⟨_, rfl, nn, by rw [← HLONG.out]; exact hnl, h10, HB9.out⟩
end Go.Proofs.Ytoonepmnlgfikaa.D
/-! DRem -/
namespace Go.Proofs.Ytoonepmnlgfikaa.D
open Go.RowKit Go.Proofs.YtoonepmnlgfikaaW.PrintWords Go.Proofs.YtoonepmnlgfikaaW.PrintLast Go.Proofs.YtoonepmnlgfikaaW.PrintMore Go.Proofs.Ytoonepmnlgfikaa.Base Go.Maps
set_option linter.unusedVariables false
set_option linter.unusedSimpArgs false
/-- What a call leaves of a disk: its power's count, its map, and what else lay there. -/
structure DiskStep (w : World) (g b : Nat) (n : Int) (cnt : Nat) (D : DataW Unit) (w' : World) : Prop where
  pow : PowAt w' g b n
  files : Files w' b cnt D
  kept : ∀ i, i < w.heap.size → i ≠ g → i ≠ b → w'.heap[i]? = w.heap[i]?
  size : w.heap.size ≤ w'.heap.size
  below : ∀ B, B ≤ g → B ≤ b → B ≤ w.heap.size → Below B w w'
theorem DiskStep.of_grown {w w' : World} {g b cnt : Nat} {n : Int} {D : DataW Unit} (hg : PowAt w' g b n) (hm : Files w' b cnt D) (hgr : w.grownBy w' (some g)) : DiskStep w g b n cnt D w' :=
  ⟨hg, hm, fun i hi hig _ => hgr.block i hi (by simpa using hig), hgr.size, fun B hBg _ hBs => pw_below_grown (Below.refl _ _) _ hBs hgr (fun k hk => by cases hk; exact hBg)⟩
/-- One more change of the map's block alone. -/
theorem DiskStep.map {w w1 w2 : World} {g b cnt cnt' : Nat} {n : Int} {D D' : DataW Unit} (h : DiskStep w g b n cnt D w1) (hgb : b ≠ g) (hm : Files w2 b cnt' D') (hgr : w1.grownBy w2 (some b)) : DiskStep w g b n cnt' D' w2 :=
  ⟨(hgr.block g (blk_lt h.pow) (by simpa using Ne.symm hgb)).trans h.pow, hm, fun i hi hig hib => (hgr.block i (by have := h.size; omega) (by simpa using hib)).trans (h.kept i hi hig hib), Nat.le_trans h.size hgr.size,
    fun B hBg hBb hBs => pw_below_grown (h.below B hBg hBb hBs) _ (Nat.le_trans hBs h.size) hgr (fun k hk => by cases hk; exact hBb)⟩
theorem turned_grown {w w' : World} {b : Nat} (h : w.mapTurned w' b) : w.grownBy w' (some b) := by
  obtain ⟨es, clock, es', clock', hb, rfl⟩ := h
  refine ⟨rfl, rfl, rfl, by simp [Go.ChangeMaps.setBlock], fun i hi hne => ?_⟩
  have hbi : b ≠ i := fun e => hne (by rw [e])
  simp [Go.ChangeMaps.setBlock, Array.getElem?_setIfInBounds, hbi]

set_option maxRecDepth 100000 in
set_option maxHeartbeats 1600000 in
theorem remove_none (g b cnt : Nat) (n : Int) (h0 : 0 ≤ n) (h1 : n ≤ 1000000) (D : DataW Unit) (name : ByteArray) (hs : name.size ≤ maxLen) (w : World) (h : nameB name = true) (hg : PowAt w g b n) (hm : Files w b cnt D) (hgb : b ≠ g) (hp : D.atKey (.string name.data.toList) (pe none) = pe none) :
    Calls Try.prog 18 #[.pointer (some ⟨g, 0, none⟩), .string name] w fun e w' => e = .returned (.int .i64 3) ∧ DiskStep w g b (n + 1) cnt D w' := by
  go_enter Try.func18, Try.ntmps18
  go_wp2_with fail
  refine (call_yes g b cnt n h0 h1 D name hs true w h hg hm hgb none hp).mono ?_
  rintro e w2 ⟨rfl, hg2, hgr, hm2⟩
  rw [if_pos ⟨rfl, rfl⟩]
  go_wp2_with fail
  go_ret
  exact ⟨rfl, DiskStep.of_grown hg2 hm2 hgr⟩
set_option maxRecDepth 100000 in
set_option maxHeartbeats 1600000 in
theorem remove_hit (g b cnt f : Nat) (n : Int) (h0 : 0 ≤ n) (h1 : n ≤ 1000000) (D : DataW Unit) (name : ByteArray) (hs : name.size ≤ maxLen) (w : World) (h : nameB name = true) (hg : PowAt w g b n) (hm : Files w b cnt D) (hgb : b ≠ g) (hp : D.atKey (.string name.data.toList) (pe none) = pe (some f)) :
    Calls Try.prog 18 #[.pointer (some ⟨g, 0, none⟩), .string name] w fun e w' => e = .returned (.int .i64 0) ∧ DiskStep w g b (n + 1) cnt (D.del (.string name.data.toList)) w' := by
  have hu119 := Try.underlying59
  go_enter Try.func18, Try.ntmps18
  go_wp2_with fail
  refine (call_yes g b cnt n h0 h1 D name hs true w h hg hm hgb (some f) hp).mono ?_
  rintro e w2 ⟨rfl, hg2, hgr, hm2⟩
  rw [if_neg (by simp)]
  simp only [pv]
  have k3 : w2.cell? ⟨g, 3, none⟩ = some (.map (some b)) := (blk_cell hg2 3).trans rfl
  obtain ⟨w3, hrun, hm3, ht⟩ := World.ownsMap.drop hm2 K9 Try.underlying57 (WideMaps.keyOf_string_mk Try.underlying9 hs) 0
  have HST := Aside0.mk ((DiskStep.of_grown hg2 hm2 hgr).map hgb hm3 (turned_grown ht))
  clear hm3 ht hg2 hm2 hgr
  go_wp2_with fail
  go_ret
  exact ⟨rfl, HST.out⟩
set_option maxRecDepth 100000 in
set_option maxHeartbeats 1600000 in
theorem rename_none (g b cnt : Nat) (n : Int) (h0 : 0 ≤ n) (h1 : n ≤ 1000000) (D : DataW Unit) (name to_ : ByteArray) (hs : name.size ≤ maxLen) (hs2 : to_.size ≤ maxLen) (w : World) (h : nameB name = true) (ht : nameB to_ = true) (hg : PowAt w g b n) (hm : Files w b cnt D) (hgb : b ≠ g) (hp : D.atKey (.string name.data.toList) (pe none) = pe none) :
    Calls Try.prog 16 #[.pointer (some ⟨g, 0, none⟩), .string name, .string to_] w fun e w' => e = .returned (.int .i64 3) ∧ DiskStep w g b (n + 1) cnt D w' := by
  have HG : Aside0 (disk_good.f (3 * to_.size + 1) to_ = some true) := ⟨by rw [good_is to_ (by unfold maxLen at hs2; omega) _ (Nat.le_refl _), ht]⟩
  go_enter Try.func16, Try.ntmps16
  go_wp2_with fail
  refine (disk_good.calls _ _ _ _ HG.out).mono ?_
  rintro e w1 ⟨rfl, ⟨n1, rfl⟩⟩
  go_wp2_with fail
  refine (call_yes g b cnt n h0 h1 D name hs true _ h (by exact hg) (by exact hm) hgb none hp).mono ?_
  rintro e w2 ⟨rfl, hg2, hgr, hm2⟩
  rw [if_pos ⟨rfl, rfl⟩]
  have hgr : w.grownBy w2 (some g) := ⟨hgr.os, hgr.tape, hgr.output, hgr.size, hgr.block⟩
  go_wp2_with fail
  go_ret
  exact ⟨rfl, DiskStep.of_grown hg2 hm2 hgr⟩
set_option maxRecDepth 100000 in
set_option maxHeartbeats 1600000 in
theorem rename_hit (g b cnt f : Nat) (hcnt : cnt < 1000000) (n : Int) (h0 : 0 ≤ n) (h1 : n ≤ 1000000) (D : DataW Unit) (name to_ : ByteArray) (hs : name.size ≤ maxLen) (hs2 : to_.size ≤ maxLen) (w : World) (h : nameB name = true) (ht : nameB to_ = true) (hg : PowAt w g b n) (hm : Files w b cnt D) (hgb : b ≠ g) (hp : D.atKey (.string name.data.toList) (pe none) = pe (some f)) :
    Calls Try.prog 16 #[.pointer (some ⟨g, 0, none⟩), .string name, .string to_] w fun e w' => e = .returned (.int .i64 0) ∧ DiskStep w g b (n + 1) (cnt + 1) ((D.del (.string name.data.toList)).put (.string to_.data.toList) (pe (some f))) w' := by
  have HG : Aside0 (disk_good.f (3 * to_.size + 1) to_ = some true) := ⟨by rw [good_is to_ (by unfold maxLen at hs2; omega) _ (Nat.le_refl _), ht]⟩
  have hu119 := Try.underlying59
  go_enter Try.func16, Try.ntmps16
  go_wp2_with fail
  refine (disk_good.calls _ _ _ _ HG.out).mono ?_
  rintro e w1 ⟨rfl, ⟨n1, rfl⟩⟩
  go_wp2_with fail
  refine (call_yes g b cnt n h0 h1 D name hs true _ h (by exact hg) (by exact hm) hgb (some f) hp).mono ?_
  rintro e w2 ⟨rfl, hg2, hgr, hm2⟩
  rw [if_neg (by simp)]
  simp only [pv]
  have hgr : w.grownBy w2 (some g) := ⟨hgr.os, hgr.tape, hgr.output, hgr.size, hgr.block⟩
  have k3 : w2.cell? ⟨g, 3, none⟩ = some (.map (some b)) := (blk_cell hg2 3).trans rfl
  obtain ⟨w3, hrun, hm3, htn⟩ := World.ownsMap.drop hm2 K9 Try.underlying57 (WideMaps.keyOf_string_mk Try.underlying9 hs) 0
  have HST := (DiskStep.of_grown hg2 hm2 hgr).map hgb hm3 (turned_grown htn)
  have k33 : w3.cell? ⟨g, 3, none⟩ = some (.map (some b)) := (blk_cell HST.pow 3).trans rfl
  obtain ⟨w4, hrun4, hm4, hgr4⟩ := World.ownsMap.update hm3 K9 Try.underlying57 (by unfold maxLen; omega) (WideMaps.keyOf_string_mk Try.underlying9 hs2) (ptrE_pv (some f))
  simp only [pv] at hrun4
  have HST4 := Aside0.mk (HST.map hgb hm4 hgr4)
  clear hm3 htn hg2 hm2 hgr hm4 hgr4 HST
  go_wp2_with fail
  go_ret
  exact ⟨rfl, HST4.out⟩
end Go.Proofs.Ytoonepmnlgfikaa.D
/-! DAppend -/
namespace Go.Proofs.Ytoonepmnlgfikaa.D
open Go.RowKit Go.Proofs.YtoonepmnlgfikaaW.PrintWords Go.Proofs.YtoonepmnlgfikaaW.PrintLast Go.Proofs.YtoonepmnlgfikaaW.PrintMore Go.Proofs.Ytoonepmnlgfikaa.Base Go.Maps
set_option linter.unusedVariables false
set_option linter.unusedSimpArgs false
set_option maxRecDepth 100000 in
set_option maxHeartbeats 1600000 in
theorem append_hit (g b cnt f : Nat) (v0 : Value) (A1 : Option Addr) (c1 : Nat) (l1 : List Int) (n : Int) (h0 : 0 ≤ n) (h1 : n ≤ 1000000) (D : DataW Unit) (name : ByteArray) (hs : name.size ≤ maxLen) (l : List Int) (A : Option Addr) (c : Nat) (hl : l1.length + l.length ≤ 1048576) (w : World)
    (hC : ∀ W : World, (∀ i, i < w.heap.size → i ≠ g → i ≠ f → W.heap[i]? = w.heap[i]?) → Kd.C (Kd.int .u8) W A l.length l) (hC1 : ∀ W : World, (∀ i, i < w.heap.size → i ≠ g → i ≠ f → W.heap[i]? = w.heap[i]?) → Kd.C (Kd.int .u8) W A1 l1.length l1)
    (h : nameB name = true) (hg : PowAt w g b n) (hm : Files w b cnt D) (hgb : b ≠ g) (hfb : f ≠ b) (hp : D.atKey (.string name.data.toList) (pe none) = pe (some f)) (hf : w.heap[f]? = some (.cells #[v0, .slice A1 l1.length c1] 82 (0, 0))) :
    Calls Try.prog 11 #[.pointer (some ⟨g, 0, none⟩), .string name, .slice A l.length c] w fun e w' => e = .returned (.int .i64 0) ∧ PowAt w' g b (n + 1) ∧ Files w' b cnt D ∧ ∃ v,
      w'.heap[f]? = some (.cells #[v0, v] 82 (0, 0)) ∧ Kd.R (Kd.int .u8) 5 w' w.heap.size (fun k => k ≠ f) v (l1 ++ l) ∧ (∀ i, i < w.heap.size → i ≠ g → i ≠ f → w'.heap[i]? = w.heap[i]?) ∧ w.heap.size ≤ w'.heap.size ∧ (∀ B, B ≤ g → B ≤ f → B ≤ w.heap.size → Below B w w') := by
  have hu122 := Try.underlying82
  have hu119 := Try.underlying59
  have HC := Aside0.mk hC
  have HC1 := Aside0.mk hC1
  have hfg : f ≠ g := blk_ne hf hg (by decide)
  clear hC hC1
  go_enter Try.func11, Try.ntmps11
  go_wp2_with fail
  refine (call_yes g b cnt n h0 h1 D name hs false w h hg hm hgb (some f) hp).mono ?_
  rintro e w2 ⟨rfl, hg2, hgr, hm2⟩
  rw [if_neg (by simp)]
  simp only [pv]
  have hf2 : w2.heap[f]? = some (.cells #[v0, .slice A1 l1.length c1] 82 (0, 0)) := blk_grown hf hgr (by simpa using hfg)
  have k1 : w2.cell? ⟨f, 1, none⟩ = some (.slice A1 l1.length c1) := (blk_cell hf2 1).trans rfl
  have hw1 : wrap64 (1048576 - (l1.length : Int)) = 1048576 - (l1.length : Int) := wrap64_in _ (by omega) (by omega)
  have hb1 : decide ((1048576 : Int) - (l1.length : Int) < (l.length : Int)) = false := decide_eq_false (by omega)
  have HG2 := Aside0.mk hg2
  have HM2 := Aside0.mk hm2
  have HF2 := Aside0.mk hf2
  have HK2 : Aside0 (∀ i, i < w.heap.size → i ≠ g → i ≠ f → w2.heap[i]? = w.heap[i]?) := ⟨fun i hi hig hif => hgr.block i hi (by simpa using hig)⟩
  have HS2 : Aside0 (w.heap.size ≤ w2.heap.size) := ⟨hgr.size⟩
  have HB2 : Aside0 (∀ B, B ≤ g → B ≤ w.heap.size → Below B w w2) := ⟨fun B hBg hBs => pw_below_grown (Below.refl _ _) _ hBs hgr (fun k hk => by cases hk; exact hBg)⟩
  have HFL : Aside0 (f < w.heap.size) := ⟨blk_lt hf⟩
  have HGL : Aside0 (g < w.heap.size) := ⟨blk_lt hg⟩
  have HBL : Aside0 (b < w.heap.size) := ⟨World.ownsMap.lt hm⟩
  have H38 : Aside0 (Calls Try.prog 38 #[.slice A1 l1.length c1] w2 fun e w' => ∃ v, e = .returned v ∧ Kd.R (Kd.int .u8) 5 w' w2.heap.size (fun _ => True) v l1 ∧ Below w2.heap.size w2 w') := ⟨clone_calls l1 A1 c1 (by omega) w2 (HC1.out _ (fun i hi hig hif => HK2.out i hi hig hif))⟩
  obtain ⟨bb, hbb⟩ : ∃ bb, bb = l1 ++ l := ⟨_, rfl⟩
  have HBB := Aside0.mk hbb
  clear hbb
  have HLL : Aside0 ((l1.length + l.length) * 1 ≤ 140737488355328) := ⟨by omega⟩
  clear hg2 hm2 hf2 hgr hg hm hf
  go_wp2_with (first
    | (go_at_call 38; refine H38.out.mono ?_; rintro e w5 ⟨v5, rfl, hr, hb⟩; have HR5 := Aside0.mk hr; have HB5 := Aside0.mk hb; clear hr hb)
    | ((with_reducible refine gate_builtin (b := .append) (xs := #[.tmp 67, .tmp 68]) rfl ?_); at_builtin; refine Kd.R_append_rows (Kd.int .u8) (w0 := w2) w2.heap.size rfl (.tmp 67) (.tmp 68) 27 5 (.int .u8 0) 1 rfl Try.underlying27 info5 rfl (by decide) (by decide) v5 l1 l _ _ _ (fun _ => True) (fun _ => False) rfl rfl HR5.out (HC.out _ (fun i hi hig hif => (HB5.out.block i (by have := HS2.out; omega)).trans (HK2.out i hi hig hif))) (fun _ _ h => h) (fun _ h => h.elim) (fun _ _ => trivial) HB5.out HB5.out.size HLL.out ?_; intro v7 w7 ho7 hb7 hg7 hat7; rw [← HBB.out] at ho7; have hf7 := (hb7.block f (by have := HS2.out; have := HFL.out; omega)).trans HF2.out; have k7 : w7.cell? ⟨f, 1, none⟩ = some (.slice A1 l1.length c1) := (blk_cell hf7 1).trans rfl; have f7 := blk_frozen hf7 1; obtain ⟨A7, c7, rfl⟩ := Kd.R_slice ho7; have HO7 := Aside0.mk ho7; have HB7 := Aside0.mk hb7; have HF7 := Aside0.mk hf7; clear ho7 hb7 hg7 hat7 hf7))
  go_ret
  have hs2 := HS2.out
  have hfl := HFL.out
  have hgl := HGL.out
  have hbl := HBL.out
  have hset : ∀ i, i ≠ f → (w7.setCell ⟨f, 1, none⟩ (.slice A7 bb.length c7)).heap[i]? = w7.heap[i]? := fun i hi => Below.heap_setCell _ _ _ i hi
  rw [← HBB.out]
  refine ⟨rfl, (hset g (Ne.symm hfg)).trans ((HB7.out.block g (by omega)).trans HG2.out), Files.of_block HM2.out ((hset b (Ne.symm hfb)).trans (HB7.out.block b (by omega))), _, blk_set HF7.out 1 _, ?_, fun i hi hig hif => (hset i hif).trans ((HB7.out.block i (by omega)).trans (HK2.out i hi hig hif)), ?_, ?_⟩
  · have h1 := Kd.R_mono (Kd.R_bound HO7.out) (fun k hk => show k ≠ f by have := hk.2.1; omega)
    exact Kd.R_step (Kd.R_lower h1 (by omega)) (fun k hk _ => hset k hk)
  · have : (w7.setCell ⟨f, 1, none⟩ (.slice A7 bb.length c7)).heap.size = w7.heap.size := by simp [World.setCell]
    have := HB7.out.size
    omega
  · intro B hBg hBf hBs
    exact ((HB2.out B hBg hBs).trans (HB7.out.mono (by omega))).setCell (by show B ≤ f; exact hBf) _
end Go.Proofs.Ytoonepmnlgfikaa.D
