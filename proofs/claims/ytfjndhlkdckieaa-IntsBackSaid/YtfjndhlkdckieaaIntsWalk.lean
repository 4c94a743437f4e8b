/- The program's packed numbers, walked: what each function answers and leaves in memory. -/
import Derived.Test.YtfjndhlkdckieaaIntsPure
import Derived.Test.YtfjndhlkdckieaaIx7
import Derived.Test.YtfjndhlkdckieaaIx1
import Derived.StillTailTactics
namespace Go.Proofs.Ytfjndhlkdckieaa.I
open Go.RowKit Go.Proofs.YtfjndhlkdckieaaW.PrintWords Go.Proofs.YtfjndhlkdckieaaW.PrintLast Go.Proofs.YtfjndhlkdckieaaW.PrintMore Go.Proofs.Ytfjndhlkdckieaa.Opening Go.Proofs.Ytfjndhlkdckieaa.Base Go.Proofs.Ytfjndhlkdckieaa.Bits
set_option linter.unusedVariables false
set_option linter.unusedSimpArgs false

/-- A packed object of the call's own, from block base on. -/
def OPk (W : World) (base g : Nat) (wd n : Int) (b : List Int) : Prop :=
  base ≤ g ∧ ∃ v, W.heap[g]? = some (.cells #[.int .i64 wd, .int .i64 n, v] 57 (0, 0)) ∧ Kd.R (Kd.int .u8) 5 W base (fun k => k ≠ g) v b
theorem OPk.keep {W W' : World} {base g : Nat} {wd n : Int} {b : List Int} (h : OPk W base g wd n b) (hk : ∀ i, base ≤ i → i < W.heap.size → W'.heap[i]? = W.heap[i]?) : OPk W' base g wd n b := by
  obtain ⟨hb, v, hg, hr⟩ := h
  refine ⟨hb, v, (hk g hb (blk_lt hg)).trans hg, ?_⟩
  have h2 := Kd.R_bound hr
  exact Kd.R_mono (Kd.R_step h2 (fun k ho hlt => hk k ho.2.1 hlt)) (fun k hk => hk.1)
theorem OPk.below {W W' : World} {base g : Nat} {wd n : Int} {b : List Int} (h : OPk W base g wd n b) (hb : Below W.heap.size W W') : OPk W' base g wd n b := h.keep fun i _ hi => hb.block i hi
theorem OPk.drewN {W : World} {base g : Nat} {wd n : Int} {b : List Int} (h : OPk W base g wd n b) (m : Nat) : OPk (W.drewN m) base g wd n b := h.below (pw_below_drewN (Below.refl _ _) m)
theorem OPk.kept {W W' : World} {base g : Nat} {wd n : Int} {b : List Int} {S : Nat → Prop} (h : OPk W base g wd n b) (hk : Kept W W' S) (hs : ∀ k, S k → k < base) : OPk W' base g wd n b := h.keep fun i hi hlt => hk.2 i hlt fun hS => by have := hs i hS; omega
theorem OPk.lt {W : World} {base g : Nat} {wd n : Int} {b : List Int} (h : OPk W base g wd n b) : g < W.heap.size := by
  obtain ⟨_, v, hg, _⟩ := h
  exact blk_lt hg

theorem bit_term {v r : Nat} (hv : v < 256) (hr : r < 8) : IntKind.u64.wrap (Go.bits .and .u8 ((v : Int) / 2 ^ r) 1) = (((v.testBit r).toNat : Nat) : Int) := by
  have e : ((v : Int) / 2 ^ r) = ((v / 2 ^ r : Nat) : Int) := by push_cast; rfl
  rw [e, and_u8 _ (div_lt v r _ hv), wrap_u64_in _ (by omega) (by omega), Nat.testBit_eq_decide_div_mod_eq]
  rcases Nat.mod_two_eq_zero_or_one (v / 2 ^ r) with h | h <;> simp [h]
set_option maxHeartbeats 400000 in
theorem bit_calls (base g : Nat) (wd n : Int) (b : List Int) (hb : AllB b) (j : Nat) (hj : j / 8 < b.length) (hj2 : j ≤ 1125899906842624) (w : World) (h : OPk w base g wd n b) :
    Calls Try.prog 67 #[.pointer (some ⟨g, 0, none⟩), .int .i64 (j : Int)] w fun e w' => e = .returned (.int .u64 (((tb b j).toNat : Nat) : Int)) ∧ w = w' := by
  obtain ⟨hbg, v, hg, hr⟩ := h
  obtain ⟨A, c, rfl, hc, hC⟩ := Kd.R_reads hr
  have hu55 := Try.underlying55
  have c2 : w.cell? ⟨g, 2, none⟩ = some (.slice A b.length c) := (blk_cell hg 2).trans rfl
  obtain ⟨ad, rfl, hx⟩ := Kd.at_int hC ((j / 8 : Nat) : Int) (by omega) (by omega)
  rw [Int.toNat_natCast, rd_byte hb] at hx
  have hfin : IntKind.u64.wrap (Go.bits .and .u8 (((byteAt b (j / 8) : Nat) : Int) / 2 ^ (j % 8)) 1) = (((tb b j).toNat : Nat) : Int) := bit_term (byteAt_lt hb _) (Nat.mod_lt _ (by decide))
  have HF := Aside0.mk hfin
  clear hfin hg hr hC
  go_enter Try.func67, Try.ntmps67
  go_wp2_with fail
  go_ret
  exact ⟨congrArg (fun x => Ending.returned (.int .u64 x)) HF.out, rfl⟩
theorem len_calls (base g : Nat) (wd n : Int) (b : List Int) (w : World) (h : OPk w base g wd n b) :
    Calls Try.prog 37 #[.pointer (some ⟨g, 0, none⟩)] w fun e w' => e = .returned (.int .i64 n) ∧ w = w' := by
  obtain ⟨hbg, v, hg, hr⟩ := h
  have c1 : w.cell? ⟨g, 1, none⟩ = some (.int .i64 n) := (blk_cell hg 1).trans rfl
  clear hg hr
  have hu55 := Try.underlying55
  go_enter Try.func37, Try.ntmps37
  go_wp2_with fail
  go_ret
  exact ⟨rfl, rfl⟩
theorem width_calls (base g : Nat) (wd n : Int) (b : List Int) (w : World) (h : OPk w base g wd n b) :
    Calls Try.prog 36 #[.pointer (some ⟨g, 0, none⟩)] w fun e w' => e = .returned (.int .i64 wd) ∧ w = w' := by
  obtain ⟨hbg, v, hg, hr⟩ := h
  have c1 : w.cell? ⟨g, 0, none⟩ = some (.int .i64 wd) := (blk_cell hg 0).trans rfl
  clear hg hr
  have hu55 := Try.underlying55
  go_enter Try.func36, Try.ntmps36
  go_wp2_with fail
  go_ret
  exact ⟨rfl, rfl⟩
theorem at_term (b : List Int) (i w k : Nat) (hk : k < 64) : Go.bits .or .u64 ((rdN b i w k : Nat) : Int) (IntKind.u64.wrap ((((tb b (i * w + k)).toNat : Nat) : Int) * 2 ^ k)) = ((rdN b i w (k + 1) : Nat) : Int) := by
  have h1 : rdN b i w k < 2 ^ 64 := Nat.lt_of_lt_of_le (rdN_lt b i w k) (Nat.pow_le_pow_right (by decide) (by omega))
  have hx : (tb b (i * w + k)).toNat ≤ 1 := by cases tb b (i * w + k) <;> simp
  have h2 := shl_u64 _ k hx hk
  unfold shl at h2
  rw [Int.toNat_natCast, Nat.min_eq_left (show k ≤ IntKind.u64.bits by show k ≤ 64; omega)] at h2
  have h3 : ((tb b (i * w + k)).toNat <<< k) < 2 ^ 64 := by
    rw [Nat.shiftLeft_eq]
    have : (tb b (i * w + k)).toNat * 2 ^ k ≤ 1 * 2 ^ k := Nat.mul_le_mul_right _ hx
    have h4 : 2 ^ k < 2 ^ 64 := Nat.pow_lt_pow_right (by decide) hk
    omega
  rw [h2, or_u64 _ _ h1 h3]
  rfl
set_option maxHeartbeats 400000 in
theorem at_calls (base g : Nat) (wd n i : Nat) (hw : wd ≤ 64) (b : List Int) (hb : AllB b) (hi : i < n) (hn : n ≤ 131072) (hbl : b.length = (wd * n + 7) / 8) (w : World) (h : OPk w base g (wd : Int) (n : Int) b) :
    Calls Try.prog 66 #[.pointer (some ⟨g, 0, none⟩), .int .i64 (i : Int)] w fun e w' => e = .returned (.int .u64 ((rdN b i wd wd : Nat) : Int)) ∧ w = w' := by
  have HO := Aside0.mk h
  obtain ⟨hbg, v, hg, hr⟩ := h
  have c0 : w.cell? ⟨g, 0, none⟩ = some (.int .i64 (wd : Int)) := (blk_cell hg 0).trans rfl
  clear hg hr
  have hu55 := Try.underlying55
  go_enter Try.func66, Try.ntmps66
  go_wp2_with fail
  go_loop [4, 5, 10] (fun v4 v5 v10 => ∃ k : Nat, k ≤ wd ∧ v4 = .int .u64 ((rdN b i wd k : Nat) : Int) ∧ v10 = .int .i64 (k : Int)) (fun _ _ v10 => wd - (intOf v10).toNat)
  case atStart => exact ⟨0, Nat.zero_le _, rfl, rfl⟩
  case round =>
    obtain ⟨k, hk, rfl, rfl⟩ := hrel
    by_cases hlt : k < wd
    · have hq := at_lt (w := wd) (n := n) hi hlt
      obtain ⟨e0, hm⟩ := at_num wd n i k hw hi (by omega) hlt
      have E := Aside0.mk e0
      clear e0
      have ej : ((i : Int) * (wd : Int) + (k : Int)) = ((i * wd + k : Nat) : Int) := by push_cast; rfl
      have J := Aside0.mk ej
      clear ej
      go_wp2_with fail
      rw [J.out]
      refine (bit_calls base g _ _ b hb (i * wd + k) (by omega) hm _ HO.out).mono ?_
      rintro e w' ⟨rfl, rfl⟩
      go_wp2_with fail
      exact ⟨⟨k + 1, by omega, congrArg (Value.int .u64) (at_term b i wd k (by omega)), by go_num⟩, by simp [intOf]; omega⟩
    · have hkk : k = wd := by omega
      subst hkk
      go_wp2_with fail
      go_ret
      exact ⟨rfl, rfl⟩
theorem set_term {B : List Int} {J v k : Nat} (hB : AllB B) (hv : v < 2 ^ 64) (hk : k < 64) (hlb : J / 8 < B.length) :
    B.set (J / 8) (Go.bits .or .u8 ((byteAt B (J / 8) : Nat) : Int) (Go.bits .and .u64 ((v : Int) / 2 ^ k) 1 % 256 * 2 ^ (J % 8) % 256)) = if v.testBit k = true then put B J else B := by
  have e : ((v : Int) / 2 ^ k) = ((v / 2 ^ k : Nat) : Int) := by push_cast; rfl
  have h1 := byteAt_lt hB (J / 8)
  have h2 : 2 ^ (J % 8) < 2 ^ 8 := Nat.pow_lt_pow_right (by decide) (Nat.mod_lt _ (by decide))
  have e2 : ((2 : Int) ^ (J % 8)) = ((2 ^ (J % 8) : Nat) : Int) := by push_cast; rfl
  rw [e, and_u64 _ (div_lt v k _ hv), e2, Nat.testBit_eq_decide_div_mod_eq]
  generalize hp : 2 ^ (J % 8) = p at *
  rcases Nat.mod_two_eq_zero_or_one (v / 2 ^ k) with h | h
  · rw [h, if_neg (by simp)]
    have e3 : ((0 : Nat) : Int) % 256 * (p : Int) % 256 = ((0 : Nat) : Int) := by simp
    rw [e3, or_u8 _ 0 h1 (by decide), Nat.or_zero, ← rd_byte hB, rd_get hlb]
    exact List.set_getElem_self hlb
  · rw [h, if_pos (by simp)]
    have e3 : ((1 : Nat) : Int) % 256 * (p : Int) % 256 = (p : Int) := by omega
    rw [e3, or_u8 _ p h1 h2]
    unfold put
    rw [hp]
set_option maxHeartbeats 1000000 in
set_option maxRecDepth 100000 in
theorem set_calls (w0 : World) (g wd n i : Nat) (v : Nat) (hv : v < 2 ^ 64) (hw : wd ≤ 64) (b : List Int) (hb : AllB b) (hi : i < n) (hn : n ≤ 131072) (hbl : b.length = (wd * n + 7) / 8) (w : World) (hB : Below w0.heap.size w0 w) (h : OPk w w0.heap.size g (wd : Int) (n : Int) b) :
    Calls Try.prog 65 #[.pointer (some ⟨g, 0, none⟩), .int .i64 (i : Int), .int .u64 (v : Int)] w fun e w' => e = .returned (.tuple #[]) ∧ Below w0.heap.size w0 w' ∧ OPk w' w0.heap.size g (wd : Int) (n : Int) (setN b i wd v wd) := by
  have HO := Aside0.mk h
  have HB := Aside0.mk hB
  have c0 : w.cell? ⟨g, 0, none⟩ = some (.int .i64 (wd : Int)) := by
    obtain ⟨hbg, v, hg, hr⟩ := h
    exact (blk_cell hg 0).trans rfl
  clear h hB
  have hu55 := Try.underlying55
  go_enter Try.func65, Try.ntmps65
  go_wp2_with fail
  clear c0
  go_loopg [6, 7, 12] wd (fun kq v6 v7 v12 w' => ∃ k : Nat, v12 = .int .i64 (k : Int) ∧ Aside0 (kq + k = wd) ∧ Aside0 (Below w0.heap.size w0 w') ∧ Aside0 (OPk w' w0.heap.size g (wd : Int) (n : Int) (setN b i wd v k)))
  case atStart => exact ⟨0, rfl, ⟨rfl⟩, HB, HO⟩
  case round =>
    clear HO HB
    obtain ⟨k, rfl, HK, HB, HO⟩ := hrel
    by_cases hlt : k < wd
    · have hq := at_lt (w := wd) (n := n) hi hlt
      obtain ⟨e0, hm⟩ := at_num wd n i k hw hi (by omega) hlt
      clear e0
      obtain ⟨hbg, u, hg, hr⟩ := HO.out
      obtain ⟨A, c, rfl, hc, hC⟩ := Kd.R_reads hr
      have hlen : (setN b i wd v k).length = (wd * n + 7) / 8 := by rw [setN_len, hbl]
      have hbk := setN_all hb i wd v k
      have c0 : wr.cell? ⟨g, 0, none⟩ = some (.int .i64 (wd : Int)) := (blk_cell hg 0).trans rfl
      have c2 : wr.cell? ⟨g, 2, none⟩ = some (.slice A (setN b i wd v k).length c) := (blk_cell hg 2).trans rfl
      obtain ⟨q, cap, he, hqb, hql, cells, hqh⟩ := Kd.R_form hr (by omega)
      injection he with he1 he2 he3
      subst he1
      subst he3
      obtain ⟨hcell, hfroz⟩ := Kd.R_cell (0 : Int) hr (((i * wd + k) / 8 : Nat) : Int) (by omega) (by omega)
      have hrd : rdOf (0 : Int) (setN b i wd v k) (((i * wd + k) / 8 : Nat) : Int) = ((byteAt (setN b i wd v k) ((i * wd + k) / 8) : Nat) : Int) := rd_byte hbk _
      rw [hrd] at hcell
      rw [Int.toNat_natCast] at hcell hfroz
      have HR := Aside0.mk hr
      have HG := Aside0.mk hg
      have HBK := Aside0.mk hbk
      have hqg : q ≠ g := hr.1 q rfl
      have HL := Aside0.mk hlen
      have hlb : (i * wd + k) / 8 < (setN b i wd v k).length := by omega
      clear hrd hr hC hg hbk hlen hqh
      generalize hBe : setN b i wd v k = B at *
      have HBe := Aside0.mk hBe
      clear hBe
      have ej : ((i : Int) * (wd : Int) + (k : Int)) = ((i * wd + k : Nat) : Int) := by push_cast; rfl
      generalize hJ : i * wd + k = J at *
      have HJ := Aside0.mk hJ
      clear hJ
      go_wp2_with fail
      have hq1 : IntKind.i64.wrap ((J : Int) / 8) = ((J / 8 : Nat) : Int) := by rw [IntKind.wrap_i64]; omega
      have hq2 : (0 : Int) ≤ (J : Int) / 8 := by omega
      have hq3 : (J : Int) / 8 < (B.length : Int) := by omega
      have hq4 : ((J : Int) / 8).toNat = J / 8 := by omega
      have hq5 : (0 : Int) ≤ (J : Int) % 8 := by omega
      have hq6 : ((J : Int) % 8).toNat = J % 8 := by omega
      have hq7 : (0 : Int) ≤ (k : Int) := by omega
      have hq8 : Int.tmod (J : Int) 8 = (J : Int) % 8 := Int.tmod_eq_emod_of_nonneg (by omega)
      go_still_tail 18, (by kernel_rfl)
      clear hq1 hq2 hq3 hq4 hq5 hq6 hq7 hq8
      go_wp2_with fail
      go_roundg (wd - (k + 1))
      case measure => have := HK.out; omega
      case rel =>
        refine ⟨k + 1, by go_num, ⟨by have := HK.out; omega⟩, ⟨?_⟩, ⟨?_⟩⟩
        · exact below_drew (HB.out.setCell hqb _)
        · have hset := set_term HBK.out hv (show k < 64 by omega) hlb (v := v) (k := k)
          have hp := Kd.R_put HR.out (((J / 8 : Nat) : Int)) (Go.bits .or .u8 ((byteAt B (J / 8) : Nat) : Int) (Go.bits .and .u64 ((v : Int) / 2 ^ k) 1 % 256 * 2 ^ (J % 8) % 256))
          rw [Int.toNat_natCast, hset] at hp
          have hfin : (if v.testBit k = true then put B J else B) = setN b i wd v (k + 1) := by
            simp only [setN]
            rw [HBe.out, HJ.out]
          rw [hfin] at hp
          have hlenf : (setN b i wd v (k + 1)).length = B.length := by rw [setN_len, ← HBe.out, setN_len]
          refine ⟨hbg, .slice (some ⟨q, 0, none⟩) (setN b i wd v (k + 1)).length c, ?_, ?_⟩
          · rw [hlenf]
            exact (Below.heap_setCell wr _ _ g (fun e => hqg e.symm)).trans HG.out
          · rw [hlenf]
            have hl2 : B.length = (setN b i wd v (k + 1)).length := hlenf.symm
            rw [hl2]
            exact Kd.R_drew (by rw [hlenf]; exact hp.1)
    · have hkk : k = wd := by have := HK.out; omega
      subst hkk
      go_wp2_with fail
      go_end0
      exact ⟨rfl, HB.out, HO.out⟩
set_option maxHeartbeats 400000 in
theorem bytes_calls (base g : Nat) (wd n : Int) (b : List Int) (hl : b.length ≤ 140737488355328) (w : World) (h : OPk w base g wd n b) :
    Calls Try.prog 31 #[.pointer (some ⟨g, 0, none⟩)] w fun e w' => ∃ v, e = .returned v ∧ Kd.R (Kd.int .u8) 5 w' w.heap.size (fun _ => True) v b ∧ Below w.heap.size w w' := by
  obtain ⟨hbg, u, hg, hr⟩ := h
  obtain ⟨A, c, rfl, hc, hC⟩ := Kd.R_reads hr
  have c2 : w.cell? ⟨g, 2, none⟩ = some (.slice A b.length c) := (blk_cell hg 2).trans rfl
  have HC := Aside0.mk hC
  clear hg hr hC
  have hu55 := Try.underlying55
  go_enter Try.func31, Try.ntmps31
  go_wp2_with ((with_reducible refine gate_builtin (b := .append) (xs := #[.const (.slice none 0 0), .tmp 6]) rfl ?_); at_builtin; refine Kd.R_append_rows (Kd.int .u8) (Rr := (Kd.int .u8).K w) (w0 := w) w.heap.size rfl (.const (.slice none 0 0)) (.tmp 6) 42 5 (.int .u8 0) 1 rfl Try.underlying42 info5 rfl (by decide) (by omega) (.slice none 0 0) [] b A b.length c (fun _ => True) (fun _ => False) rfl rfl (Kd.R_nil _ _ _ _ _) HC.out (fun _ _ h => h) (fun _ h => h.elim) (fun _ _ => trivial) (Below.refl _ _) (Nat.le_refl _) (by simp; omega) ?_; intro v1 w1 ho hb hg hat; rw [List.nil_append] at ho; have N1 := Aside0.mk ho; have N2 := Aside0.mk hb; clear ho hb hg hat)
  go_ret
  exact ⟨_, rfl, N1.out, N2.out⟩
set_option maxHeartbeats 1000000 in
set_option maxRecDepth 100000 in
theorem get_calls (base g wd n : Nat) (i : Int) (hi : -1 ≤ i) (hi2 : i ≤ n) (hw : wd ≤ 64) (b : List Int) (hb : AllB b) (hn : n ≤ 131072) (hbl : b.length = (wd * n + 7) / 8) (w : World) (h : OPk w base g (wd : Int) (n : Int) b) :
    Calls Try.prog 38 #[.pointer (some ⟨g, 0, none⟩), .int .i64 i] w fun e w' => e = .returned (.tuple (if 0 ≤ i ∧ i < n then #[.int .u64 ((rdN b i.toNat wd wd : Nat) : Int), .int .i64 0] else #[.int .u64 0, .int .i64 3])) ∧ w = w' := by
  have HO := Aside0.mk h
  obtain ⟨hbg, v, hg, hr⟩ := h
  have c1 : w.cell? ⟨g, 1, none⟩ = some (.int .i64 (n : Int)) := (blk_cell hg 1).trans rfl
  clear hg hr
  have hu55 := Try.underlying55
  have hu57 := Try.underlying57
  by_cases h0 : i < 0
  · have hb0 : decide (i < 0) = true := decide_eq_true h0
    rw [if_neg (by omega)]
    go_enter Try.func38, Try.ntmps38
    go_wp2_with fail
    go_ret2
    exact ⟨rfl, rfl⟩
  · have hb0 : decide (i < 0) = false := decide_eq_false h0
    by_cases h1 : i < n
    · have hb1 : decide ((n : Int) ≤ i) = false := decide_eq_false (by omega)
      rw [if_pos (by omega)]
      obtain ⟨m, rfl⟩ := Int.eq_ofNat_of_zero_le (show 0 ≤ i by omega)
      rw [Int.toNat_natCast]
      go_enter Try.func38, Try.ntmps38
      go_wp2_with fail
      refine (at_calls base g wd n m hw b hb (by omega) hn hbl _ HO.out).mono ?_
      rintro e w' ⟨rfl, rfl⟩
      go_wp2_with fail
      go_ret2
      exact ⟨rfl, rfl⟩
    · have hb1 : decide ((n : Int) ≤ i) = true := decide_eq_true (by omega)
      rw [if_neg (by omega)]
      go_enter Try.func38, Try.ntmps38
      go_wp2_with fail
      go_ret2
      exact ⟨rfl, rfl⟩
set_option maxHeartbeats 2000000 in
set_option maxRecDepth 100000 in
theorem new_yes (wd : Nat) (hw : wd ≤ 64) (l : List Int) (hu : U64s l) (hl : l.length ≤ 131072) (hm : ∀ x ∈ l, x.toNat < 2 ^ wd) (A : Option Addr) (c : Nat) (w : World) (hC : Kd.C (Kd.int .u64) w A l.length l) (hc : l.length ≤ c) :
    Calls Try.prog 26 #[.int .i64 (wd : Int), .slice A l.length c] w fun e w' => ∃ g, e = .returned (.tuple #[.pointer (some ⟨g, 0, none⟩), .int .i64 0]) ∧ Below w.heap.size w w' ∧ OPk w' w.heap.size g (wd : Int) (l.length : Int) (enc wd l) := by
  have HC := Aside0.mk hC
  have HM := Aside0.mk hm
  have HU := Aside0.mk hu
  clear hC hm hu
  have hu55 := Try.underlying55
  have hu57 := Try.underlying57
  have hb0 : decide ((wd : Int) < 0) = false := decide_eq_false (by omega)
  have hb1 : decide ((64 : Int) < (wd : Int)) = false := decide_eq_false (by omega)
  go_enter Try.func26, Try.ntmps26
  go_wp2_with fail
  go_loopg [7, 19] l.length (fun kq v7 v19 w' => ∃ i : Nat, v19 = .int .i64 (i : Int) ∧ Aside0 (kq + i = l.length) ∧ Aside0 (w' = w))
  case atStart => exact ⟨0, rfl, ⟨by omega⟩, ⟨rfl⟩⟩
  case round =>
    obtain ⟨i, rfl, HK, HW⟩ := hrel
    obtain rfl := HW.out
    by_cases hi : i < l.length
    · obtain ⟨ad, rfl, hx⟩ := Kd.at_int HC.out (i : Int) (by omega) (by omega)
      have hx0 := HU.out _ (List.getElem_mem hi)
      have hm0 := HM.out _ (List.getElem_mem hi)
      rw [Int.toNat_natCast, rd_get hi] at hx
      obtain ⟨v, hv⟩ := Int.eq_ofNat_of_zero_le hx0.1
      rw [hv] at hx hm0
      rw [Int.toNat_natCast] at hm0
      have hz : v / 2 ^ wd = 0 := Nat.div_eq_of_lt hm0
      have hz2 : ((v : Int) / 2 ^ wd) = 0 := by
        have : ((v : Int) / 2 ^ wd) = ((v / 2 ^ wd : Nat) : Int) := by push_cast; rfl
        rw [this, hz]; rfl
      have HZ := Aside0.mk hz2
      clear hv hx0 hm0 hz hz2
      by_cases h64 : wd < 64
      · have hb2 : decide ((wd : Int) < 64) = true := decide_eq_true (by omega)
        have hz2 := HZ.out
        go_wp2_with fail
        go_roundg (l.length - (i + 1))
        case measure => have := HK.out; omega
        case rel => exact ⟨i + 1, by go_num, ⟨by have := HK.out; omega⟩, ⟨rfl⟩⟩
      · have hb2 : decide ((wd : Int) < 64) = false := decide_eq_false (by omega)
        go_wp2_with fail
        go_roundg (l.length - (i + 1))
        case measure => have := HK.out; omega
        case rel => exact ⟨i + 1, by go_num, ⟨by have := HK.out; omega⟩, ⟨rfl⟩⟩
    · have hbig : decide ((131072 : Int) < (l.length : Int)) = false := decide_eq_false (by omega)
      have hmul : wd * l.length ≤ 64 * l.length := Nat.mul_le_mul_right _ hw
      have hnb : (wd * l.length + 7) / 8 ≤ 1048577 := by omega
      have AB : Aside0 (ints_bytes.f (wd : Int) (l.length : Int) = some (((wd * l.length + 7) / 8 : Nat) : Int)) := ⟨by
        unfold ints_bytes.f
        rw [bytes_num wd l.length hw (by omega)]⟩
      clear hmul
      generalize hN : (wd * l.length + 7) / 8 = nb at *
      have HN := Aside0.mk hN
      clear hN
      go_wp2_with (first | (go_at_call 64; (with_reducible refine (ints_bytes.calls _ _ _ _ AB.out).mono ?_); rintro e w' ⟨rfl, ⟨nd, rfl⟩⟩) | ((with_reducible refine gate_dst (N := 42) rfl ?_); refine Kd.R_make (Kd.int .u8) (w0 := wr) wr.heap.size 5 rfl (N := 42) rfl 42 _ _ rfl ((nb : Nat) : Int) rfl rfl Try.underlying42 (.int .u8 0) 1 info5 rfl (by decide) (by omega) 0 (ok := fun _ => True) (okp := fun _ => True) rfl (fun _ hk => hk) trivial (by omega) (by rw [Int.toNat_natCast]; omega) (pw_below_drewN (Below.refl _ _) _) (Nat.le_refl _) ?_; intro v1 w1 ho hb hg hat; rw [Int.toNat_natCast] at ho; obtain ⟨P1, c1, rfl, hc1, hC1⟩ := Kd.R_reads ho; rw [List.length_replicate] at ho hc1; have N1 := Aside0.mk ho; have N2 := Aside0.mk hb; clear ho hb hg hat hC1 hc1; (try rw [List.length_replicate])))
      have hO1 : OPk (w1.alloc (.cells #[.int .i64 (wd : Int), .int .i64 (l.length : Int), .slice P1 nb c1] 57)) wr.heap.size w1.heap.size (wd : Int) (l.length : Int) (fill wd l 0) := by
        refine ⟨N2.out.size, .slice P1 nb c1, heap_alloc_new w1 _, ?_⟩
        have e0 : fill wd l 0 = List.replicate nb 0 := by unfold fill; rw [HN.out]
        rw [e0]
        exact Kd.R_alloc (Kd.R_mono (Kd.R_bound N1.out) (fun k hk => by have := hk.2.2.1; omega)) _
      have HO1 := Aside0.mk hO1
      have HB1 : Aside0 (Below wr.heap.size wr (w1.alloc (.cells #[.int .i64 (wd : Int), .int .i64 (l.length : Int), .slice P1 nb c1] 57))) := ⟨N2.out.alloc N2.out.size _⟩
      clear hO1
      generalize hW2 : w1.alloc (.cells #[.int .i64 (wd : Int), .int .i64 (l.length : Int), .slice P1 nb c1] 57) = w2 at *
      clear hW2
      generalize hG : w1.heap.size = g at *
      clear hG N1 N2
      obtain ⟨wo, rfl⟩ : ∃ wo : World, wo = wr := ⟨_, rfl⟩
      go_loopg [9, 10, 48] l.length (fun kq v9 v10 v48 w' => ∃ i : Nat, v48 = .int .i64 (i : Int) ∧ Aside0 (kq + i = l.length) ∧ Aside0 (Below wo.heap.size wo w') ∧ Aside0 (OPk w' wo.heap.size g (wd : Int) (l.length : Int) (fill wd l i)))
      case atStart => exact ⟨0, rfl, ⟨by omega⟩, HB1, HO1⟩
      case round =>
        clear HB1 HO1
        obtain ⟨j, rfl, HK2, HB2, HO2⟩ := hrel
        by_cases hj : j < l.length
        · obtain ⟨ad, rfl, hx⟩ := Kd.at_int (Kd.C_below HC.out HB2.out) (j : Int) (by omega) (by omega)
          have hx0 := HU.out _ (List.getElem_mem hj)
          rw [Int.toNat_natCast, rd_get hj] at hx
          obtain ⟨v, hv⟩ := Int.eq_ofNat_of_zero_le hx0.1
          have hv2 : v < 2 ^ 64 := by rw [hv] at hx0; omega
          have hnum : num l j = v := by
            unfold num
            rw [List.getD_eq_getElem?_getD, List.getElem?_eq_getElem hj]
            show l[j].toNat = v
            rw [hv, Int.toNat_natCast]
          rw [hv] at hx
          have HV := Aside0.mk hnum
          have HV2 := Aside0.mk hv2
          clear hv hx0 hnum hv2
          go_wp2_with fail
          refine (set_calls wo g wd l.length j v HV2.out hw (fill wd l j) (fill_all wd l j) hj hl (fill_len wd l j) _ HB2.out HO2.out).mono ?_
          rintro e w' ⟨rfl, hb3, ho3⟩
          have HB3 := Aside0.mk hb3
          have HO3 : Aside0 (OPk w' wo.heap.size g (wd : Int) (l.length : Int) (fill wd l (j + 1))) := ⟨by simp only [fill]; rw [HV.out]; exact ho3⟩
          clear hb3 ho3
          go_wp2_with fail
          go_roundg (l.length - (j + 1))
          case measure => have := HK2.out; omega
          case rel => exact ⟨j + 1, by go_num, ⟨by have := HK2.out; omega⟩, HB3, HO3⟩
        · have hjl : j = l.length := by have := HK2.out; omega
          subst hjl
          go_wp2_with fail
          go_ret2
          exact ⟨g, rfl, HB2.out, HO2.out⟩
end Go.Proofs.Ytfjndhlkdckieaa.I
