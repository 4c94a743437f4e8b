/- TiersClasses' Go text, walked; classes of powers of 2 by the plain law of sizes, the planned runs worked out by the kernel. -/
import Derived.Test.YtfjndhlkdckieaaPureTiersPlans
namespace Go.Proofs.Ytfjndhlkdckieaa.Q
open Go.RowKit Go.Proofs.YtfjndhlkdckieaaW.PrintWords Go.Proofs.YtfjndhlkdckieaaW.PrintLast Go.Proofs.YtfjndhlkdckieaaW.PrintMore Go.Proofs.Ytfjndhlkdckieaa.Opening Go.Proofs.Ytfjndhlkdckieaa.Base
set_option linter.unusedVariables false
set_option linter.unusedSimpArgs false

theorem sz_pow (n : Nat) : sz (2 ^ n) = n + 1 := by
  have := sz_div (2 ^ n) n (Nat.le_refl _)
  rw [Nat.div_self (Nat.two_pow_pos n)] at this
  have h1 : sz 1 = 1 := by decide
  omega
theorem sz_pred (n : Nat) : sz (2 ^ (n + 1) - 1) = n + 1 := by
  have hp := Nat.two_pow_pos n
  have hs : 2 ^ (n + 1) = 2 * 2 ^ n := by rw [Nat.pow_succ]; omega
  have := sz_div (2 ^ (n + 1) - 1) n (by omega)
  have hd : (2 ^ (n + 1) - 1) / 2 ^ n = 1 := by
    rw [Nat.div_eq_iff hp]
    omega
  rw [hd] at this
  have h1 : sz 1 = 1 := by decide
  omega
/-- What the law puts in its list at i. -/
def elt (at_ i : Nat) : Int := if at_ ≤ i ∧ i < at_ + 4 then 1000 + i else 2 ^ (i % 3 * 5)
def lst (at_ n : Nat) : List Int := (List.range n).map (elt at_)
theorem lst_succ (at_ n : Nat) : lst at_ n ++ [elt at_ n] = lst at_ (n + 1) := by
  unfold lst
  rw [List.range_succ, List.map_append]
  rfl
theorem lst_len (a n : Nat) : (lst a n).length = n := by simp [lst]
theorem lit_C (W : World) (xs : List Int) (h : xs.length ≤ 9223372036854775807) : Kd.C (Kd.int .i64) (W.alloc (.cells (nums .i64 xs).toArray 3)) (some ⟨W.heap.size, 0, none⟩) xs.length xs := by
  obtain ⟨A, c, he, hr⟩ := own_reads (own_lit W W.heap.size 3 .i64 xs (Nat.le_refl _) h)
  injection he with h1 h2 h3
  subst h1
  exact Kd.C_of_reads (d := (0 : Int)) (h1 := fun _ => rfl) hr
theorem plan_lst : ∀ at_, at_ < 12 → tiers_Plan.f 200 (lst at_ 16) = some ((at_ : Int), true) := by
  have h : (List.range 12).all (fun a => decide (tiers_Plan.f 200 (lst a 16) = some ((a : Int), true))) = true := by decide +kernel
  intro a ha
  exact of_decide_eq_true (List.all_eq_true.1 h a (by simpa using ha))
theorem plan_555 : tiers_Plan.f 200 [5, 5, 5] = some (0, false) := by decide +kernel
theorem plan_nil : tiers_Plan.f 200 [] = some (0, false) := by decide +kernel
set_option maxHeartbeats 1000000 in
set_option maxRecDepth 100000 in
theorem classes_walk0 (A0 A1 : Option Addr) (n0 c0 n1 c1 : Nat) (w : World) :
    Calls Try.prog 12 #[.agg #[.slice A0 n0 c0, .slice A1 n1 c1]] w fun e w' => e = .returned (.bool true) ∧ Below w.heap.size w w' := by
  have hu71 := Try.underlying71
  go_enter Try.func12, Try.ntmps12
  go_wp2
  go_loopg [3] 40 (fun kq v3 w' => ∃ n : Nat, v3 = .int .i64 n ∧ Aside0 (kq + n = 40) ∧ Aside0 (w'.heap[w.heap.size]? = some (.cells #[.slice A0 n0 c0, .slice A1 n1 c1] 71 (0, 0))) ∧ Aside0 (Below w.heap.size w w'))
  case atStart => exact ⟨0, rfl, ⟨rfl⟩, ⟨heap_alloc_new w _⟩, ⟨(Below.refl _ _).alloc (Nat.le_refl _) _⟩⟩
  case round =>
    obtain ⟨n, rfl, HK, HG, HB⟩ := hrel
    by_cases hn : n < 40
    · obtain ⟨p, hp⟩ : ∃ p : Nat, p = 2 ^ n := ⟨_, rfl⟩
      have hpb : p ≤ 549755813888 := by rw [hp]; exact Nat.le_trans (Nat.pow_le_pow_right (by decide) (show n ≤ 39 by omega)) (by decide)
      have hp1 : 1 ≤ p := by rw [hp]; exact Nat.two_pow_pos n
      have e : ((2 : Int) ^ n) = (p : Int) := by rw [hp]; push_cast; rfl
      have hw : wrap64 (2 ^ n) = (p : Int) := by rw [e, wrap64_in _ (by omega) (by omega)]
      have hw2 : wrap64 (2 ^ (n + 1)) = 2 * (p : Int) := by
        have e2 : ((2 : Int) ^ (n + 1)) = 2 * (p : Int) := by rw [Int.pow_succ, e]; omega
        rw [e2, wrap64_in _ (by omega) (by omega)]
      have hw3 : wrap64 (-2 ^ n) = -(p : Int) := by rw [e, wrap64_in _ (by omega) (by omega)]
      have c1 : Aside0 (tiers_Class.f 1 (p : Int) = some ((n : Int) + 1)) := ⟨by
        rw [class_is 0 _ (by omega)]
        unfold cl
        rw [Int.toNat_natCast, hp, sz_pow]; rfl⟩
      have c2 : Aside0 (tiers_Class.f 1 (2 * (p : Int) - 1) = some ((n : Int) + 1)) := ⟨by
        rw [class_is 0 _ (by omega)]
        unfold cl
        have : (2 * (p : Int) - 1).toNat = 2 ^ (n + 1) - 1 := by rw [Nat.pow_succ, ← hp]; omega
        rw [this, sz_pred]; rfl⟩
      have c3 : Aside0 (tiers_Class.f 1 (-(p : Int)) = some 0) := ⟨by
        rw [class_is 0 _ (by omega)]
        unfold cl
        have : (-(p : Int)).toNat = 0 := by omega
        rw [this]; rfl⟩
      clear hp e
      go_wp2_with fail
      refine (tiers_Class.calls 1 _ _ _ c1.out).mono ?_
      rintro e w' ⟨rfl, ⟨nd1, rfl⟩⟩
      go_wp2_with fail
      refine (tiers_Class.calls 1 _ _ _ c2.out).mono ?_
      rintro e w' ⟨rfl, ⟨nd2, rfl⟩⟩
      go_wp2_with fail
      refine (tiers_Class.calls 1 _ _ _ c3.out).mono ?_
      rintro e w' ⟨rfl, ⟨nd3, rfl⟩⟩
      go_wp2_with fail
      go_roundg (39 - n)
      case measure => have := HK.out; omega
      case rel => exact ⟨n + 1, by go_num, ⟨by have := HK.out; omega⟩, HG, ⟨pw_below_drewN HB.out _⟩⟩
    · go_wp2_with fail
      obtain ⟨wo, rfl⟩ : ∃ wo : World, wo = wr := ⟨_, rfl⟩
      go_loopg [4, 5, 6, 7, 8] 12 (fun kq v4 v5 v6 v7 v8 w' => ∃ a : Nat, v4 = .int .i64 a ∧ Aside0 (kq + a = 12) ∧ Aside0 (w'.heap[w.heap.size]? = some (.cells #[.slice A0 n0 c0, .slice A1 n1 c1] 71 (0, 0))) ∧ Aside0 (Below w.heap.size w w'))
      case atStart => exact ⟨0, rfl, ⟨rfl⟩, HG, HB⟩
      case round =>
        obtain ⟨a, rfl, HK2, HG2, HB2⟩ := hrel
        obtain ⟨w2, rfl⟩ : ∃ w2 : World, w2 = wr := ⟨_, rfl⟩
        by_cases ha : a < 12
        · have ha12 : decide ((a : Int) < 12) = true := decide_eq_true (by omega)
          go_wp2_with fail
          go_loopg [5, 6] 16 (fun kq v5 v6 w' => ∃ m : Nat, v6 = .int .i64 m ∧ Aside0 (kq + m = 16) ∧ Aside0 (Kd.R (Kd.int .i64) 3 w' w.heap.size (fun k => k ≠ w.heap.size) v5 (lst a m)) ∧ Aside0 (w'.heap[w.heap.size]? = some (.cells #[.slice A0 n0 c0, .slice A1 n1 c1] 71 (0, 0))) ∧ Aside0 (Below w.heap.size w w'))
          case atStart => exact ⟨0, rfl, ⟨rfl⟩, ⟨Kd.R_nil _ _ _ _ _⟩, HG2, HB2⟩
          case round =>
            obtain ⟨m, rfl, HK3, HO, HG3, HB3⟩ := hrel
            by_cases hm : m < 16
            · by_cases h1 : a ≤ m ∧ m < a + 4
              · obtain ⟨h1a, h1b⟩ := h1
                have he : (1000 : Int) + (m : Int) = elt a m := by unfold elt; rw [if_pos ⟨h1a, h1b⟩]
                have HE := Aside0.mk he
                clear he
                go_wp2_with ((((with_reducible refine gate_builtin (b := .append) (xs := #[.tmp 56, .tmp 59]) rfl ?_); at_builtin; refine Kd.R_append (Kd.int .i64) (w0 := w) w.heap.size rfl (.tmp 56) (.tmp 59) 36 3 (.int .i64 0) 8 rfl Try.underlying36 info3 rfl (by decide) (by omega) u5 (lst a m) (1000 + (m : Int)) [.int .i64 (1000 + (m : Int))] (fun k => k ≠ w.heap.size) (fun _ => False) rfl rfl ?aP (fun _ hk => hk.elim) ?aF ?aO ?aB ?aS ?aL ?_; (case aP => exact rfl); (case aB => exact HB3.out); (case aF => exact fun k hk => by have := HB3.out.size; have := blk_lt HG3.out; omega); (case aO => exact (by (with_reducible repeat (first | apply Kd.R_alloc | apply Kd.R_drewN | apply Kd.R_drew)); exact HO.out)); (case aS => exact HB3.out.size); (case aL => rw [lst_len]; omega); intro v110 w5 ho hb hg hat)))
                have hg5 : w5.heap[w.heap.size]? = some (.cells #[.slice A0 n0 c0, .slice A1 n1 c1] 71 (0, 0)) := by
                  refine (hg.block _ (blk_lt HG3.out) ?_).trans HG3.out
                  · intro he; exact HO.out.1 _ he.symm rfl
                have N1 := Aside0.mk ho
                have N2 := Aside0.mk hb
                have N3 := Aside0.mk hg5
                clear ho hb hg hat hg5
                go_wp2_with fail
                go_roundg (15 - m)
                case measure => have := HK3.out; omega
                case rel => exact ⟨m + 1, by go_num, ⟨by have := HK3.out; omega⟩, ⟨by have := N1.out; rwa [HE.out, lst_succ] at this⟩, N3, N2⟩
              · have hne : elt a m = 2 ^ (m % 3 * 5) := by unfold elt; rw [if_neg h1]
                have HN := Aside0.mk hne
                clear hne
                by_cases h2 : a ≤ m
                · have h2a : a + 4 ≤ m := by omega
                  clear h1
                  rcases (show m % 3 = 0 ∨ m % 3 = 1 ∨ m % 3 = 2 by omega) with h3 | h3 | h3
                  · have hm3 : (m : Int) % 3 = 0 := by omega
                    have HE : Aside0 ((1 : Int) = elt a m) := ⟨by rw [HN.out, h3]; rfl⟩
                    clear h3
                    go_wp2_with ((((with_reducible refine gate_builtin (b := .append) (xs := #[.tmp 61, .tmp 66]) rfl ?_); at_builtin; refine Kd.R_append (Kd.int .i64) (w0 := w) w.heap.size rfl (.tmp 61) (.tmp 66) 36 3 (.int .i64 0) 8 rfl Try.underlying36 info3 rfl (by decide) (by omega) u5 (lst a m) (1) [.int .i64 (1)] (fun k => k ≠ w.heap.size) (fun _ => False) rfl rfl ?aP (fun _ hk => hk.elim) ?aF ?aO ?aB ?aS ?aL ?_; (case aP => exact rfl); (case aB => exact HB3.out); (case aF => exact fun k hk => by have := HB3.out.size; have := blk_lt HG3.out; omega); (case aO => exact (by (with_reducible repeat (first | apply Kd.R_alloc | apply Kd.R_drewN | apply Kd.R_drew)); exact HO.out)); (case aS => exact HB3.out.size); (case aL => rw [lst_len]; omega); intro v110 w5 ho hb hg hat)))
                    have hg5 : w5.heap[w.heap.size]? = some (.cells #[.slice A0 n0 c0, .slice A1 n1 c1] 71 (0, 0)) := by
                      refine (hg.block _ (blk_lt HG3.out) ?_).trans HG3.out
                      · intro he; exact HO.out.1 _ he.symm rfl
                    have N1 := Aside0.mk ho
                    have N2 := Aside0.mk hb
                    have N3 := Aside0.mk hg5
                    clear ho hb hg hat hg5
                    go_wp2_with fail
                    go_roundg (15 - m)
                    case measure => have := HK3.out; omega
                    case rel => exact ⟨m + 1, by go_num, ⟨by have := HK3.out; omega⟩, ⟨by have := N1.out; rwa [HE.out, lst_succ] at this⟩, N3, N2⟩
                  · have hm3 : (m : Int) % 3 = 1 := by omega
                    have HE : Aside0 ((32 : Int) = elt a m) := ⟨by rw [HN.out, h3]; rfl⟩
                    clear h3
                    go_wp2_with ((((with_reducible refine gate_builtin (b := .append) (xs := #[.tmp 61, .tmp 66]) rfl ?_); at_builtin; refine Kd.R_append (Kd.int .i64) (w0 := w) w.heap.size rfl (.tmp 61) (.tmp 66) 36 3 (.int .i64 0) 8 rfl Try.underlying36 info3 rfl (by decide) (by omega) u5 (lst a m) (32) [.int .i64 (32)] (fun k => k ≠ w.heap.size) (fun _ => False) rfl rfl ?aP (fun _ hk => hk.elim) ?aF ?aO ?aB ?aS ?aL ?_; (case aP => exact rfl); (case aB => exact HB3.out); (case aF => exact fun k hk => by have := HB3.out.size; have := blk_lt HG3.out; omega); (case aO => exact (by (with_reducible repeat (first | apply Kd.R_alloc | apply Kd.R_drewN | apply Kd.R_drew)); exact HO.out)); (case aS => exact HB3.out.size); (case aL => rw [lst_len]; omega); intro v110 w5 ho hb hg hat)))
                    have hg5 : w5.heap[w.heap.size]? = some (.cells #[.slice A0 n0 c0, .slice A1 n1 c1] 71 (0, 0)) := by
                      refine (hg.block _ (blk_lt HG3.out) ?_).trans HG3.out
                      · intro he; exact HO.out.1 _ he.symm rfl
                    have N1 := Aside0.mk ho
                    have N2 := Aside0.mk hb
                    have N3 := Aside0.mk hg5
                    clear ho hb hg hat hg5
                    go_wp2_with fail
                    go_roundg (15 - m)
                    case measure => have := HK3.out; omega
                    case rel => exact ⟨m + 1, by go_num, ⟨by have := HK3.out; omega⟩, ⟨by have := N1.out; rwa [HE.out, lst_succ] at this⟩, N3, N2⟩
                  · have hm3 : (m : Int) % 3 = 2 := by omega
                    have HE : Aside0 ((1024 : Int) = elt a m) := ⟨by rw [HN.out, h3]; rfl⟩
                    clear h3
                    go_wp2_with ((((with_reducible refine gate_builtin (b := .append) (xs := #[.tmp 61, .tmp 66]) rfl ?_); at_builtin; refine Kd.R_append (Kd.int .i64) (w0 := w) w.heap.size rfl (.tmp 61) (.tmp 66) 36 3 (.int .i64 0) 8 rfl Try.underlying36 info3 rfl (by decide) (by omega) u5 (lst a m) (1024) [.int .i64 (1024)] (fun k => k ≠ w.heap.size) (fun _ => False) rfl rfl ?aP (fun _ hk => hk.elim) ?aF ?aO ?aB ?aS ?aL ?_; (case aP => exact rfl); (case aB => exact HB3.out); (case aF => exact fun k hk => by have := HB3.out.size; have := blk_lt HG3.out; omega); (case aO => exact (by (with_reducible repeat (first | apply Kd.R_alloc | apply Kd.R_drewN | apply Kd.R_drew)); exact HO.out)); (case aS => exact HB3.out.size); (case aL => rw [lst_len]; omega); intro v110 w5 ho hb hg hat)))
                    have hg5 : w5.heap[w.heap.size]? = some (.cells #[.slice A0 n0 c0, .slice A1 n1 c1] 71 (0, 0)) := by
                      refine (hg.block _ (blk_lt HG3.out) ?_).trans HG3.out
                      · intro he; exact HO.out.1 _ he.symm rfl
                    have N1 := Aside0.mk ho
                    have N2 := Aside0.mk hb
                    have N3 := Aside0.mk hg5
                    clear ho hb hg hat hg5
                    go_wp2_with fail
                    go_roundg (15 - m)
                    case measure => have := HK3.out; omega
                    case rel => exact ⟨m + 1, by go_num, ⟨by have := HK3.out; omega⟩, ⟨by have := N1.out; rwa [HE.out, lst_succ] at this⟩, N3, N2⟩
                · have h2a : m < a := by omega
                  clear h1
                  rcases (show m % 3 = 0 ∨ m % 3 = 1 ∨ m % 3 = 2 by omega) with h3 | h3 | h3
                  · have hm3 : (m : Int) % 3 = 0 := by omega
                    have HE : Aside0 ((1 : Int) = elt a m) := ⟨by rw [HN.out, h3]; rfl⟩
                    clear h3
                    go_wp2_with ((((with_reducible refine gate_builtin (b := .append) (xs := #[.tmp 61, .tmp 66]) rfl ?_); at_builtin; refine Kd.R_append (Kd.int .i64) (w0 := w) w.heap.size rfl (.tmp 61) (.tmp 66) 36 3 (.int .i64 0) 8 rfl Try.underlying36 info3 rfl (by decide) (by omega) u5 (lst a m) (1) [.int .i64 (1)] (fun k => k ≠ w.heap.size) (fun _ => False) rfl rfl ?aP (fun _ hk => hk.elim) ?aF ?aO ?aB ?aS ?aL ?_; (case aP => exact rfl); (case aB => exact HB3.out); (case aF => exact fun k hk => by have := HB3.out.size; have := blk_lt HG3.out; omega); (case aO => exact (by (with_reducible repeat (first | apply Kd.R_alloc | apply Kd.R_drewN | apply Kd.R_drew)); exact HO.out)); (case aS => exact HB3.out.size); (case aL => rw [lst_len]; omega); intro v110 w5 ho hb hg hat)))
                    have hg5 : w5.heap[w.heap.size]? = some (.cells #[.slice A0 n0 c0, .slice A1 n1 c1] 71 (0, 0)) := by
                      refine (hg.block _ (blk_lt HG3.out) ?_).trans HG3.out
                      · intro he; exact HO.out.1 _ he.symm rfl
                    have N1 := Aside0.mk ho
                    have N2 := Aside0.mk hb
                    have N3 := Aside0.mk hg5
                    clear ho hb hg hat hg5
                    go_wp2_with fail
                    go_roundg (15 - m)
                    case measure => have := HK3.out; omega
                    case rel => exact ⟨m + 1, by go_num, ⟨by have := HK3.out; omega⟩, ⟨by have := N1.out; rwa [HE.out, lst_succ] at this⟩, N3, N2⟩
                  · have hm3 : (m : Int) % 3 = 1 := by omega
                    have HE : Aside0 ((32 : Int) = elt a m) := ⟨by rw [HN.out, h3]; rfl⟩
                    clear h3
                    go_wp2_with ((((with_reducible refine gate_builtin (b := .append) (xs := #[.tmp 61, .tmp 66]) rfl ?_); at_builtin; refine Kd.R_append (Kd.int .i64) (w0 := w) w.heap.size rfl (.tmp 61) (.tmp 66) 36 3 (.int .i64 0) 8 rfl Try.underlying36 info3 rfl (by decide) (by omega) u5 (lst a m) (32) [.int .i64 (32)] (fun k => k ≠ w.heap.size) (fun _ => False) rfl rfl ?aP (fun _ hk => hk.elim) ?aF ?aO ?aB ?aS ?aL ?_; (case aP => exact rfl); (case aB => exact HB3.out); (case aF => exact fun k hk => by have := HB3.out.size; have := blk_lt HG3.out; omega); (case aO => exact (by (with_reducible repeat (first | apply Kd.R_alloc | apply Kd.R_drewN | apply Kd.R_drew)); exact HO.out)); (case aS => exact HB3.out.size); (case aL => rw [lst_len]; omega); intro v110 w5 ho hb hg hat)))
                    have hg5 : w5.heap[w.heap.size]? = some (.cells #[.slice A0 n0 c0, .slice A1 n1 c1] 71 (0, 0)) := by
                      refine (hg.block _ (blk_lt HG3.out) ?_).trans HG3.out
                      · intro he; exact HO.out.1 _ he.symm rfl
                    have N1 := Aside0.mk ho
                    have N2 := Aside0.mk hb
                    have N3 := Aside0.mk hg5
                    clear ho hb hg hat hg5
                    go_wp2_with fail
                    go_roundg (15 - m)
                    case measure => have := HK3.out; omega
                    case rel => exact ⟨m + 1, by go_num, ⟨by have := HK3.out; omega⟩, ⟨by have := N1.out; rwa [HE.out, lst_succ] at this⟩, N3, N2⟩
                  · have hm3 : (m : Int) % 3 = 2 := by omega
                    have HE : Aside0 ((1024 : Int) = elt a m) := ⟨by rw [HN.out, h3]; rfl⟩
                    clear h3
                    go_wp2_with ((((with_reducible refine gate_builtin (b := .append) (xs := #[.tmp 61, .tmp 66]) rfl ?_); at_builtin; refine Kd.R_append (Kd.int .i64) (w0 := w) w.heap.size rfl (.tmp 61) (.tmp 66) 36 3 (.int .i64 0) 8 rfl Try.underlying36 info3 rfl (by decide) (by omega) u5 (lst a m) (1024) [.int .i64 (1024)] (fun k => k ≠ w.heap.size) (fun _ => False) rfl rfl ?aP (fun _ hk => hk.elim) ?aF ?aO ?aB ?aS ?aL ?_; (case aP => exact rfl); (case aB => exact HB3.out); (case aF => exact fun k hk => by have := HB3.out.size; have := blk_lt HG3.out; omega); (case aO => exact (by (with_reducible repeat (first | apply Kd.R_alloc | apply Kd.R_drewN | apply Kd.R_drew)); exact HO.out)); (case aS => exact HB3.out.size); (case aL => rw [lst_len]; omega); intro v110 w5 ho hb hg hat)))
                    have hg5 : w5.heap[w.heap.size]? = some (.cells #[.slice A0 n0 c0, .slice A1 n1 c1] 71 (0, 0)) := by
                      refine (hg.block _ (blk_lt HG3.out) ?_).trans HG3.out
                      · intro he; exact HO.out.1 _ he.symm rfl
                    have N1 := Aside0.mk ho
                    have N2 := Aside0.mk hb
                    have N3 := Aside0.mk hg5
                    clear ho hb hg hat hg5
                    go_wp2_with fail
                    go_roundg (15 - m)
                    case measure => have := HK3.out; omega
                    case rel => exact ⟨m + 1, by go_num, ⟨by have := HK3.out; omega⟩, ⟨by have := N1.out; rwa [HE.out, lst_succ] at this⟩, N3, N2⟩
            · have hm16 : m = 16 := by have := HK3.out; omega
              have PL := plan_lst a ha
              rw [← hm16] at PL
              have AP := Aside0.mk PL
              clear PL hm16
              have HOO := HO.out
              obtain ⟨P5, c5, rfl, hc5, hC5⟩ := Kd.R_reads HOO
              have C5 := Aside0.mk hc5
              have D5 := Aside0.mk hC5
              clear HOO hc5 hC5
              go_wp2_with fail
              refine (tiers_Plan.calls 200 _ _ (lst a m) _ _ _ D5.out C5.out AP.out).mono ?_
              rintro e w' ⟨rfl, ⟨nd5, rfl⟩⟩
              go_wp2_with fail
              go_roundg (11 - a)
              case measure => have := HK2.out; omega
              case rel => exact ⟨a + 1, by go_num, ⟨by have := HK2.out; omega⟩, HG3, ⟨pw_below_drewN HB3.out _⟩⟩
        · have A5 := Aside0.mk plan_555
          have A6 := Aside0.mk plan_nil
          have A7 : Aside0 (tiers_Class.f 1 0 = some 0) := ⟨by rw [class_is 0 0 (by omega)]; rfl⟩
          have AW := Aside0.mk (wakes_true 200 (by omega))
          go_wp2_with fail
          refine (tiers_Plan.calls 200 _ _ [5, 5, 5] _ _ _ (lit_C w2 [5, 5, 5] (by decide)) (Nat.le_refl _) A5.out).mono ?_
          rintro e w' ⟨rfl, ⟨nd5, rfl⟩⟩
          have B5 : Aside0 (Below w.heap.size w ((w2.alloc (.cells #[.int .i64 5, .int .i64 5, .int .i64 5] 3)).drewN nd5)) := ⟨pw_below_drewN (HB2.out.alloc HB2.out.size _) _⟩
          go_wp2_with fail
          refine (tiers_Plan.calls 200 none 0 [] _ _ _ (Kd.C_nil _ _) (Nat.le_refl _) A6.out).mono ?_
          rintro e w' ⟨rfl, ⟨nd6, rfl⟩⟩
          have hg6 := blk_alloc HG2.out (.cells (nums .i64 [5, 5, 5]).toArray 3)
          have hc6 : (w2.alloc (.cells (nums .i64 [5, 5, 5]).toArray 3)).cell? ⟨w.heap.size, 0, none⟩ = some (.slice A0 n0 c0) := (blk_cell hg6 0).trans rfl
          clear hg6
          go_wp2_with fail
          refine (tiers_Class.calls 1 _ _ _ A7.out).mono ?_
          rintro e w' ⟨rfl, ⟨nd7, rfl⟩⟩
          go_wp2_with fail
          refine (lecternlaw12_wakes.calls 200 _ _ AW.out).mono ?_
          rintro e w9 ⟨rfl, hb9⟩
          go_wp2_with fail
          go_ret
          exact ⟨rfl, below_then (pw_below_drewN (HB2.out.alloc HB2.out.size _) _) (pw_below_drewN (HB2.out.alloc HB2.out.size _) _).size hb9⟩
theorem classes_walk (x : List (List S137) × List Int) (cs : List Value) (w : World) (hk : kLists.K w x cs) (ok : LOk x) :
    Calls Try.prog 12 #[.agg ⟨cs⟩] w fun e w' => e = .returned (.bool true) ∧ Below w.heap.size w w' := by
  obtain ⟨c0, c1, rfl, ⟨A0, n0, rfl, h0, hC0⟩, ⟨A1, n1, rfl, h1, hC1⟩⟩ := hk
  exact classes_walk0 _ _ _ _ _ _ w
end Go.Proofs.Ytfjndhlkdckieaa.Q
