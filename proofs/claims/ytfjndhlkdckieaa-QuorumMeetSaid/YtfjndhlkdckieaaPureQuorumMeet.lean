/- QuorumMeet's Go text, walked; what its calls answer for 1 to 7 nodes and all sets is worked out by the kernel. -/
import Derived.Test.YtfjndhlkdckieaaPQuorumMeetx0
import Derived.Test.YtfjndhlkdckieaaPQuorumMeetx4
import Derived.Test.YtfjndhlkdckieaaPQuorumMeetx5
import Derived.Test.YtfjndhlkdckieaaPQuorumMeetx6
import Derived.Test.YtfjndhlkdckieaaPQuorumMeetx7
import Derived.Test.YtfjndhlkdckieaaBase
namespace Go.Proofs.Ytfjndhlkdckieaa.PQuorumMeet
open Go.RowKit Go.Proofs.YtfjndhlkdckieaaW.PrintWords Go.Proofs.YtfjndhlkdckieaaW.PrintLast Go.Proofs.YtfjndhlkdckieaaW.PrintMore Go.Proofs.Ytfjndhlkdckieaa.Opening Go.Proofs.Ytfjndhlkdckieaa.Base
set_option linter.unusedVariables false
set_option linter.unusedSimpArgs false

def check (n a : Nat) : Bool :=
  match lecternlaw24_set.f 20 (a : Int), lecternlaw24_set.f 20 ((2 ^ n - 1 - a : Nat) : Int) with
  | some l, some m =>
    match quorum_Enough.f 20 (n : Int) l, quorum_Enough.f 20 (n : Int) m with
    | some (x, e), some (y, f) => decide (e = 0) && decide (f = 0) && !(x && y) && (decide (n % 2 = 0) || x || y) && (x == decide (2 * l.length > n)) && decide (l.length ≤ 7)
    | _, _ => false
  | _, _ => false
theorem check_all : ((List.range 8).all fun n => (List.range (2 ^ n)).all fun a => decide (n = 0) || check n a) = true := by decide +kernel
theorem check_at (n a : Nat) (h0 : 1 ≤ n) (h1 : n ≤ 7) (ha : a < 2 ^ n) : ∃ (l m : List Int) (x y : Bool), lecternlaw24_set.f 20 (a : Int) = some l ∧ lecternlaw24_set.f 20 ((2 ^ n - 1 - a : Nat) : Int) = some m ∧
    quorum_Enough.f 20 (n : Int) l = some (x, 0) ∧ quorum_Enough.f 20 (n : Int) m = some (y, 0) ∧ (x && y) = false ∧ (n % 2 = 1 → (x || y) = true) ∧ x = decide (2 * l.length > n) ∧ l.length ≤ 7 := by
  have h := List.all_eq_true.1 (List.all_eq_true.1 check_all n (by simp; omega)) a (by simpa using ha)
  rw [decide_eq_false (by omega), Bool.false_or] at h
  unfold check at h
  split at h
  · rename_i l m hl hm
    split at h
    · rename_i x e y f hx hy
      simp only [Bool.and_eq_true, decide_eq_true_eq, Bool.or_eq_true, beq_iff_eq, Bool.not_eq_true'] at h
      obtain ⟨⟨⟨⟨⟨rfl, rfl⟩, h3⟩, h4⟩, h5⟩, h6⟩ := h
      refine ⟨l, m, x, y, hl, hm, hx, hy, h3, fun hn => ?_, h5, h6⟩
      rcases h4 with (h4 | h4) | h4
      · omega
      · simp [h4]
      · simp [h4]
    · cases h
  · cases h
theorem wakes_true : lecternlaw24_wakes.f 20 = some true := by decide +kernel
set_option maxHeartbeats 1000000 in
set_option maxRecDepth 100000 in
theorem walk0 (A : Option Addr) (c : Nat) (l : List S194) (w : World) (hC : Kd.C k194 w A l.length l) (hc : l.length ≤ c) (hl : l.length ≤ 140737488351232) :
    Calls Try.prog 6 #[.slice A l.length c] w fun e w' => e = .returned (.bool true) ∧ Below w.heap.size w w' := by
  clear hC
  go_enter Try.func6, Try.ntmps6
  go_wp2
  go_loopg [3] 7 (fun kq v3 w' => ∃ n : Nat, v3 = .int .i64 n ∧ Aside0 (kq + n = 8) ∧ Aside0 (1 ≤ n) ∧ Aside0 (Below w.heap.size w w'))
  case atStart => exact ⟨1, rfl, ⟨rfl⟩, ⟨by omega⟩, ⟨Below.refl _ _⟩⟩
  case round =>
    obtain ⟨n, rfl, HK, HN, HB⟩ := hrel
    obtain ⟨wo, rfl⟩ : ∃ wo : World, wo = wr := ⟨_, rfl⟩
    by_cases hn : n ≤ 7
    · have hn0 : 1 ≤ n := HN.out
      have hn7 : decide ((n : Int) ≤ 7) = true := decide_eq_true (by omega)
      obtain ⟨p, hp⟩ : ∃ p, p = 2 ^ n := ⟨_, rfl⟩
      have hp128 : p ≤ 128 := by rw [hp]; exact Nat.pow_le_pow_right (n := 2) (by decide) hn
      have hw : wrap64 (2 ^ n) = (p : Int) := by
        have e : ((2 : Int) ^ n) = (p : Int) := by rw [hp]; push_cast; rfl
        rw [e, wrap64_in _ (by omega) (by omega)]
      have HP := Aside0.mk hp
      clear hp
      go_wp2
      go_loopg [4, 5, 6, 7, 8] p (fun kq v4 v5 v6 v7 v8 w2 => ∃ a : Nat, v4 = .int .i64 a ∧ Aside0 (kq + a = p) ∧ Aside0 (Below w.heap.size w w2))
      case atStart => exact ⟨0, rfl, ⟨by omega⟩, HB⟩
      case round =>
        obtain ⟨a, rfl, HK2, HB2⟩ := hrel
        by_cases ha : a < p
        · obtain ⟨l1, l2, x, y, h1, h2, h3, h4, h5, h6, h7, h8⟩ := check_at n a hn0 hn (by rw [← HP.out]; exact ha)
          have A1 := Aside0.mk h1
          have A2 : Aside0 (lecternlaw24_set.f 20 ((p : Int) - 1 - (a : Int)) = some l2) := ⟨by
            rw [← HP.out] at h2
            rw [show (p : Int) - 1 - (a : Int) = ((p - 1 - a : Nat) : Int) by omega]
            exact h2⟩
          have A3 := Aside0.mk h3
          have A4 := Aside0.mk h4
          have AX := Aside0.mk h7
          have A5 := Aside0.mk h5
          have A6 := Aside0.mk h6
          clear h1 h2 h3 h4 h5 h6 h7
          go_upto_region 7 with fail
          go_wp2_with fail
          refine (lecternlaw24_set.calls 20 _ _ _ A1.out).mono ?_
          rintro e w1 ⟨v1, rfl, hr1, hb1⟩
          obtain ⟨P1, c1, rfl, hc1, hC1⟩ := Kd.R_reads hr1
          have R1 := Aside0.mk hr1
          have B1 := Aside0.mk (below_then HB2.out HB2.out.size hb1)
          have C1 := Aside0.mk hc1
          have D1 := Aside0.mk hC1
          clear hr1 hb1 hc1 hC1
          go_wp2_with fail
          refine (quorum_Enough.calls 20 _ _ _ l1 x 0 _ D1.out C1.out A3.out).mono ?_
          rintro e w' ⟨rfl, ⟨n1, rfl⟩⟩
          go_wp2_with fail
          refine (lecternlaw24_set.calls 20 _ _ _ A2.out).mono ?_
          rintro e w2 ⟨v2, rfl, hr2, hb2⟩
          obtain ⟨P2, c2, rfl, hc2, hC2⟩ := Kd.R_reads hr2
          have B2 : Aside0 (Below w.heap.size w w2) := ⟨below_then (pw_below_drewN B1.out n1) (pw_below_drewN B1.out n1).size hb2⟩
          have C2 := Aside0.mk hc2
          have D2 := Aside0.mk hC2
          clear hr2 hb2 hc2 hC2
          go_wp2_with fail
          refine (quorum_Enough.calls 20 _ _ _ l2 y 0 _ D2.out C2.out A4.out).mono ?_
          rintro e w' ⟨rfl, ⟨n2, rfl⟩⟩
          have B3 : Aside0 (Below w.heap.size w (w2.drewN n2)) := ⟨pw_below_drewN B2.out n2⟩
          have hq : lecternlaw24_num.f 0 = some 0 := rfl
          have AQ := Aside0.mk hq
          clear hq
          go_wp2_with fail
          refine (lecternlaw24_num.calls 0 0 _ AQ.out).mono ?_
          rintro e w' ⟨rfl, ⟨n3, rfl⟩⟩
          go_wp2_with fail
          refine (lecternlaw24_num.calls 0 0 _ AQ.out).mono ?_
          rintro e w' ⟨rfl, ⟨n4, rfl⟩⟩
          cases x <;> cases y
          · have hpar : ((n : Int) % 2 == 1) = false := by
              have : n % 2 ≠ 1 := fun h => by have := A6.out h; simp at this
              rw [beq_eq_false_iff_ne]; omega
            have hbig : decide ((n : Int) < 2 * (l1.length : Int)) = false := by
              have := AX.out
              have h2 : ¬ (2 * l1.length > n) := of_decide_eq_false this.symm
              exact decide_eq_false (by omega)
            go_wp2_with fail
            refine (lecternlaw24_set.calls 20 _ _ _ A1.out).mono ?_
            rintro e w5 ⟨v5, rfl, hr5, hb5⟩
            obtain ⟨P5, c5, rfl, hc5, hC5⟩ := Kd.R_reads hr5
            have B6 : Aside0 (Below w.heap.size w w5) := ⟨below_then (pw_below_drewN B2.out _) (pw_below_drewN B2.out _).size hb5⟩
            clear hr5 hb5 hc5 hC5
            go_wp2_with fail
            go_roundg (p - (a + 1))
            case measure => have := HK2.out; omega
            case rel => exact ⟨a + 1, by go_num, ⟨by have := HK2.out; omega⟩, B6⟩
          · rcases Bool.eq_false_or_eq_true ((n : Int) % 2 == 1) with hpar | hpar
            · skip
              have hbig : decide ((n : Int) < 2 * (l1.length : Int)) = false := by
                have := AX.out
                have h2 : ¬ (2 * l1.length > n) := of_decide_eq_false this.symm
                exact decide_eq_false (by omega)
              go_wp2_with fail
              refine (lecternlaw24_set.calls 20 _ _ _ A1.out).mono ?_
              rintro e w5 ⟨v5, rfl, hr5, hb5⟩
              obtain ⟨P5, c5, rfl, hc5, hC5⟩ := Kd.R_reads hr5
              have B6 : Aside0 (Below w.heap.size w w5) := ⟨below_then (pw_below_drewN B2.out _) (pw_below_drewN B2.out _).size hb5⟩
              clear hr5 hb5 hc5 hC5
              go_wp2_with fail
              go_roundg (p - (a + 1))
              case measure => have := HK2.out; omega
              case rel => exact ⟨a + 1, by go_num, ⟨by have := HK2.out; omega⟩, B6⟩
            · skip
              have hbig : decide ((n : Int) < 2 * (l1.length : Int)) = false := by
                have := AX.out
                have h2 : ¬ (2 * l1.length > n) := of_decide_eq_false this.symm
                exact decide_eq_false (by omega)
              go_wp2_with fail
              refine (lecternlaw24_set.calls 20 _ _ _ A1.out).mono ?_
              rintro e w5 ⟨v5, rfl, hr5, hb5⟩
              obtain ⟨P5, c5, rfl, hc5, hC5⟩ := Kd.R_reads hr5
              have B6 : Aside0 (Below w.heap.size w w5) := ⟨below_then (pw_below_drewN B2.out _) (pw_below_drewN B2.out _).size hb5⟩
              clear hr5 hb5 hc5 hC5
              go_wp2_with fail
              go_roundg (p - (a + 1))
              case measure => have := HK2.out; omega
              case rel => exact ⟨a + 1, by go_num, ⟨by have := HK2.out; omega⟩, B6⟩
          · rcases Bool.eq_false_or_eq_true ((n : Int) % 2 == 1) with hpar | hpar
            · skip
              have hbig : decide ((n : Int) < 2 * (l1.length : Int)) = true := by
                have := AX.out
                have h2 : 2 * l1.length > n := of_decide_eq_true this.symm
                exact decide_eq_true (by omega)
              go_wp2_with fail
              refine (lecternlaw24_set.calls 20 _ _ _ A1.out).mono ?_
              rintro e w5 ⟨v5, rfl, hr5, hb5⟩
              obtain ⟨P5, c5, rfl, hc5, hC5⟩ := Kd.R_reads hr5
              have B6 : Aside0 (Below w.heap.size w w5) := ⟨below_then (pw_below_drewN B2.out _) (pw_below_drewN B2.out _).size hb5⟩
              clear hr5 hb5 hc5 hC5
              go_wp2_with fail
              go_roundg (p - (a + 1))
              case measure => have := HK2.out; omega
              case rel => exact ⟨a + 1, by go_num, ⟨by have := HK2.out; omega⟩, B6⟩
            · skip
              have hbig : decide ((n : Int) < 2 * (l1.length : Int)) = true := by
                have := AX.out
                have h2 : 2 * l1.length > n := of_decide_eq_true this.symm
                exact decide_eq_true (by omega)
              go_wp2_with fail
              refine (lecternlaw24_set.calls 20 _ _ _ A1.out).mono ?_
              rintro e w5 ⟨v5, rfl, hr5, hb5⟩
              obtain ⟨P5, c5, rfl, hc5, hC5⟩ := Kd.R_reads hr5
              have B6 : Aside0 (Below w.heap.size w w5) := ⟨below_then (pw_below_drewN B2.out _) (pw_below_drewN B2.out _).size hb5⟩
              clear hr5 hb5 hc5 hC5
              go_wp2_with fail
              go_roundg (p - (a + 1))
              case measure => have := HK2.out; omega
              case rel => exact ⟨a + 1, by go_num, ⟨by have := HK2.out; omega⟩, B6⟩
          · exact absurd A5.out (by simp)
        · go_wp2_with fail
          go_roundg (7 - n)
          case measure => have := HK.out; omega
          case rel => exact ⟨n + 1, by go_num, ⟨by have := HK.out; omega⟩, ⟨by omega⟩, HB2⟩
    · have AW := Aside0.mk wakes_true
      go_wp2_with (go_at_call 23; (with_reducible refine (lecternlaw24_wakes.calls 20 _ _ AW.out).mono ?_); rintro e w' ⟨rfl, hb⟩)
      go_ret
      exact ⟨rfl, below_then HB.out HB.out.size hb⟩
theorem opens_194 : Opens Try.prog 194 k194 (fun b => (Lit.int .i64 b.f0).wf = true ∧ (b.f1.length * 8 ≤ 140737488351232 ∧ ∀ x ∈ b.f1, (Lit.int .i64 x).wf = true) ∧ (b.f2.length * 8 ≤ 140737488351232 ∧ ∀ x ∈ b.f2, (Lit.int .i64 x).wf = true)) :=
  opens_struct (fun x : S194 => (x.f0, x.f1, x.f2)) (fun p => ⟨p.1, p.2.1, p.2.2⟩) (fun _ => rfl) Try.underlying194 (by kernel_rfl)
    (show OpensFs Try.prog [3, 36, 36] _ _ from opens_cons (opens_int Try.underlying3 (by kernel_rfl)) (opens_cons (opens_slice Try.underlying36 (by kernel_rfl) (by kernel_rfl) (opens_int Try.underlying3 (by kernel_rfl))) (opens_last (opens_slice Try.underlying36 (by kernel_rfl) (by kernel_rfl) (opens_int Try.underlying3 (by kernel_rfl))))))
theorem opens_32 : Opens Try.prog 32 (Kd.slice 194 k194) (fun l => l.length * 56 ≤ 140737488351232 ∧ ∀ x ∈ l, (Lit.int .i64 x.f0).wf = true ∧ (x.f1.length * 8 ≤ 140737488351232 ∧ ∀ y ∈ x.f1, (Lit.int .i64 y).wf = true) ∧ (x.f2.length * 8 ≤ 140737488351232 ∧ ∀ y ∈ x.f2, (Lit.int .i64 y).wf = true)) := opens_slice (B := 56) Try.underlying32 (by kernel_rfl) (by kernel_rfl) opens_194
theorem walk (A : Option Addr) (c : Nat) (l : List S194) (w : World) (hC : Kd.C k194 w A l.length l) (hc : l.length ≤ c) (ok : l.length * 56 ≤ 140737488351232 ∧ ∀ x ∈ l, (Lit.int .i64 x.f0).wf = true ∧ (x.f1.length * 8 ≤ 140737488351232 ∧ ∀ y ∈ x.f1, (Lit.int .i64 y).wf = true) ∧ (x.f2.length * 8 ≤ 140737488351232 ∧ ∀ y ∈ x.f2, (Lit.int .i64 y).wf = true)) :
    Calls Try.prog 6 #[.slice A l.length c] w fun e w' => e = .returned (.bool true) ∧ Below w.heap.size w w' := walk0 A c l w hC hc (by omega)
end Go.Proofs.Ytfjndhlkdckieaa.PQuorumMeet
