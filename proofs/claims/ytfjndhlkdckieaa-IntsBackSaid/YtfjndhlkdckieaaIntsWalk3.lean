/- 'same' and the statements' opening test, walked. -/
import Derived.Test.YtfjndhlkdckieaaIntsWalk2
namespace Go.Proofs.Ytfjndhlkdckieaa.I
open Go.RowKit Go.Proofs.YtfjndhlkdckieaaW.PrintWords Go.Proofs.YtfjndhlkdckieaaW.PrintLast Go.Proofs.YtfjndhlkdckieaaW.PrintMore Go.Proofs.Ytfjndhlkdckieaa.Opening Go.Proofs.Ytfjndhlkdckieaa.Base Go.Proofs.Ytfjndhlkdckieaa.Bits
set_option linter.unusedVariables false
set_option linter.unusedSimpArgs false

set_option maxHeartbeats 2000000 in
set_option maxRecDepth 100000 in
theorem same_calls (base g wd : Nat) (hw : wd ≤ 64) (l : List Int) (hu : U64s l) (hl : l.length ≤ 131072) (b : List Int) (hb : AllB b) (hbl : b.length = (wd * l.length + 7) / 8) (hsame : ∀ i, i < l.length → rdN b i wd wd = num l i)
    (A : Option Addr) (c : Nat) (w : World) (hC : Kd.C (Kd.int .u64) w A l.length l) (hO : OPk w base g (wd : Int) (l.length : Int) b) :
    Calls Try.prog 30 #[.pointer (some ⟨g, 0, none⟩), .int .i64 (wd : Int), .slice A l.length c] w fun e w' => e = .returned (.bool true) ∧ Drawn0 w w' := by
  have HC := Aside0.mk hC
  have HO := Aside0.mk hO
  have HS := Aside0.mk hsame
  have HU := Aside0.mk hu
  have HB := Aside0.mk hb
  clear hC hO hsame hu hb
  have hu57 := Try.underlying57
  go_enter Try.func30, Try.ntmps30
  go_wp2_with fail
  refine (len_calls base g _ _ b _ HO.out).mono ?_
  rintro e w' ⟨rfl, rfl⟩
  go_wp2_with fail
  refine (width_calls base g _ _ b _ HO.out).mono ?_
  rintro e w' ⟨rfl, rfl⟩
  go_wp2_with fail
  go_loopg [7, 8, 9] (l.length + 2) (fun kq v7 v8 v9 w' => ∃ i : Int, v7 = .int .i64 i ∧ Aside0 (-1 ≤ i) ∧ Aside0 (i ≤ l.length + 1) ∧ Aside0 ((kq : Int) + i = l.length + 1) ∧ Drawn0 w w')
  case atStart => exact ⟨-1, rfl, ⟨by omega⟩, ⟨by omega⟩, ⟨by omega⟩, Drawn0.refl _⟩
  case round =>
    obtain ⟨i, rfl, H1, H2, HK, ⟨nd, rfl⟩⟩ := hrel
    have h1 := H1.out
    have hq : ∀ z, lecternlaw2_num.f z = some z := fun z => rfl
    have AQ := Aside0.mk hq
    clear hq
    by_cases hi : i ≤ l.length
    · have hg := get_calls base g wd l.length i h1 hi hw b HB.out hl hbl (w.drewN nd) (HO.out.drewN nd)
      have HG := Aside0.mk hg
      clear hg
      by_cases h0 : 0 ≤ i ∧ i < l.length
      · have hb0 : decide (i < 0) = false := decide_eq_false (by omega)
        have hb1 : (i == (l.length : Int)) = false := beq_eq_false_iff_ne.2 (by omega)
        obtain ⟨m, rfl⟩ := Int.eq_ofNat_of_zero_le h0.1
        have hml : m < l.length := by omega
        have HG2 := HG.out
        rw [if_pos h0, Int.toNat_natCast, HS.out m hml] at HG2
        have HG3 := Aside0.mk HG2
        clear HG2 HG
        obtain ⟨ad, rfl, hx⟩ := Kd.at_int HC.out (m : Int) (by omega) (by omega)
        rw [Int.toNat_natCast, rd_num l m (fun x hx => (HU.out x hx).1)] at hx
        clear h0
        go_wp2_with fail
        refine HG3.out.mono ?_
        rintro e w' ⟨rfl, rfl⟩
        go_wp2_with fail
        refine (lecternlaw2_num.calls 0 0 _ (AQ.out 0)).mono ?_
        rintro e w' ⟨rfl, ⟨nd2, rfl⟩⟩
        go_wp2_with fail
        go_roundg (l.length + 1 - (m + 1))
        case measure => have := HK.out; omega
        case rel => exact ⟨(m : Int) + 1, by go_num, ⟨by omega⟩, ⟨by omega⟩, ⟨by have := HK.out; omega⟩, by repeat (first | exact Drawn0.refl _ | apply Drawn0.step)⟩
      · have HG2 := HG.out
        rw [if_neg h0] at HG2
        have HG3 := Aside0.mk HG2
        clear HG2 HG
        by_cases hneg : i < 0
        · have hb0 : decide (i < 0) = true := decide_eq_true hneg
          have hi1 : i = -1 := by omega
          subst hi1
          clear h0
          go_wp2_with fail
          refine HG3.out.mono ?_
          rintro e w' ⟨rfl, rfl⟩
          go_wp2_with fail
          refine (lecternlaw2_num.calls 3 3 _ (AQ.out 3)).mono ?_
          rintro e w' ⟨rfl, ⟨nd2, rfl⟩⟩
          go_wp2_with fail
          go_roundg (l.length + 1 - (0))
          case measure => have := HK.out; omega
          case rel => exact ⟨0, by go_num, ⟨by omega⟩, ⟨by omega⟩, ⟨by have := HK.out; omega⟩, by repeat (first | exact Drawn0.refl _ | apply Drawn0.step)⟩
        · have hb0 : decide (i < 0) = false := decide_eq_false hneg
          have hi1 : i = (l.length : Int) := by omega
          subst hi1
          have hb1 : ((l.length : Int) == (l.length : Int)) = true := by simp
          clear h0
          go_wp2_with fail
          refine HG3.out.mono ?_
          rintro e w' ⟨rfl, rfl⟩
          go_wp2_with fail
          refine (lecternlaw2_num.calls 3 3 _ (AQ.out 3)).mono ?_
          rintro e w' ⟨rfl, ⟨nd2, rfl⟩⟩
          go_wp2_with fail
          go_roundg (l.length + 1 - (l.length + 1))
          case measure => have := HK.out; omega
          case rel => exact ⟨(l.length : Int) + 1, by go_num, ⟨by omega⟩, ⟨by omega⟩, ⟨by have := HK.out; omega⟩, by repeat (first | exact Drawn0.refl _ | apply Drawn0.step)⟩
    · go_wp2_with fail
      go_ret
      exact ⟨rfl, by repeat (first | exact Drawn0.refl _ | apply Drawn0.step)⟩
theorem lit_C (W : World) (e : TypeId) (k : IntKind) (xs : List Int) (h : xs.length ≤ 9223372036854775807) : Kd.C (Kd.int k) (W.alloc (.cells (nums k xs).toArray e)) (some ⟨W.heap.size, 0, none⟩) xs.length xs := by
  obtain ⟨A, c, he, hr⟩ := own_reads (own_lit W W.heap.size e k xs (Nat.le_refl _) h)
  injection he with h1 h2 h3
  subst h1
  exact Kd.C_of_reads (d := (0 : Int)) (h1 := fun _ => rfl) hr
theorem enc_56 : enc 3 [5, 6] = [53] := by decide +kernel
set_option maxHeartbeats 1000000 in
set_option maxRecDepth 100000 in
theorem wakes_calls (w : World) : Calls Try.prog 35 #[] w fun e w' => e = .returned (.bool true) ∧ Below w.heap.size w w' := by
  have hu57 := Try.underlying57
  have AQ : Aside0 (lecternlaw2_num.f 0 = some 0) := ⟨rfl⟩
  have AE : Aside0 (lecternref0_EqBytes.f 5 [53] [53] = some true) := ⟨eqb_is [53] [53] (by decide) 5 (by decide)⟩
  go_enter Try.func35, Try.ntmps35
  go_wp2_with fail
  have h56 : ∀ x ∈ ([5, 6] : List Int), x.toNat < 2 ^ 3 := by decide
  have hU : U64s [5, 6] := by unfold U64s; decide
  refine (new_yes 3 (by decide) [5, 6] hU (by decide) h56 _ _ _ (lit_C w 23 .u64 [5, 6] (by decide)) (by decide)).mono ?_
  clear h56 hU
  rintro e w1 ⟨g, rfl, hb1, ho1⟩
  rw [enc_56] at ho1
  have HB1 : Aside0 (Below w.heap.size w w1) := ⟨below_then ((Below.refl _ _).alloc (Nat.le_refl _) _) (by simp) hb1⟩
  have HO1 := Aside0.mk ho1
  clear hb1 ho1
  go_wp2_with fail
  refine (lecternlaw2_num.calls 0 0 _ AQ.out).mono ?_
  rintro e w' ⟨rfl, ⟨nd2, rfl⟩⟩
  go_wp2_with fail
  refine (bytes_calls _ g _ _ [53] (by decide) _ (HO1.out.drewN nd2)).mono ?_
  rintro e w2 ⟨v2, rfl, hr2, hb2⟩
  obtain ⟨P2, c2, rfl, hc2, hC2⟩ := Kd.R_reads hr2
  have HB2 : Aside0 (Below w.heap.size w w2) := ⟨below_then (pw_below_drewN HB1.out nd2) (pw_below_drewN HB1.out nd2).size hb2⟩
  have HC2 := Aside0.mk hC2
  have HL2 := Aside0.mk hc2
  clear hr2 hb2 hC2 hc2
  go_wp2_with fail
  refine (lecternref0_EqBytes.calls 5 _ _ [53] _ _ [53] true _ (Kd.C_alloc HC2.out _) HL2.out (lit_C w2 5 .u8 [53] (by decide)) (by decide) AE.out).mono ?_
  rintro e w' ⟨rfl, ⟨nd3, rfl⟩⟩
  go_wp2_with fail
  go_ret
  exact ⟨rfl, pw_below_drewN (HB2.out.alloc HB2.out.size _) _⟩
end Go.Proofs.Ytfjndhlkdckieaa.I
