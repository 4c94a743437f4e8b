/- IntsWidths, walked. -/
import Derived.Test.YtfjndhlkdckieaaIntsLaw
namespace Go.Proofs.Ytfjndhlkdckieaa.I
open Go.RowKit Go.Proofs.YtfjndhlkdckieaaW.PrintWords Go.Proofs.YtfjndhlkdckieaaW.PrintLast Go.Proofs.YtfjndhlkdckieaaW.PrintMore Go.Proofs.Ytfjndhlkdckieaa.Opening Go.Proofs.Ytfjndhlkdckieaa.Base Go.Proofs.Ytfjndhlkdckieaa.Bits
set_option linter.unusedVariables false
set_option linter.unusedSimpArgs false

def three (T : Int) : List Int := [T, 0, T]
theorem three_u64 {T : Int} (h0 : 0 ≤ T) (h1 : T < 2 ^ 64) : U64s (three T) := by
  intro x hx
  simp only [three, List.mem_cons, List.not_mem_nil, or_false] at hx
  rcases hx with rfl | rfl | rfl
  · exact ⟨h0, h1⟩
  · exact ⟨by omega, by omega⟩
  · exact ⟨h0, h1⟩
theorem three_max {T : Int} {n : Nat} (h : T.toNat < 2 ^ n) : ∀ x ∈ three T, x.toNat < 2 ^ n := by
  intro x hx
  simp only [three, List.mem_cons, List.not_mem_nil, or_false] at hx
  rcases hx with rfl | rfl | rfl
  · exact h
  · show (0 : Int).toNat < 2 ^ n
    simpa using Nat.two_pow_pos n
  · exact h
theorem get_three (base g n : Nat) (hn : n ≤ 64) (T : Int) (h0 : 0 ≤ T) (h : T.toNat < 2 ^ n) (w : World) (hO : OPk w base g (n : Int) (((three T).length : Nat) : Int) (enc n (three T))) (i : Nat) (hi : i < 3) :
    Calls Try.prog 38 #[.pointer (some ⟨g, 0, none⟩), .int .i64 (i : Int)] w fun e w' => e = .returned (.tuple #[.int .u64 (if i = 1 then 0 else T), .int .i64 0]) ∧ w = w' := by
  have hl : (three T).length = 3 := rfl
  have hc := get_calls base g n (three T).length (i : Int) (by omega) (by omega) hn (enc n (three T)) (enc_all _ _) (by rw [hl]; omega) (enc_len n (three T)) w hO
  rw [if_pos ⟨by omega, by rw [hl]; omega⟩, Int.toNat_natCast, rd_enc n (three T) i (by rw [hl]; exact hi) (by
    unfold num
    rw [List.getD_eq_getElem?_getD, List.getElem?_eq_getElem (by rw [hl]; exact hi)]
    exact three_max h _ (List.getElem_mem _))] at hc
  have e0 : (three T).getD i 0 = if i = 1 then 0 else T := by
    match i, hi with
    | 0, _ => rfl
    | 1, _ => rfl
    | 2, _ => rfl
  have e : ((num (three T) i : Nat) : Int) = if i = 1 then 0 else T := by
    rw [← e0]
    unfold num
    have : 0 ≤ (three T).getD i 0 := by
      match i, hi with
      | 0, _ => exact h0
      | 1, _ => exact Int.le_refl 0
      | 2, _ => exact h0
    omega
  rw [e] at hc
  exact hc
set_option maxHeartbeats 4000000 in
set_option maxRecDepth 100000 in
theorem widths_walk (A : Option Addr) (c : Nat) (l : List Ask) (w : World) (hC : Kd.C kAsk w A l.length l) (hc : l.length ≤ c) (ok : l.length * 64 ≤ 140737488351232 ∧ ∀ x ∈ l, AOk x) :
    Calls Try.prog 8 #[.slice A l.length c] w fun e w' => e = .returned (.bool true) ∧ Below w.heap.size w w' := by
  have hlen : l.length ≤ 140737488351232 := by omega
  clear hC ok
  have hu57 := Try.underlying57
  have AQ : Aside0 (∀ z, lecternlaw2_num.f z = some z) := ⟨fun z => rfl⟩
  go_enter Try.func8, Try.ntmps8
  go_wp2_with fail
  go_loopg [3, 4, 5, 6, 7, 8, 9, 10, 11, 12, 13, 14] 65 (fun kq v3 v4 v5 v6 v7 v8 v9 v10 v11 v12 v13 v14 w' => ∃ n : Nat, v3 = .int .i64 (n : Int) ∧ Aside0 (kq + n = 65) ∧ Aside0 (Below w.heap.size w w'))
  case atStart => exact ⟨0, rfl, ⟨by omega⟩, ⟨Below.refl _ _⟩⟩
  case round =>
    obtain ⟨n, rfl, HK, HB⟩ := hrel
    by_cases hn : n ≤ 64
    · by_cases h64 : n = 64
      · subst h64
        have HT0 : Aside0 ((0 : Int) ≤ 18446744073709551615) := ⟨by decide⟩
        have HT1 : Aside0 ((18446744073709551615 : Int) < 2 ^ 64) := ⟨by decide⟩
        have HT2 : Aside0 ((18446744073709551615 : Int).toNat < 2 ^ 64) := ⟨by decide⟩
        have hlen3 : (enc 64 (three 18446744073709551615)).length = (64 * 3 + 7) / 8 := enc_len 64 (three 18446744073709551615)
        have HEL := Aside0.mk hlen3
        clear hlen3
        go_wp2_with fail
        refine (new_yes 64 (by decide) (three 18446744073709551615) (three_u64 HT0.out HT1.out) (by show 3 ≤ 131072; decide) (three_max HT2.out) _ _ _ (lit_C wr 23 .u64 (three 18446744073709551615) (by show 3 ≤ 9223372036854775807; decide)) (Nat.le_refl 3)).mono ?_
        rintro e w1 ⟨g, rfl, hb1, ho1⟩
        have HB1 : Aside0 (Below w.heap.size w w1) := ⟨below_then (HB.out.alloc HB.out.size _) (HB.out.alloc HB.out.size _).size hb1⟩
        have HO1 := Aside0.mk ho1
        clear hb1 ho1
        go_wp2_with fail
        refine (lecternlaw2_num.calls 0 0 _ (AQ.out 0)).mono ?_
        rintro e w' ⟨rfl, ⟨n1, rfl⟩⟩
        go_wp2_with fail
        refine (width_calls _ g _ _ _ _ (HO1.out.drewN _)).mono ?_
        rintro e w' ⟨rfl, rfl⟩
        go_wp2_with fail
        refine (len_calls _ g _ _ _ _ (HO1.out.drewN _)).mono ?_
        rintro e w' ⟨rfl, rfl⟩
        have hl3 : ((((three 18446744073709551615).length : Nat) : Int) != 3) = false := rfl
        go_wp2_with fail
        refine (bytes_calls _ g _ _ _ (by rw [HEL.out]; omega) _ (HO1.out.drewN _)).mono ?_
        rintro e w2 ⟨v2, rfl, hr2, hb2⟩
        obtain ⟨P2, c2, rfl, hc2, hC2⟩ := Kd.R_reads hr2
        rw [HEL.out]
        have HB2 : Aside0 (Below w.heap.size w w2) := ⟨below_then (pw_below_drewN HB1.out n1) (pw_below_drewN HB1.out n1).size hb2⟩
        have HO2 := Aside0.mk ((HO1.out.drewN n1).below hb2)
        clear hr2 hb2 hc2 hC2
        go_wp2_with fail
        refine (get_three _ g 64 (by decide) 18446744073709551615 HT0.out HT2.out _ HO2.out 0 (by decide)).mono ?_
        rintro e w' ⟨rfl, rfl⟩
        go_wp2_with fail
        refine (get_three _ g 64 (by decide) 18446744073709551615 HT0.out HT2.out _ HO2.out 1 (by decide)).mono ?_
        rintro e w' ⟨rfl, rfl⟩
        go_wp2_with fail
        refine (get_three _ g 64 (by decide) 18446744073709551615 HT0.out HT2.out _ HO2.out 2 (by decide)).mono ?_
        rintro e w' ⟨rfl, rfl⟩
        go_wp2_with fail
        refine (lecternlaw2_num.calls 0 0 _ (AQ.out 0)).mono ?_
        rintro e w' ⟨rfl, ⟨n3, rfl⟩⟩
        go_wp2_with fail
        refine (lecternlaw2_num.calls 0 0 _ (AQ.out 0)).mono ?_
        rintro e w' ⟨rfl, ⟨n4, rfl⟩⟩
        go_wp2_with fail
        refine (lecternlaw2_num.calls 0 0 _ (AQ.out 0)).mono ?_
        rintro e w' ⟨rfl, ⟨n5, rfl⟩⟩
        go_wp2_with fail
        go_roundg 0
        case measure => have := HK.out; omega
        case rel => exact ⟨65, by go_num, ⟨rfl⟩, ⟨pw_below_drewN HB2.out _⟩⟩
      · have hb64 : ((n : Int) == 64) = false := beq_eq_false_iff_ne.2 (by omega)
        have hlt : decide ((n : Int) < 64) = true := decide_eq_true (by omega)
        have hn63 : n < 64 := by omega
        obtain ⟨T, hT⟩ : ∃ T : Nat, T = 2 ^ n - 1 := ⟨_, rfl⟩
        have hpos := Nat.two_pow_pos n
        have h63 : 2 ^ n ≤ 2 ^ 63 := Nat.pow_le_pow_right (by decide) (by omega)
        have htop : IntKind.u64.wrap (IntKind.u64.wrap (2 ^ n) - 1) = (T : Int) := by
          have e : ((2 : Int) ^ n) = ((2 ^ n : Nat) : Int) := by push_cast; rfl
          rw [e, wrap_u64_in ((2 ^ n : Nat) : Int) (by omega) (by omega), wrap_u64_in _ (by omega) (by omega)]
          omega
        have htop1 : IntKind.u64.wrap ((T : Int) + 1) = (T : Int) + 1 := wrap_u64_in _ (by omega) (by omega)
        have HT0 : Aside0 ((0 : Int) ≤ (T : Int)) := ⟨by omega⟩
        have HT1 : Aside0 ((T : Int) < 2 ^ 64) := ⟨by omega⟩
        have HT2 : Aside0 ((T : Int).toNat < 2 ^ n) := ⟨by omega⟩
        have HU1 : Aside0 (U64s [(T : Int) + 1]) := ⟨by intro x hx; rw [List.mem_singleton.1 hx]; exact ⟨by omega, by omega⟩⟩
        have HM1 : Aside0 (∃ x ∈ [(T : Int) + 1], 2 ^ n ≤ x.toNat) := ⟨_, List.mem_singleton.2 rfl, by omega⟩
        clear hT hpos h63
        have hlen3 : (enc n (three (T : Int))).length = (n * 3 + 7) / 8 := enc_len n (three (T : Int))
        have HEL := Aside0.mk hlen3
        clear hlen3
        go_wp2_with fail
        refine (new_yes n hn (three (T : Int)) (three_u64 HT0.out HT1.out) (by show 3 ≤ 131072; decide) (three_max HT2.out) _ _ _ (lit_C wr 23 .u64 (three (T : Int)) (by show 3 ≤ 9223372036854775807; decide)) (Nat.le_refl 3)).mono ?_
        rintro e w1 ⟨g, rfl, hb1, ho1⟩
        have HB1 : Aside0 (Below w.heap.size w w1) := ⟨below_then (HB.out.alloc HB.out.size _) (HB.out.alloc HB.out.size _).size hb1⟩
        have HO1 := Aside0.mk ho1
        clear hb1 ho1
        go_wp2_with fail
        refine (lecternlaw2_num.calls 0 0 _ (AQ.out 0)).mono ?_
        rintro e w' ⟨rfl, ⟨n1, rfl⟩⟩
        go_wp2_with fail
        refine (width_calls _ g _ _ _ _ (HO1.out.drewN _)).mono ?_
        rintro e w' ⟨rfl, rfl⟩
        go_wp2_with fail
        refine (len_calls _ g _ _ _ _ (HO1.out.drewN _)).mono ?_
        rintro e w' ⟨rfl, rfl⟩
        have hl3 : ((((three (T : Int)).length : Nat) : Int) != 3) = false := rfl
        go_wp2_with fail
        refine (bytes_calls _ g _ _ _ (by rw [HEL.out]; omega) _ (HO1.out.drewN _)).mono ?_
        rintro e w2 ⟨v2, rfl, hr2, hb2⟩
        obtain ⟨P2, c2, rfl, hc2, hC2⟩ := Kd.R_reads hr2
        rw [HEL.out]
        have HB2 : Aside0 (Below w.heap.size w w2) := ⟨below_then (pw_below_drewN HB1.out n1) (pw_below_drewN HB1.out n1).size hb2⟩
        have HO2 := Aside0.mk ((HO1.out.drewN n1).below hb2)
        clear hr2 hb2 hc2 hC2
        have hq : ((((n * 3 + 7) / 8 : Nat) : Int) != ((3 * (n : Int) + 7) / 8)) = false := by rw [bne_eq_false_iff_eq]; omega
        go_wp2_with fail
        refine (get_three _ g n hn (T : Int) HT0.out HT2.out _ HO2.out 0 (by decide)).mono ?_
        rintro e w' ⟨rfl, rfl⟩
        go_wp2_with fail
        refine (get_three _ g n hn (T : Int) HT0.out HT2.out _ HO2.out 1 (by decide)).mono ?_
        rintro e w' ⟨rfl, rfl⟩
        go_wp2_with fail
        refine (get_three _ g n hn (T : Int) HT0.out HT2.out _ HO2.out 2 (by decide)).mono ?_
        rintro e w' ⟨rfl, rfl⟩
        go_wp2_with fail
        refine (lecternlaw2_num.calls 0 0 _ (AQ.out 0)).mono ?_
        rintro e w' ⟨rfl, ⟨n3, rfl⟩⟩
        go_wp2_with fail
        refine (lecternlaw2_num.calls 0 0 _ (AQ.out 0)).mono ?_
        rintro e w' ⟨rfl, ⟨n4, rfl⟩⟩
        go_wp2_with fail
        refine (lecternlaw2_num.calls 0 0 _ (AQ.out 0)).mono ?_
        rintro e w' ⟨rfl, ⟨n5, rfl⟩⟩
        go_wp2_with fail
        refine (new_big n hn63 [(T : Int) + 1] HU1.out (by simp) HM1.out _ _ _ (Kd.C_drewN (lit_C w2 23 .u64 [(T : Int) + 1] (by simp)) _) (Nat.le_refl 1)).mono ?_
        rintro e w' ⟨rfl, rfl⟩
        go_wp2_with fail
        refine (lecternlaw2_num.calls 1 1 _ (AQ.out 1)).mono ?_
        rintro e w' ⟨rfl, ⟨n9, rfl⟩⟩
        go_wp2_with fail
        go_roundg (64 - n)
        case measure => have := HK.out; omega
        case rel => exact ⟨n + 1, by go_num, ⟨by have := HK.out; omega⟩, ⟨pw_below_drewN (HB2.out.alloc HB2.out.size _) _⟩⟩
    · go_wp2_with fail
      refine (new_out 65 (.inr (by decide)) none 0 0 _).mono ?_
      rintro e w' ⟨rfl, rfl⟩
      go_wp2_with fail
      refine (new_out (-1) (.inl (by decide)) none 0 0 _).mono ?_
      rintro e w' ⟨rfl, rfl⟩
      go_wp2_with fail
      refine (lecternlaw2_num.calls 1 1 _ (AQ.out 1)).mono ?_
      rintro e w' ⟨rfl, ⟨n1, rfl⟩⟩
      go_wp2_with fail
      refine (lecternlaw2_num.calls 1 1 _ (AQ.out 1)).mono ?_
      rintro e w' ⟨rfl, ⟨n2, rfl⟩⟩
      go_wp2_with fail
      refine (wakes_calls _).mono ?_
      rintro e w' ⟨rfl, hb⟩
      go_wp2_with fail
      go_ret
      exact ⟨rfl, below_then (pw_below_drewN HB.out _) (pw_below_drewN HB.out _).size hb⟩
end Go.Proofs.Ytfjndhlkdckieaa.I
