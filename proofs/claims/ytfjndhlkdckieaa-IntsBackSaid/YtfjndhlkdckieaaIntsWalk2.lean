/- New's refusals, and Parse, walked. -/
import Derived.Test.YtfjndhlkdckieaaIntsWalk
namespace Go.Proofs.Ytfjndhlkdckieaa.I
open Go.RowKit Go.Proofs.YtfjndhlkdckieaaW.PrintWords Go.Proofs.YtfjndhlkdckieaaW.PrintLast Go.Proofs.YtfjndhlkdckieaaW.PrintMore Go.Proofs.Ytfjndhlkdckieaa.Opening Go.Proofs.Ytfjndhlkdckieaa.Base Go.Proofs.Ytfjndhlkdckieaa.Bits
set_option linter.unusedVariables false
set_option linter.unusedSimpArgs false

set_option maxHeartbeats 1000000 in
set_option maxRecDepth 100000 in
theorem new_out (wd : Int) (hw : wd < 0 ∨ 64 < wd) (A : Option Addr) (n c : Nat) (w : World) :
    Calls Try.prog 26 #[.int .i64 wd, .slice A n c] w fun e w' => e = .returned (.tuple #[.pointer none, .int .i64 1]) ∧ w = w' := by
  rcases hw with h | h
  · have hb0 : decide (wd < 0) = true := decide_eq_true h
    go_enter Try.func26, Try.ntmps26
    go_wp2_with fail
    go_ret2
    exact ⟨rfl, rfl⟩
  · have hb0 : decide (wd < 0) = false := decide_eq_false (by omega)
    have hb1 : decide (64 < wd) = true := decide_eq_true h
    go_enter Try.func26, Try.ntmps26
    go_wp2_with fail
    go_ret2
    exact ⟨rfl, rfl⟩
set_option maxHeartbeats 1000000 in
set_option maxRecDepth 100000 in
theorem new_big (wd : Nat) (hw : wd < 64) (l : List Int) (hu : U64s l) (hl : l.length ≤ 131072) (hm : ∃ x ∈ l, 2 ^ wd ≤ x.toNat) (A : Option Addr) (c : Nat) (w : World) (hC : Kd.C (Kd.int .u64) w A l.length l) (hc : l.length ≤ c) :
    Calls Try.prog 26 #[.int .i64 (wd : Int), .slice A l.length c] w fun e w' => e = .returned (.tuple #[.pointer none, .int .i64 1]) ∧ w = w' := by
  have HC := Aside0.mk hC
  have HM := Aside0.mk hm
  have HU := Aside0.mk hu
  clear hC hm hu
  have hb0 : decide ((wd : Int) < 0) = false := decide_eq_false (by omega)
  have hb1 : decide ((64 : Int) < (wd : Int)) = false := decide_eq_false (by omega)
  have hb2 : decide ((wd : Int) < 64) = true := decide_eq_true (by omega)
  go_enter Try.func26, Try.ntmps26
  go_wp2_with fail
  go_loopg [7, 19] l.length (fun kq v7 v19 w' => ∃ i : Nat, v19 = .int .i64 (i : Int) ∧ Aside0 (kq + i = l.length) ∧ Aside0 (∀ q, q < i → num l q < 2 ^ wd) ∧ Aside0 (w' = w))
  case atStart => exact ⟨0, rfl, ⟨by omega⟩, ⟨fun q hq => by omega⟩, ⟨rfl⟩⟩
  case round =>
    obtain ⟨i, rfl, HK, HP, HW⟩ := hrel
    obtain rfl := HW.out
    by_cases hi : i < l.length
    · obtain ⟨ad, rfl, hx⟩ := Kd.at_int HC.out (i : Int) (by omega) (by omega)
      have hx0 := HU.out _ (List.getElem_mem hi)
      rw [Int.toNat_natCast, rd_get hi] at hx
      obtain ⟨v, hv⟩ := Int.eq_ofNat_of_zero_le hx0.1
      have hnum : num l i = v := by
        unfold num
        rw [List.getD_eq_getElem?_getD, List.getElem?_eq_getElem hi]
        show l[i].toNat = v
        rw [hv, Int.toNat_natCast]
      rw [hv] at hx
      have HV := Aside0.mk hnum
      have hdiv : ((v : Int) / 2 ^ wd) = ((v / 2 ^ wd : Nat) : Int) := by push_cast; rfl
      have HD := Aside0.mk hdiv
      clear hv hx0 hnum hdiv
      by_cases hz : v < 2 ^ wd
      · have hz2 : ((v : Int) / 2 ^ wd) = 0 := by rw [HD.out, Nat.div_eq_of_lt hz]; rfl
        have HZ := Aside0.mk hz
        clear hz
        go_wp2_with fail
        go_roundg (l.length - (i + 1))
        case measure => have := HK.out; omega
        case rel =>
          refine ⟨i + 1, by go_num, ⟨by have := HK.out; omega⟩, ⟨fun q hq => ?_⟩, ⟨rfl⟩⟩
          by_cases hqi : q = i
          · subst hqi
            rw [HV.out]
            exact HZ.out
          · exact HP.out q (by omega)
      · have h1 : 1 ≤ v / 2 ^ wd := (Nat.le_div_iff_mul_le (Nat.two_pow_pos wd)).2 (by omega)
        obtain ⟨q, hq⟩ : ∃ q : Nat, q = v / 2 ^ wd := ⟨_, rfl⟩
        have hz2 : ((v : Int) / 2 ^ wd) = (q : Int) := by rw [HD.out, hq]
        have hz3 : ((q : Int) != 0) = true := by rw [bne_iff_ne]; omega
        clear hq h1 hz
        go_wp2_with fail
        go_ret2
        exact ⟨rfl, rfl⟩
    · exfalso
      obtain ⟨x, hx, hbig⟩ := HM.out
      obtain ⟨q, hq, he⟩ := List.getElem_of_mem hx
      have := HP.out q (by omega)
      unfold num at this
      rw [List.getD_eq_getElem?_getD, List.getElem?_eq_getElem hq, he] at this
      simp at this
      omega
theorem fit_of {wd n : Int} {b : List Int} (h : fitB wd n b = true) : 0 ≤ wd ∧ wd ≤ 64 ∧ 0 ≤ n ∧ n ≤ 131072 ∧ b.length = (wd.toNat * n.toNat + 7) / 8 := by
  unfold fitB at h
  have := of_decide_eq_true h
  omega
set_option maxHeartbeats 1000000 in
set_option maxRecDepth 100000 in
theorem parse_no (wd n : Int) (b : List Int) (h : fitB wd n b = false) (hlb : b.length ≤ 140737488351232) (A : Option Addr) (c : Nat) (w : World) :
    Calls Try.prog 40 #[.int .i64 wd, .int .i64 n, .slice A b.length c] w fun e w' => e = .returned (.tuple #[.pointer none, .int .i64 1]) ∧ Drawn0 w w' := by
  unfold fitB at h
  have h' := of_decide_eq_false h
  clear h
  by_cases h0 : wd < 0
  · have hb0 : decide (wd < 0) = true := decide_eq_true h0
    clear h'
    go_enter Try.func40, Try.ntmps40
    go_wp2_with fail
    go_ret2
    exact ⟨rfl, Drawn0.refl _⟩
  · have hb0 : decide (wd < 0) = false := decide_eq_false h0
    by_cases h1 : 64 < wd
    · have hb1 : decide (64 < wd) = true := decide_eq_true h1
      clear h'
      go_enter Try.func40, Try.ntmps40
      go_wp2_with fail
      go_ret2
      exact ⟨rfl, Drawn0.refl _⟩
    · have hb1 : decide (64 < wd) = false := decide_eq_false h1
      by_cases h2 : n < 0
      · have hb2 : decide (n < 0) = true := decide_eq_true h2
        clear h'
        go_enter Try.func40, Try.ntmps40
        go_wp2_with fail
        go_ret2
        exact ⟨rfl, Drawn0.refl _⟩
      · have hb2 : decide (n < 0) = false := decide_eq_false h2
        by_cases h3 : 131072 < n
        · have hb3 : decide (131072 < n) = true := decide_eq_true h3
          clear h'
          go_enter Try.func40, Try.ntmps40
          go_wp2_with fail
          go_ret2
          exact ⟨rfl, Drawn0.refl _⟩
        · have hb3 : decide (131072 < n) = false := decide_eq_false h3
          obtain ⟨w', rfl⟩ := Int.eq_ofNat_of_zero_le (show 0 ≤ wd by omega)
          obtain ⟨n', rfl⟩ := Int.eq_ofNat_of_zero_le (show 0 ≤ n by omega)
          simp only [Int.toNat_natCast] at h'
          have AB : Aside0 (ints_bytes.f (w' : Int) (n' : Int) = some (((w' * n' + 7) / 8 : Nat) : Int)) := ⟨by
            unfold ints_bytes.f
            rw [bytes_num w' n' (by omega) (by omega)]⟩
          have hne : ((b.length : Int) != (((w' * n' + 7) / 8 : Nat) : Int)) = true := bne_iff_ne.2 fun e => h' ⟨by omega, by omega, by omega, by omega, e⟩
          clear h'
          generalize (w' * n' + 7) / 8 = nb at *
          go_enter Try.func40, Try.ntmps40
          go_wp2_with (go_at_call 64; (with_reducible refine (ints_bytes.calls _ _ _ _ AB.out).mono ?_); rintro e w' ⟨rfl, ⟨nd, rfl⟩⟩)
          go_ret2
          exact ⟨rfl, by repeat (first | exact Drawn0.refl _ | apply Drawn0.step)⟩
/-- What Parse answers for bytes of the right length. -/
def ParsedEnd (w : World) (wd n : Nat) (b : List Int) (e : Ending) (w' : World) : Prop :=
  Below w.heap.size w w' ∧ (((∀ m, wd * n ≤ m → m < 8 * b.length → tb b m = false) ∧ ∃ g, e = .returned (.tuple #[.pointer (some ⟨g, 0, none⟩), .int .i64 0]) ∧ OPk w' w.heap.size g (wd : Int) (n : Int) b) ∨
    (¬ (∀ m, wd * n ≤ m → m < 8 * b.length → tb b m = false) ∧ e = .returned (.tuple #[.pointer none, .int .i64 1])))
set_option maxHeartbeats 2000000 in
set_option maxRecDepth 100000 in
theorem parse_yes (wd n : Nat) (hw : wd ≤ 64) (hn : n ≤ 131072) (b : List Int) (hb : AllB b) (hbl : b.length = (wd * n + 7) / 8) (A : Option Addr) (c : Nat) (w : World) (hC : Kd.C (Kd.int .u8) w A b.length b) (hc : b.length ≤ c) :
    Calls Try.prog 40 #[.int .i64 (wd : Int), .int .i64 (n : Int), .slice A b.length c] w (ParsedEnd w wd n b) := by
  have HC := Aside0.mk hC
  have HB := Aside0.mk hb
  clear hC hb
  have hu55 := Try.underlying55
  have hu57 := Try.underlying57
  have hb0 : decide ((wd : Int) < 0) = false := decide_eq_false (by omega)
  have hb1 : decide ((64 : Int) < (wd : Int)) = false := decide_eq_false (by omega)
  have hb2 : decide ((n : Int) < 0) = false := decide_eq_false (by omega)
  have hb3 : decide ((131072 : Int) < (n : Int)) = false := decide_eq_false (by omega)
  have hmul : wd * n ≤ 64 * n := Nat.mul_le_mul_right _ hw
  have hnb : (wd * n + 7) / 8 ≤ 1048577 := by omega
  have AB : Aside0 (ints_bytes.f (wd : Int) (n : Int) = some ((b.length : Nat) : Int)) := ⟨by
    unfold ints_bytes.f
    rw [bytes_num wd n hw (by omega), hbl]⟩
  have em : ((wd : Int) * (n : Int)) = ((wd * n : Nat) : Int) := by push_cast; rfl
  generalize hN : wd * n = M at *
  have HN := Aside0.mk hN
  have hbm : M ≤ 8 * b.length := by omega
  have hbm2 : b.length ≤ 1048577 := by omega
  clear hN hnb hmul
  have HBL := Aside0.mk hbl
  clear hbl
  have hbne : (((b.length : Nat) : Int) != ((b.length : Nat) : Int)) = false := by simp
  have hpost : ∀ e w', (Below w.heap.size w w' ∧ (((∀ m, M ≤ m → m < 8 * b.length → tb b m = false) ∧ ∃ g, e = .returned (.tuple #[.pointer (some ⟨g, 0, none⟩), .int .i64 0]) ∧ OPk w' w.heap.size g (wd : Int) (n : Int) b) ∨
    (¬ (∀ m, M ≤ m → m < 8 * b.length → tb b m = false) ∧ e = .returned (.tuple #[.pointer none, .int .i64 1])))) → ParsedEnd w wd n b e w' := fun e w' h => by unfold ParsedEnd; rw [HN.out]; exact h
  have HPOST := Aside0.mk hpost
  clear hpost
  go_enter Try.func40, Try.ntmps40
  go_wp2_with (first | (go_at_call 64; (with_reducible refine (ints_bytes.calls _ _ _ _ AB.out).mono ?_); rintro e w' ⟨rfl, ⟨nd, rfl⟩⟩) | ((with_reducible refine gate_builtin (b := .append) (xs := #[.const (.slice none 0 0), .tmp 34]) rfl ?_); at_builtin; refine Kd.R_append_rows (Kd.int .u8) (Rr := (Kd.int .u8).K w) (w0 := w) w.heap.size rfl (.const (.slice none 0 0)) (.tmp 34) 42 5 (.int .u8 0) 1 rfl Try.underlying42 info5 rfl (by decide) (by omega) (.slice none 0 0) [] b A b.length c (fun _ => True) (fun _ => False) rfl rfl (Kd.R_nil _ _ _ _ _) (by first | exact HC.out | exact Kd.C_drewN HC.out _) (fun _ _ h => h) (fun _ h => h.elim) (fun _ _ => trivial) (by first | exact Below.refl _ _ | exact pw_below_drewN (Below.refl _ _) _) (by simp) (by simp; omega) ?_; intro v1 w1 ho hb hg hat; rw [List.nil_append] at ho; obtain ⟨P1, c1, rfl, hc1, hC1⟩ := Kd.R_reads ho; have N1 := Aside0.mk ho; have N2 := Aside0.mk hb; clear ho hb hg hat hC1 hc1))
  have hO1 : OPk (w1.alloc (.cells #[.int .i64 (wd : Int), .int .i64 (n : Int), .slice P1 b.length c1] 57)) w.heap.size w1.heap.size (wd : Int) (n : Int) b := by
    refine ⟨N2.out.size, .slice P1 b.length c1, heap_alloc_new w1 _, ?_⟩
    exact Kd.R_alloc (Kd.R_mono (Kd.R_bound N1.out) (fun k hk => by have := hk.2.2.1; omega)) _
  have HO1 := Aside0.mk hO1
  have HB1 : Aside0 (Below w.heap.size w (w1.alloc (.cells #[.int .i64 (wd : Int), .int .i64 (n : Int), .slice P1 b.length c1] 57))) := ⟨N2.out.alloc N2.out.size _⟩
  clear hO1
  generalize hW2 : w1.alloc (.cells #[.int .i64 (wd : Int), .int .i64 (n : Int), .slice P1 b.length c1] 57) = w2 at *
  clear hW2
  generalize hG : w1.heap.size = g at *
  clear hG N1 N2
  go_loopg [9] (8 * b.length) (fun kq v9 w' => ∃ m : Nat, v9 = .int .i64 (m : Int) ∧ Aside0 (M ≤ m) ∧ Aside0 (m ≤ 8 * b.length) ∧ Aside0 (kq + m = 8 * b.length + M) ∧ Aside0 (∀ q, M ≤ q → q < m → tb b q = false) ∧ Aside0 (w' = w2))
  case atStart => exact ⟨M, rfl, ⟨Nat.le_refl _⟩, ⟨hbm⟩, ⟨rfl⟩, ⟨fun q h1 h2 => by omega⟩, ⟨rfl⟩⟩
  case round =>
    obtain ⟨m, rfl, HM1, HM2, HK, HP, HW⟩ := hrel
    obtain rfl := HW.out
    by_cases hm : m < 8 * b.length
    · cases hbit : tb b m
      · have hT : ((((tb b m).toNat : Nat) : Int) == 1) = false := by rw [hbit]; rfl
        have HT := Aside0.mk hbit
        clear hbit
        go_wp2_with fail
        refine (bit_calls w.heap.size g wd n b HB.out m (by omega) (by omega) _ HO1.out).mono ?_
        rintro e w' ⟨rfl, rfl⟩
        go_wp2_with fail
        go_roundg (8 * b.length + M - (m + 1))
        case measure => have := HK.out; omega
        case rel =>
          refine ⟨m + 1, by go_num, ⟨by have := HM1.out; omega⟩, ⟨by omega⟩, ⟨by have := HK.out; omega⟩, ⟨fun q h1 h2 => ?_⟩, ⟨rfl⟩⟩
          by_cases hq : q = m
          · subst hq; exact HT.out
          · exact HP.out q h1 (by omega)
      · have hT : ((((tb b m).toNat : Nat) : Int) == 1) = true := by rw [hbit]; rfl
        have HT := Aside0.mk hbit
        clear hbit
        go_wp2_with fail
        refine (bit_calls w.heap.size g wd n b HB.out m (by omega) (by omega) _ HO1.out).mono ?_
        rintro e w' ⟨rfl, rfl⟩
        go_wp2_with fail
        go_ret2
        refine HPOST.out _ _ ⟨HB1.out, .inr ⟨fun h => ?_, rfl⟩⟩
        have := h m HM1.out hm
        rw [HT.out] at this
        cases this
    · go_wp2_with fail
      go_ret2
      exact HPOST.out _ _ ⟨HB1.out, .inl ⟨fun q h1 h2 => HP.out q h1 (by omega), g, rfl, HO1.out⟩⟩
end Go.Proofs.Ytfjndhlkdckieaa.I
