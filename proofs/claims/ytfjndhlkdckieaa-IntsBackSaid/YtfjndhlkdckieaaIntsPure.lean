/- What the printed functions of the statements on packed numbers answer: copies, comparisons, the reference's May, Bytes and Parse. Plain Lean. -/
import Derived.Test.YtfjndhlkdckieaaBits
import Derived.Test.YtfjndhlkdckieaaIx2
import Derived.Test.YtfjndhlkdckieaaIx3
import Derived.Test.YtfjndhlkdckieaaIx5
import Derived.Test.YtfjndhlkdckieaaIx6
import Derived.Test.YtfjndhlkdckieaaIx10
import Derived.Test.YtfjndhlkdckieaaIx11
import Derived.Test.YtfjndhlkdckieaaIx12
import Derived.Test.YtfjndhlkdckieaaIx16
import Derived.Test.YtfjndhlkdckieaaIx18
namespace Go.Proofs.Ytfjndhlkdckieaa.I
open Go.RowKit Go.Proofs.YtfjndhlkdckieaaW.PrintWords Go.Proofs.YtfjndhlkdckieaaW.PrintLast Go.Proofs.YtfjndhlkdckieaaW.PrintMore Go.Proofs.Ytfjndhlkdckieaa.Opening Go.Proofs.Ytfjndhlkdckieaa.Base Go.Proofs.Ytfjndhlkdckieaa.Bits
set_option linter.unusedVariables false
set_option linter.unusedSimpArgs false

theorem rd_get {l : List Int} {i : Nat} (h : i < l.length) : rd l (i : Int) = l[i] := by
  unfold rd
  rw [Int.toNat_natCast, List.getD_eq_getElem?_getD, List.getElem?_eq_getElem h]
  rfl
theorem rd_num (l : List Int) (i : Nat) (h : ∀ x ∈ l, 0 ≤ x) : rd l (i : Int) = ((num l i : Nat) : Int) := by
  unfold rd num
  rw [Int.toNat_natCast]
  by_cases hi : i < l.length
  · rw [List.getD_eq_getElem?_getD, List.getElem?_eq_getElem hi]
    have := h _ (List.getElem_mem hi)
    simp
    omega
  · rw [List.getD_eq_getElem?_getD, List.getElem?_eq_none (by omega)]
    rfl
theorem rd_byte {b : List Int} (h : AllB b) (q : Nat) : rd b (q : Int) = ((byteAt b q : Nat) : Int) := rd_num b q (fun x hx => (h x hx).1)

/-! the operations on bits, as the printed terms have them -/
theorem wrap_u8_in (n : Int) (h0 : 0 ≤ n) (h1 : n < 256) : IntKind.u8.wrap n = n := by rw [IntKind.wrap_u8]; omega
theorem or_u8 (a b : Nat) (ha : a < 256) (hb : b < 256) : Go.bits .or .u8 (a : Int) (b : Int) = ((a ||| b : Nat) : Int) := (bits_nat .u8 8 (by decide) wraps_u8 a b ha hb).2
theorem and_u8 (a : Nat) (ha : a < 256) : Go.bits .and .u8 (a : Int) 1 = ((a % 2 : Nat) : Int) := by
  have := (bits_nat .u8 8 (by decide) wraps_u8 a 1 ha (by decide)).1
  rw [Nat.and_one_is_mod] at this
  exact this
theorem wraps_u64 (n : Int) (h₀ : 0 ≤ n) (h₁ : n < 2 ^ 64) : IntKind.u64.wrap n = n := wrap_u64_in n h₀ (by omega)
theorem or_u64 (a b : Nat) (ha : a < 2 ^ 64) (hb : b < 2 ^ 64) : Go.bits .or .u64 (a : Int) (b : Int) = ((a ||| b : Nat) : Int) := (bits_nat .u64 64 (by decide) wraps_u64 a b ha hb).2
theorem and_u64 (a : Nat) (ha : a < 2 ^ 64) : Go.bits .and .u64 (a : Int) 1 = ((a % 2 : Nat) : Int) := by
  have := (bits_nat .u64 64 (by decide) wraps_u64 a 1 ha (by decide)).1
  rw [Nat.and_one_is_mod] at this
  exact this
theorem shr_nat (k : IntKind) (a j : Nat) (hj : j ≤ k.bits) : shr k (a : Int) (j : Int) = ((a / 2 ^ j : Nat) : Int) := by
  unfold shr
  rw [Int.toNat_natCast, Nat.min_eq_left hj]
  push_cast
  rfl
theorem div_lt (a j n : Nat) (h : a < n) : a / 2 ^ j < n := Nat.lt_of_le_of_lt (Nat.div_le_self _ _) h
/-- v >> k & 1 of 64 bits. -/
theorem bit_u64 (v k : Nat) (hv : v < 2 ^ 64) (hk : k ≤ 64) : Go.bits .and .u64 (shr .u64 (v : Int) (k : Int)) 1 = (((v.testBit k).toNat : Nat) : Int) := by
  rw [shr_nat .u64 v k hk, and_u64 _ (div_lt v k _ hv), Nat.testBit_eq_decide_div_mod_eq]
  rcases Nat.mod_two_eq_zero_or_one (v / 2 ^ k) with h | h <;> simp [h]
/-- b >> r & 1 of a byte. -/
theorem bit_u8 (v r : Nat) (hv : v < 256) (hr : r < 8) : Go.bits .and .u8 (shr .u8 (v : Int) (r : Int)) 1 = (((v.testBit r).toNat : Nat) : Int) := by
  rw [shr_nat .u8 v r (by show r ≤ 8; omega), and_u8 _ (div_lt v r _ hv), Nat.testBit_eq_decide_div_mod_eq]
  rcases Nat.mod_two_eq_zero_or_one (v / 2 ^ r) with h | h <;> simp [h]
theorem shl_u8 (r : Nat) (hr : r < 8) : shl .u8 1 (r : Int) = ((2 ^ r : Nat) : Int) := by
  unfold shl
  rw [Int.toNat_natCast, Nat.min_eq_left (show r ≤ IntKind.u8.bits by show r ≤ 8; omega), Int.one_mul]
  have h : 2 ^ r < 2 ^ 8 := Nat.pow_lt_pow_right (by decide) hr
  rw [show ((2 : Int) ^ r) = ((2 ^ r : Nat) : Int) by push_cast; rfl]
  have h3 : 2 ^ r < 256 := h
  exact wrap_u8_in _ (Int.natCast_nonneg _) (show ((2 ^ r : Nat) : Int) < ((256 : Nat) : Int) from Int.ofNat_lt.2 h3)
theorem shl_u64 (x r : Nat) (hx : x ≤ 1) (hr : r < 64) : shl .u64 (x : Int) (r : Int) = ((x <<< r : Nat) : Int) := by
  unfold shl
  rw [Int.toNat_natCast, Nat.min_eq_left (show r ≤ IntKind.u64.bits by show r ≤ 64; omega), Nat.shiftLeft_eq]
  have h : 2 ^ r < 2 ^ 64 := Nat.pow_lt_pow_right (by decide) hr
  have h2 : x * 2 ^ r ≤ 2 ^ r := by
    have := Nat.mul_le_mul_right (2 ^ r) hx
    omega
  rw [show ((x : Int) * 2 ^ r) = ((x * 2 ^ r : Nat) : Int) by push_cast; rfl]
  exact wrap_u64_in _ (by omega) (by omega)
theorem quo8 (m : Nat) : Int.tdiv (m : Int) 8 = ((m / 8 : Nat) : Int) := by
  rw [Int.tdiv_eq_ediv_of_nonneg (by omega)]; rfl
theorem rem8 (m : Nat) : Int.tmod (m : Int) 8 = ((m % 8 : Nat) : Int) := by
  rw [Int.tmod_eq_emod_of_nonneg (by omega)]; rfl
theorem bytes_num (w n : Nat) (hw : w ≤ 64) (hn : n ≤ 17592186044416) : wrap64 (Int.tdiv (wrap64 ((wrap64 ((w : Int) * (n : Int))) + 7)) 8) = (((w * n + 7) / 8 : Nat) : Int) := by
  have hm : w * n ≤ 64 * n := Nat.mul_le_mul_right n hw
  have e : (w : Int) * (n : Int) = ((w * n : Nat) : Int) := by push_cast; rfl
  rw [e, wrap64_in ((w * n : Nat) : Int) (by omega) (by omega), wrap64_in (((w * n : Nat) : Int) + 7) (by omega) (by omega)]
  rw [show ((w * n : Nat) : Int) + 7 = ((w * n + 7 : Nat) : Int) by omega, quo8, wrap64_in _ (by omega) (by omega)]

/-! copies, comparisons, what is written over -/
theorem copyl_loop (l : List Int) (hl : l.length ≤ 17592186044416) : ∀ (d k : Nat) (i : Nat), i ≤ l.length → l.length - i = d → d < k → lecternref0_CopyLongs.l0 k l (l.take i) (i : Int) = some l := by
  intro d
  induction d with
  | zero =>
    intro k i h1 hd hk
    obtain ⟨k, rfl⟩ : ∃ m, k = m + 1 := ⟨k - 1, by omega⟩
    simp only [lecternref0_CopyLongs.l0]
    rw [if_neg (by omega), List.take_of_length_le (by omega)]
  | succ d ih =>
    intro k i h1 hd hk
    obtain ⟨k, rfl⟩ : ∃ m, k = m + 1 := ⟨k - 1, by omega⟩
    simp only [lecternref0_CopyLongs.l0]
    have hlt : i < l.length := by omega
    rw [if_pos (by omega), if_pos (by omega), if_pos (by rw [List.length_take]; omega), wrap64_in _ (by omega) (by omega)]
    rw [rd_get hlt, ← List.take_succ_eq_append_getElem hlt]
    exact ih k (i + 1) (by omega) (by omega) (by omega)
theorem copyl_is (l : List Int) (hl : l.length ≤ 17592186044416) (k : Nat) (hk : l.length < k) : lecternref0_CopyLongs.f k l = some l := by
  have := copyl_loop l hl l.length k 0 (by omega) (by omega) hk
  simpa [lecternref0_CopyLongs.f] using this
theorem copyb_loop (l : List Int) (hl : l.length ≤ 140737488351232) : ∀ (d k : Nat) (i : Nat), i ≤ l.length → l.length - i = d → d < k → lecternref0_CopyBytes.l0 k l (l.take i) (i : Int) = some l := by
  intro d
  induction d with
  | zero =>
    intro k i h1 hd hk
    obtain ⟨k, rfl⟩ : ∃ m, k = m + 1 := ⟨k - 1, by omega⟩
    simp only [lecternref0_CopyBytes.l0]
    rw [if_neg (by omega), List.take_of_length_le (by omega)]
  | succ d ih =>
    intro k i h1 hd hk
    obtain ⟨k, rfl⟩ : ∃ m, k = m + 1 := ⟨k - 1, by omega⟩
    simp only [lecternref0_CopyBytes.l0]
    have hlt : i < l.length := by omega
    rw [if_pos (by omega), if_pos (by omega), if_pos (by rw [List.length_take]; omega), wrap64_in _ (by omega) (by omega)]
    rw [rd_get hlt, ← List.take_succ_eq_append_getElem hlt]
    exact ih k (i + 1) (by omega) (by omega) (by omega)
theorem copyb_is (l : List Int) (hl : l.length ≤ 140737488351232) (k : Nat) (hk : l.length < k) : lecternref0_CopyBytes.f k l = some l := by
  have := copyb_loop l hl l.length k 0 (by omega) (by omega) hk
  simpa [lecternref0_CopyBytes.f] using this
theorem longs_loop : ∀ (d k : Nat) (l : List Int) (i : Int), l.length ≤ 17592186044415 → 0 ≤ i → i ≤ l.length → (l.length : Int) - i = d → d < k → lecternlaw0_Longs.l0 k l i = some () := by
  intro d
  induction d with
  | zero =>
    intro k l i hl h0 h1 hd hk
    obtain ⟨k, rfl⟩ : ∃ m, k = m + 1 := ⟨k - 1, by omega⟩
    simp only [lecternlaw0_Longs.l0]
    rw [if_neg (by omega), if_pos (by omega)]
  | succ d ih =>
    intro k l i hl h0 h1 hd hk
    obtain ⟨k, rfl⟩ : ∃ m, k = m + 1 := ⟨k - 1, by omega⟩
    simp only [lecternlaw0_Longs.l0]
    rw [if_pos (by omega), if_pos h0, wrap64_in _ (by omega) (by omega)]
    exact ih k _ (i + 1) (by simpa using hl) (by omega) (by simp; omega) (by simp; omega) (by omega)
theorem longs_is (l : List Int) (hl : l.length ≤ 17592186044415) (k : Nat) (hk : l.length < k) : lecternlaw0_Longs.f k l = some () := by
  unfold lecternlaw0_Longs.f
  exact longs_loop l.length k l 0 hl (by omega) (by omega) (by omega) hk
theorem over_loop : ∀ (d k : Nat) (l : List Int) (i : Int), l.length ≤ 140737488355327 → 0 ≤ i → i ≤ l.length → (l.length : Int) - i = d → d < k → lecternlaw0_Bytes.l0 k l i = some () := by
  intro d
  induction d with
  | zero =>
    intro k l i hl h0 h1 hd hk
    obtain ⟨k, rfl⟩ : ∃ m, k = m + 1 := ⟨k - 1, by omega⟩
    simp only [lecternlaw0_Bytes.l0]
    rw [if_neg (by omega), if_pos (by omega)]
  | succ d ih =>
    intro k l i hl h0 h1 hd hk
    obtain ⟨k, rfl⟩ : ∃ m, k = m + 1 := ⟨k - 1, by omega⟩
    simp only [lecternlaw0_Bytes.l0]
    rw [if_pos (by omega), if_pos h0, wrap64_in _ (by omega) (by omega)]
    exact ih k _ (i + 1) (by simpa using hl) (by omega) (by simp; omega) (by simp; omega) (by omega)
theorem over_is (l : List Int) (hl : l.length ≤ 140737488355327) (k : Nat) (hk : l.length < k) : lecternlaw0_Bytes.f k l = some () := by
  unfold lecternlaw0_Bytes.f
  exact over_loop l.length k l 0 hl (by omega) (by omega) (by omega) hk
theorem eqb_loop (a b : List Int) (hl : a.length = b.length) (hm : a.length ≤ 4611686018427387904) : ∀ (d k : Nat) (i : Nat), i ≤ a.length → a.length - i = d → d < k → a.take i = b.take i → lecternref0_EqBytes.l0 k a b (i : Int) = some (decide (a = b)) := by
  intro d
  induction d with
  | zero =>
    intro k i h1 hd hk he
    obtain ⟨k, rfl⟩ : ∃ m, k = m + 1 := ⟨k - 1, by omega⟩
    simp only [lecternref0_EqBytes.l0]
    rw [if_neg (by omega)]
    rw [List.take_of_length_le (by omega), List.take_of_length_le (by omega)] at he
    simp [he]
  | succ d ih =>
    intro k i h1 hd hk he
    obtain ⟨k, rfl⟩ : ∃ m, k = m + 1 := ⟨k - 1, by omega⟩
    simp only [lecternref0_EqBytes.l0]
    have hlt : i < a.length := by omega
    have hlt' : i < b.length := by omega
    rw [if_pos (by omega), if_pos (by omega), if_pos (by omega), rd_get hlt, rd_get hlt']
    by_cases h : a[i] = b[i]
    · rw [if_pos h, wrap64_in _ (by omega) (by omega)]
      exact ih k (i + 1) (by omega) (by omega) (by omega) (by rw [List.take_succ_eq_append_getElem hlt, List.take_succ_eq_append_getElem hlt', he, h])
    · rw [if_neg h]
      have : ¬ a = b := fun e => h (by subst e; rfl)
      simp [this]
theorem eqb_is (a b : List Int) (hm : a.length ≤ 4611686018427387904) (k : Nat) (hk : a.length < k) : lecternref0_EqBytes.f k a b = some (decide (a = b)) := by
  unfold lecternref0_EqBytes.f
  by_cases hl : (a.length : Int) = b.length
  · rw [if_pos hl]
    exact eqb_loop a b (by omega) hm a.length k 0 (by omega) (by omega) hk rfl
  · rw [if_neg hl]
    have : ¬ a = b := fun e => hl (by rw [e])
    simp [this]

/-! the reference -/
def U64s (l : List Int) : Prop := ∀ x ∈ l, 0 ≤ x ∧ x < 2 ^ 64
theorem num_lt {l : List Int} (h : U64s l) (i : Nat) : num l i < 2 ^ 64 := by
  unfold num
  rw [List.getD_eq_getElem?_getD]
  by_cases hi : i < l.length
  · rw [List.getElem?_eq_getElem hi]
    have := (h _ (List.getElem_mem hi)).2
    simp
    omega
  · rw [List.getElem?_eq_none (by omega)]
    simp
def mayB (w : Int) (l : List Int) : Bool := decide (0 ≤ w ∧ w ≤ 64) && l.all fun x => decide (x.toNat < 2 ^ w.toNat)
theorem may_loop (w : Nat) (hw : w ≤ 64) (l : List Int) (hu : U64s l) (hl : l.length ≤ 17592186044416) : ∀ (d k : Nat) (i : Nat), i ≤ l.length → l.length - i = d → d < k → lecternref1_May.l0 k (w : Int) l (i : Int) = some ((l.drop i).all fun x => decide (x.toNat < 2 ^ w)) := by
  intro d
  induction d with
  | zero =>
    intro k i h1 hd hk
    obtain ⟨k, rfl⟩ : ∃ m, k = m + 1 := ⟨k - 1, by omega⟩
    simp only [lecternref1_May.l0]
    rw [if_neg (by omega), List.drop_of_length_le (by omega)]
    rfl
  | succ d ih =>
    intro k i h1 hd hk
    obtain ⟨k, rfl⟩ : ∃ m, k = m + 1 := ⟨k - 1, by omega⟩
    simp only [lecternref1_May.l0]
    have hlt : i < l.length := by omega
    have hx := hu _ (List.getElem_mem hlt)
    rw [if_pos (by omega), List.drop_eq_getElem_cons hlt, List.all_cons, wrap64_in _ (by omega) (by omega)]
    have next : lecternref1_May.l0 k (w : Int) l ((i : Int) + 1) = some ((l.drop (i + 1)).all fun x => decide (x.toNat < 2 ^ w)) := ih k (i + 1) (by omega) (by omega) (by omega)
    by_cases h64 : w < 64
    · rw [if_pos (by omega), if_pos (by omega), if_pos (by omega), rd_get hlt]
      obtain ⟨v, hv⟩ := Int.eq_ofNat_of_zero_le hx.1
      rw [hv, shr_nat .u64 v w (by show w ≤ 64; omega), Int.toNat_natCast]
      by_cases hz : v < 2 ^ w
      · rw [if_pos (by rw [Nat.div_eq_of_lt hz]; rfl), next]
        simp [hz]
      · have h1 : 1 ≤ v / 2 ^ w := (Nat.le_div_iff_mul_le (Nat.two_pow_pos w)).2 (by omega)
        rw [if_neg (by omega)]
        simp [hz]
    · rw [if_neg (by omega), next]
      have e : w = 64 := by omega
      have : l[i].toNat < 2 ^ w := by rw [e]; omega
      simp [this]
theorem may_is (w : Int) (l : List Int) (hu : U64s l) (hl : l.length ≤ 17592186044416) (k : Nat) (hk : l.length + 1 < k) : lecternref1_May.f k w l = some (mayB w l) := by
  obtain ⟨k, rfl⟩ : ∃ m, k = m + 1 := ⟨k - 1, by omega⟩
  unfold lecternref1_May.f mayB
  by_cases h0 : w < 0
  · rw [if_pos h0]
    simp only [lecternref1_May.j0, if_true]
    have : ¬ (0 ≤ w ∧ w ≤ 64) := by omega
    simp [this]
  · rw [if_neg h0]
    by_cases h1 : w > 64
    · rw [decide_eq_true h1]
      simp only [lecternref1_May.j0, if_true]
      have : ¬ (0 ≤ w ∧ w ≤ 64) := by omega
      rw [decide_eq_false this]
      rfl
    · obtain ⟨n, rfl⟩ := Int.eq_ofNat_of_zero_le (show 0 ≤ w by omega)
      rw [decide_eq_false h1]
      simp only [lecternref1_May.j0]
      rw [if_neg (by simp)]
      have := may_loop n (by omega) l hu hl l.length k 0 (by omega) (by omega) (by omega)
      rw [decide_eq_true (show (0 : Int) ≤ (n : Int) ∧ (n : Int) ≤ 64 by omega), Int.toNat_natCast]
      simpa using this
/-- What a byte with one more bit is, as the printed terms have it. -/
theorem put_term {b : List Int} (hb : AllB b) (m : Nat) : b.set (((m / 8 : Nat) : Int)).toNat (Go.bits .or .u8 (rd b ((m / 8 : Nat) : Int)) (shl .u8 1 ((m % 8 : Nat) : Int))) = put b m := by
  have h1 := byteAt_lt hb (m / 8)
  have h2 : 2 ^ (m % 8) < 2 ^ 8 := Nat.pow_lt_pow_right (by decide) (Nat.mod_lt _ (by decide))
  rw [Int.toNat_natCast, rd_byte hb, shl_u8 _ (Nat.mod_lt _ (by decide)), or_u8 _ _ h1 h2]
  rfl
theorem at_lt {w n i k : Nat} (hi : i < n) (hk : k < w) : (i * w + k) / 8 < (w * n + 7) / 8 := by
  have : (i + 1) * w ≤ n * w := Nat.mul_le_mul_right w hi
  rw [Nat.add_mul, Nat.one_mul, Nat.mul_comm n] at this
  omega
theorem at_num (w n i k : Nat) (hw : w ≤ 64) (hi : i < n) (hn : n ≤ 17592186044416) (hk : k < w) : wrap64 ((wrap64 ((i : Int) * (w : Int))) + (k : Int)) = ((i * w + k : Nat) : Int) ∧ i * w + k ≤ 1125899906842624 := by
  have h1 : i * w ≤ i * 64 := Nat.mul_le_mul_left i hw
  have e : (i : Int) * (w : Int) = ((i * w : Nat) : Int) := by push_cast; rfl
  rw [e, wrap64_in ((i * w : Nat) : Int) (by omega) (by omega), wrap64_in _ (by omega) (by omega)]
  exact ⟨by omega, by omega⟩
theorem ref_bytes_inner (w : Nat) (hw : w ≤ 64) (l : List Int) (hu : U64s l) (hl : l.length ≤ 17592186044416) (i : Nat) (hi : i < l.length) (b0 : List Int) (hb : AllB b0) (hbl : b0.length = (w * l.length + 7) / 8) :
    ∀ (d k j : Nat), j ≤ w → w - j = d → d + 1 ≤ k → lecternref1_Bytes.l1 k (w : Int) l (setN b0 i w (num l i) j) (i : Int) (j : Int) = lecternref1_Bytes.l0 (k - d - 1) (w : Int) l (setN b0 i w (num l i) w) ((i : Int) + 1) := by
  intro d
  induction d with
  | zero =>
    intro k j hj hd hk
    obtain ⟨k, rfl⟩ : ∃ m, k = m + 1 := ⟨k - 1, by omega⟩
    have : j = w := by omega
    subst this
    simp only [lecternref1_Bytes.l1]
    rw [if_neg (by omega), wrap64_in _ (by omega) (by omega)]
    rfl
  | succ d ih =>
    intro k j hj hd hk
    obtain ⟨k, rfl⟩ : ∃ m, k = m + 1 := ⟨k - 1, by omega⟩
    have h := ih k (j + 1) (by omega) (by omega) (by omega)
    have hbk := setN_all hb i w (num l i) j
    have hlen : (setN b0 i w (num l i) j).length = (w * l.length + 7) / 8 := by rw [setN_len, hbl]
    have hjw : j < w := by omega
    have hq := at_lt (w := w) (n := l.length) hi hjw
    have ek : k + 1 - (d + 1) - 1 = k - d - 1 := by omega
    obtain ⟨e0, hm⟩ := at_num w l.length i j hw hi hl hjw
    have E := Aside0.mk e0
    clear e0
    rw [ek, ← h]
    generalize lecternref1_Bytes.l1 k (w : Int) l (setN b0 i w (num l i) (j + 1)) (i : Int) ((j + 1 : Nat) : Int) = R at h
    have hR : lecternref1_Bytes.l1 k (w : Int) l (if (num l i).testBit j then put (setN b0 i w (num l i) j) (i * w + j) else setN b0 i w (num l i) j) (i : Int) ((j : Int) + 1) = R := by
      rw [h]; exact ih k (j + 1) (by omega) (by omega) (by omega)
    rw [← hR]
    generalize setN b0 i w (num l i) j = B at *
    simp only [lecternref1_Bytes.l1]
    rw [if_pos (by omega), if_pos (by omega), if_pos (by omega), if_pos (by omega), rd_num l i (fun x hx => (hu x hx).1), bit_u64 _ j (num_lt hu i) (by omega), E.out, quo8, rem8, wrap64_in (((i * w + j) / 8 : Nat) : Int) (by omega) (by omega), wrap64_in ((j : Int) + 1) (by omega) (by omega)]
    cases hbit : (num l i).testBit j
    · rw [if_neg (by simp), if_neg (by simp)]
    · rw [if_pos (by simp), if_pos (by omega), if_pos (by rw [hlen]; omega), if_pos (by omega), put_term hbk, if_pos rfl]
theorem ref_bytes_loop (w : Nat) (hw : w ≤ 64) (l : List Int) (hu : U64s l) (hl : l.length ≤ 17592186044416) : ∀ (d k i : Nat), i ≤ l.length → l.length - i = d → 66 * d + 1 ≤ k → lecternref1_Bytes.l0 k (w : Int) l (fill w l i) (i : Int) = some (enc w l) := by
  intro d
  induction d with
  | zero =>
    intro k i hi hd hk
    obtain ⟨k, rfl⟩ : ∃ m, k = m + 1 := ⟨k - 1, by omega⟩
    have : i = l.length := by omega
    subst this
    simp only [lecternref1_Bytes.l0]
    rw [if_neg (by omega)]
    rfl
  | succ d ih =>
    intro k i hi hd hk
    obtain ⟨k, rfl⟩ : ∃ m, k = m + 1 := ⟨k - 1, by omega⟩
    simp only [lecternref1_Bytes.l0]
    rw [if_pos (by omega)]
    have h := ref_bytes_inner w hw l hu hl i (by omega) (fill w l i) (fill_all w l i) (fill_len w l i) w k 0 (by omega) (by omega) (by omega)
    have h0 : lecternref1_Bytes.l1 k (w : Int) l (fill w l i) (i : Int) 0 = lecternref1_Bytes.l0 (k - w - 1) (w : Int) l (fill w l (i + 1)) ((i : Int) + 1) := h
    rw [h0]
    exact ih (k - w - 1) (i + 1) (by omega) (by omega) (by omega)
theorem ref_bytes_is (w : Nat) (hw : w ≤ 64) (l : List Int) (hu : U64s l) (hl : l.length ≤ 4398046511104) (k : Nat) (hk : 66 * l.length + 1 ≤ k) : lecternref1_Bytes.f k (w : Int) l = some (enc w l) := by
  unfold lecternref1_Bytes.f
  have hm : w * l.length ≤ 64 * l.length := Nat.mul_le_mul_right _ hw
  rw [bytes_num w l.length hw (by omega), Int.toNat_natCast, if_pos (by omega), if_pos (by omega)]
  exact ref_bytes_loop w hw l hu (by omega) l.length k 0 (by omega) (by omega) hk
/-- The numbers that are read so far: the first i whole, of number i the first k bits. -/
def nums_ (b : List Int) (w n i k : Nat) : List Int := (List.range n).map fun q => (((if q < i then rdN b q w w else if q = i then rdN b i w k else 0) : Nat) : Int)
theorem nums_len (b : List Int) (w n i k : Nat) : (nums_ b w n i k).length = n := by simp [nums_]
theorem nums_zero (b : List Int) (w n : Nat) : nums_ b w n 0 0 = List.replicate n 0 := by
  unfold nums_
  apply List.ext_getElem
  · simp
  · intro q h1 h2
    simp
    intro _
    rfl
theorem nums_next (b : List Int) (w n i : Nat) : nums_ b w n i w = nums_ b w n (i + 1) 0 := by
  unfold nums_
  apply List.map_congr_left
  intro q hq
  by_cases h1 : q < i
  · have : q < i + 1 := by omega
    simp [h1, this]
  · by_cases h2 : q = i
    · subst h2
      simp
    · have h3 : ¬ q < i + 1 := by omega
      have h4 : ¬ q < i := by omega
      rw [if_neg h4, if_neg h2, if_neg h3]
      by_cases h5 : q = i + 1
      · rw [if_pos h5]; rfl
      · rw [if_neg h5]
theorem nums_rd (b : List Int) (w n i k : Nat) (hi : i < n) : rd (nums_ b w n i k) (i : Int) = ((rdN b i w k : Nat) : Int) := by
  rw [rd_get (by rw [nums_len]; exact hi)]
  simp [nums_]
theorem nums_set (b : List Int) (w n i k : Nat) (hi : i < n) : (nums_ b w n i k).set i ((rdN b i w (k + 1) : Nat) : Int) = nums_ b w n i (k + 1) := by
  apply List.ext_getElem
  · simp [nums_]
  · intro q h1 h2
    rw [List.getElem_set]
    by_cases hq : i = q
    · subst hq
      simp [nums_]
    · rw [if_neg hq]
      have h3 : ¬ q = i := fun e => hq e.symm
      simp [nums_, h3]
theorem nums_same (b : List Int) (w n i k : Nat) (h : rdN b i w (k + 1) = rdN b i w k) : nums_ b w n i k = nums_ b w n i (k + 1) := by
  unfold nums_
  apply List.map_congr_left
  intro q hq
  rw [h]
theorem nums_u64 (b : List Int) (w n i k : Nat) (hw : w ≤ 64) (hk : k ≤ 64) : U64s (nums_ b w n i k) := by
  intro x hx
  obtain ⟨q, hq, rfl⟩ := List.mem_map.1 hx
  refine ⟨Int.natCast_nonneg _, ?_⟩
  have hp : ∀ j, j ≤ 64 → ∀ q, rdN b q w j < 2 ^ 64 := fun j hj q => Nat.lt_of_lt_of_le (rdN_lt b q w j) (Nat.pow_le_pow_right (by decide) hj)
  have : (if q < i then rdN b q w w else if q = i then rdN b i w k else 0) < 2 ^ 64 := by
    split
    · exact hp w hw q
    · split
      · exact hp k hk i
      · decide
  omega
theorem or_term {b : List Int} (w n i k : Nat) (hi : i < n) (hk : k < 64) (hbit : tb b (i * w + k) = true) : Go.bits .or .u64 (rd (nums_ b w n i k) (i : Int)) (shl .u64 1 (k : Int)) = ((rdN b i w (k + 1) : Nat) : Int) := by
  have h1 : rdN b i w k < 2 ^ 64 := Nat.lt_of_lt_of_le (rdN_lt b i w k) (Nat.pow_le_pow_right (by decide) (by omega))
  have h2 : (1 <<< k) < 2 ^ 64 := by rw [Nat.shiftLeft_eq, Nat.one_mul]; exact Nat.pow_lt_pow_right (by decide) hk
  rw [nums_rd b w n i k hi, show (1 : Int) = ((1 : Nat) : Int) from rfl, shl_u64 1 k (by omega) hk, or_u64 _ _ h1 h2]
  simp only [rdN, hbit]
  rfl
theorem ref_parse_inner (w n : Nat) (hw : w ≤ 64) (hn : n ≤ 131072) (b : List Int) (hb : AllB b) (hbl : b.length = (w * n + 7) / 8) (i : Nat) (hi : i < n) :
    ∀ (d k j : Nat), j ≤ w → w - j = d → d + 1 ≤ k → lecternref1_Parse.l1 k (w : Int) (n : Int) b (nums_ b w n i j) (i : Int) (j : Int) = lecternref1_Parse.l0 (k - d - 1) (w : Int) (n : Int) b (nums_ b w n (i + 1) 0) ((i : Int) + 1) := by
  intro d
  induction d with
  | zero =>
    intro k j hj hd hk
    obtain ⟨k, rfl⟩ : ∃ m, k = m + 1 := ⟨k - 1, by omega⟩
    have : j = w := by omega
    subst this
    simp only [lecternref1_Parse.l1]
    rw [if_neg (by omega), wrap64_in _ (by omega) (by omega), nums_next]
    rfl
  | succ d ih =>
    intro k j hj hd hk
    obtain ⟨k, rfl⟩ : ∃ m, k = m + 1 := ⟨k - 1, by omega⟩
    have h := ih k (j + 1) (by omega) (by omega) (by omega)
    have hjw : j < w := by omega
    have hq := at_lt (w := w) (n := n) hi hjw
    have ek : k + 1 - (d + 1) - 1 = k - d - 1 := by omega
    have hcast : ((j + 1 : Nat) : Int) = (j : Int) + 1 := rfl
    have H1 : Aside0 (wrap64 ((j : Int) + 1) = (j : Int) + 1) := ⟨wrap64_in _ (by omega) (by omega)⟩
    obtain ⟨e0, hm⟩ := at_num w n i j hw hi (by omega) hjw
    have E := Aside0.mk e0
    clear e0
    have H2 : Aside0 (wrap64 (((i * w + j) / 8 : Nat) : Int) = (((i * w + j) / 8 : Nat) : Int)) := ⟨wrap64_in _ (by omega) (by omega)⟩
    rw [ek, ← h, hcast]
    simp only [lecternref1_Parse.l1]
    rw [if_pos (by omega), E.out, quo8, rem8, H2.out, if_pos (by omega), if_pos (by omega), if_pos (by omega), rd_byte hb, bit_u8 _ _ (byteAt_lt hb _) (Nat.mod_lt _ (by decide)), H1.out]
    cases hbit : tb b (i * w + j)
    · have hbit' : (byteAt b ((i * w + j) / 8)).testBit ((i * w + j) % 8) = false := hbit
      rw [hbit', if_neg (by simp)]
      have e : rdN b i w (j + 1) = rdN b i w j := by simp [rdN, hbit]
      rw [nums_same b w n i j e]
    · have hbit' : (byteAt b ((i * w + j) / 8)).testBit ((i * w + j) % 8) = true := hbit
      rw [hbit', if_pos (by simp), if_pos (by omega), if_pos (by rw [nums_len]; omega), if_pos (by omega), or_term w n i j hi (by omega) hbit, Int.toNat_natCast, nums_set b w n i j hi]
def parsed (b : List Int) (w n : Nat) : List Int := nums_ b w n n 0
theorem ref_parse_loop (w n : Nat) (hw : w ≤ 64) (hn : n ≤ 131072) (b : List Int) (hb : AllB b) (hbl : b.length = (w * n + 7) / 8) : ∀ (d k i : Nat), i ≤ n → n - i = d → 66 * d + 10000000 ≤ k → lecternref1_Parse.l0 k (w : Int) (n : Int) b (nums_ b w n i 0) (i : Int) = some (parsed b w n, decide (enc w (parsed b w n) = b)) := by
  have hm : w * n ≤ 64 * n := Nat.mul_le_mul_right _ hw
  intro d
  induction d with
  | zero =>
    intro k i hi hd hk
    obtain ⟨k, rfl⟩ : ∃ m, k = m + 1 := ⟨k - 1, by omega⟩
    have : i = n := by omega
    subst this
    simp only [lecternref1_Parse.l0]
    have hl := nums_len b w i i 0
    have hle := enc_len w (nums_ b w i i 0)
    rw [hl] at hle
    rw [if_neg (by omega), ref_bytes_is w hw _ (nums_u64 b w i i 0 hw (by omega)) (by omega) k (by omega)]
    simp only [Option.bind_some]
    rw [eqb_is _ b (by rw [hle]; omega) k (by rw [hle]; omega)]
    rfl
  | succ d ih =>
    intro k i hi hd hk
    obtain ⟨k, rfl⟩ : ∃ m, k = m + 1 := ⟨k - 1, by omega⟩
    simp only [lecternref1_Parse.l0]
    rw [if_pos (by omega)]
    have h := ref_parse_inner w n hw hn b hb hbl i (by omega) w k 0 (by omega) (by omega) (by omega)
    rw [show ((0 : Nat) : Int) = 0 from rfl] at h
    rw [h]
    exact ih (k - w - 1) (i + 1) (by omega) (by omega) (by omega)
def fitB (w n : Int) (b : List Int) : Bool := decide (0 ≤ w ∧ w ≤ 64 ∧ 0 ≤ n ∧ n ≤ 131072 ∧ (b.length : Int) = ((((w.toNat * n.toNat + 7) / 8 : Nat)) : Int))
theorem ref_parse_no (w n : Int) (b : List Int) (k : Nat) (hk : 2 ≤ k) (h : fitB w n b = false) : lecternref1_Parse.f k w n b = some ([], false) := by
  obtain ⟨k, rfl⟩ : ∃ m, k = m + 1 := ⟨k - 1, by omega⟩
  unfold fitB at h
  have h' := of_decide_eq_false h
  unfold lecternref1_Parse.f
  have yes : lecternref1_Parse.j0 (k + 1) w n b true = some ([], false) := by simp only [lecternref1_Parse.j0, if_true]
  by_cases h0 : w < 0
  · rw [if_pos h0, yes]
  · rw [if_neg h0]
    by_cases h1 : w > 64
    · rw [if_pos h1, yes]
    · rw [if_neg h1]
      by_cases h2 : n < 0
      · rw [if_pos h2, yes]
      · rw [if_neg h2]
        by_cases h3 : n > 131072
        · rw [if_pos h3, yes]
        · rw [if_neg h3]
          obtain ⟨w', rfl⟩ := Int.eq_ofNat_of_zero_le (show 0 ≤ w by omega)
          obtain ⟨n', rfl⟩ := Int.eq_ofNat_of_zero_le (show 0 ≤ n by omega)
          rw [bytes_num w' n' (by omega) (by omega)]
          simp only [Int.toNat_natCast] at h'
          have hne : (b.length : Int) ≠ (((w' * n' + 7) / 8 : Nat) : Int) := fun e => h' ⟨by omega, by omega, by omega, by omega, e⟩
          rw [bne_iff_ne.2 hne, yes]
theorem ref_parse_is (w n : Nat) (b : List Int) (hb : AllB b) (k : Nat) (hk : 20000000 ≤ k) (h : fitB w n b = true) : lecternref1_Parse.f k (w : Int) (n : Int) b = some (parsed b w n, decide (enc w (parsed b w n) = b)) := by
  unfold fitB at h
  have h' := of_decide_eq_true h
  simp only [Int.toNat_natCast] at h'
  obtain ⟨h0, h1, h2, h3, h4⟩ := h'
  unfold lecternref1_Parse.f
  rw [if_neg (by omega), if_neg (by omega), if_neg (by omega), if_neg (by omega), bytes_num w n (by omega) (by omega)]
  obtain ⟨k, rfl⟩ : ∃ m, k = m + 1 := ⟨k - 1, by omega⟩
  have hf : ((b.length : Int) != (((w * n + 7) / 8 : Nat) : Int)) = false := by rw [bne_eq_false_iff_eq]; exact h4
  rw [hf]
  simp only [lecternref1_Parse.j0]
  rw [if_neg (by simp), if_pos (by omega), Int.toNat_natCast, if_pos (by omega), ← nums_zero b w n]
  exact ref_parse_loop w n (by omega) (by omega) b hb (by omega) n k 0 (by omega) (by omega) (by omega)
/-- Bytes are just the bytes of the numbers that are read from them where no bit is left over. -/
theorem parsed_num (b : List Int) (w n i : Nat) (hi : i < n) : num (parsed b w n) i = rdN b i w w := by
  unfold parsed num
  rw [List.getD_eq_getElem?_getD, List.getElem?_eq_getElem (by rw [nums_len]; exact hi)]
  simp [nums_, hi]
theorem enc_parsed (b : List Int) (hb : AllB b) (w n : Nat) (hl : b.length = (w * n + 7) / 8) : enc w (parsed b w n) = b ↔ ∀ m, w * n ≤ m → m < 8 * b.length → tb b m = false := by
  have hpl : (parsed b w n).length = n := nums_len b w n n 0
  have hel := enc_len w (parsed b w n)
  rw [hpl] at hel
  constructor
  · intro h m h1 h2
    rw [← h, tb_enc, hpl]
    have : ¬ m < n * w := by rw [Nat.mul_comm]; omega
    simp [this]
  · intro h
    refine bytes_ext (enc_all _ _) hb (by omega) fun m hm => ?_
    rw [tb_enc, hpl]
    by_cases h1 : m < n * w
    · rw [decide_eq_true h1]
      have hw : 0 < w := Nat.pos_of_ne_zero (fun e => by subst e; simp at h1)
      have hq : m / w < n := (Nat.div_lt_iff_lt_mul hw).2 h1
      have hr : m % w < w := Nat.mod_lt _ hw
      unfold want
      rw [parsed_num b w n _ hq, rdN_bit]
      have e : m / w * w + m % w = m := by rw [Nat.mul_comm]; exact Nat.div_add_mod m w
      simp [hr, e]
    · rw [decide_eq_false h1]
      rw [h m (by rw [Nat.mul_comm]; omega) (by omega)]
      rfl
end Go.Proofs.Ytfjndhlkdckieaa.I
