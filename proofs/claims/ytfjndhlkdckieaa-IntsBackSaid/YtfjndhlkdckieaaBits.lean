/- Numbers of w bits laid into bytes one behind the other, and read again. Plain lists of numbers, no program. -/
import Derived.Test.YtfjndhlkdckieaaBase
namespace Go.Proofs.Ytfjndhlkdckieaa.Bits
set_option linter.unusedVariables false
set_option linter.unusedSimpArgs false

def byteAt (b : List Int) (q : Nat) : Nat := (b.getD q 0).toNat
def tb (b : List Int) (j : Nat) : Bool := (byteAt b (j / 8)).testBit (j % 8)
def put (b : List Int) (j : Nat) : List Int := b.set (j / 8) ((byteAt b (j / 8) ||| 2 ^ (j % 8) : Nat) : Int)
def AllB (b : List Int) : Prop := ∀ x ∈ b, 0 ≤ x ∧ x ≤ 255
theorem put_len (b : List Int) (j : Nat) : (put b j).length = b.length := by simp [put]
theorem byteAt_lt {b : List Int} (h : AllB b) (q : Nat) : byteAt b q < 256 := by
  unfold byteAt
  rw [List.getD_eq_getElem?_getD]
  by_cases hq : q < b.length
  · rw [List.getElem?_eq_getElem hq]
    have := h _ (List.getElem_mem hq)
    simp
    omega
  · rw [List.getElem?_eq_none (by omega)]
    simp
theorem put_all {b : List Int} (h : AllB b) (j : Nat) : AllB (put b j) := by
  intro x hx
  rcases List.mem_or_eq_of_mem_set hx with hx | rfl
  · exact h x hx
  · have h1 := byteAt_lt h (j / 8)
    have h2 : 2 ^ (j % 8) < 2 ^ 8 := Nat.pow_lt_pow_right (by decide) (Nat.mod_lt _ (by decide))
    have := Nat.or_lt_two_pow (n := 8) h1 h2
    omega
theorem byteAt_put (b : List Int) (j q : Nat) (hj : j / 8 < b.length) : byteAt (put b j) q = if q = j / 8 then byteAt b q ||| 2 ^ (j % 8) else byteAt b q := by
  unfold put
  by_cases h : q = j / 8
  · subst h
    rw [if_pos rfl]
    conv => lhs; unfold byteAt
    rw [List.getD_eq_getElem?_getD, List.getElem?_set_self hj]
    simp
    rfl
  · rw [if_neg h]
    unfold byteAt
    rw [List.getD_eq_getElem?_getD, List.getElem?_set_ne (fun he => h he.symm), ← List.getD_eq_getElem?_getD]
theorem tb_put (b : List Int) (j m : Nat) (hj : j / 8 < b.length) : tb (put b j) m = (tb b m || decide (m = j)) := by
  unfold tb
  rw [byteAt_put b j _ hj]
  by_cases h : m / 8 = j / 8
  · rw [if_pos h, Nat.testBit_or, Nat.testBit_two_pow]
    by_cases h2 : j % 8 = m % 8
    · have : m = j := by omega
      simp [h2, this]
    · have : m ≠ j := by omega
      simp [h2, this]
  · rw [if_neg h]
    have : m ≠ j := fun e => h (by rw [e])
    simp [this]
/-- The first k bits of number i, of the value v. -/
def setN (b : List Int) (i w v : Nat) : Nat → List Int
  | 0 => b
  | k + 1 => if v.testBit k then put (setN b i w v k) (i * w + k) else setN b i w v k
theorem setN_len (b : List Int) (i w v : Nat) : ∀ k, (setN b i w v k).length = b.length
  | 0 => rfl
  | k + 1 => by
    simp only [setN]
    split
    · rw [put_len, setN_len b i w v k]
    · exact setN_len b i w v k
theorem setN_all {b : List Int} (h : AllB b) (i w v : Nat) : ∀ k, AllB (setN b i w v k)
  | 0 => h
  | k + 1 => by
    simp only [setN]
    split
    · exact put_all (setN_all h i w v k) _
    · exact setN_all h i w v k
theorem tb_setN (b : List Int) (i w v m : Nat) : ∀ k, k ≤ w → (i * w + w ≤ 8 * b.length) → tb (setN b i w v k) m = (tb b m || (decide (i * w ≤ m ∧ m < i * w + k) && v.testBit (m - i * w)))
  | 0, _, _ => by
    have : ¬ (i * w ≤ m ∧ m < i * w + 0) := by omega
    simp only [setN]
    rw [decide_eq_false this]
    simp
  | k + 1, hk, hb => by
    have ih := tb_setN b i w v m k (by omega) hb
    simp only [setN]
    by_cases hv : v.testBit k = true
    · rw [if_pos hv, tb_put _ _ _ (by rw [setN_len]; omega), ih]
      by_cases hm : m = i * w + k
      · subst hm
        have e : i * w + k - i * w = k := by omega
        simp [e, hv]
      · by_cases h1 : i * w ≤ m ∧ m < i * w + k
        · have h2 : i * w ≤ m ∧ m < i * w + (k + 1) := by omega
          simp [h1, h2, hm]
        · have h2 : ¬ (i * w ≤ m ∧ m < i * w + (k + 1)) := by omega
          simp [h1, h2, hm]
    · rw [if_neg hv, ih]
      by_cases hm : m = i * w + k
      · subst hm
        have e : i * w + k - i * w = k := by omega
        simp [e, hv]
      · by_cases h1 : i * w ≤ m ∧ m < i * w + k
        · have h2 : i * w ≤ m ∧ m < i * w + (k + 1) := by omega
          simp [h1, h2]
        · have h2 : ¬ (i * w ≤ m ∧ m < i * w + (k + 1)) := by omega
          simp [h1, h2]
def num (l : List Int) (i : Nat) : Nat := (l.getD i 0).toNat
def fill (w : Nat) (l : List Int) : Nat → List Int
  | 0 => List.replicate ((w * l.length + 7) / 8) 0
  | i + 1 => setN (fill w l i) i w (num l i) w
theorem fill_len (w : Nat) (l : List Int) : ∀ i, (fill w l i).length = (w * l.length + 7) / 8
  | 0 => by simp [fill]
  | i + 1 => by simp only [fill]; rw [setN_len, fill_len w l i]
theorem zeros_all (n : Nat) : AllB (List.replicate n 0) := fun x hx => by
  rw [List.eq_of_mem_replicate hx]
  omega
theorem fill_all (w : Nat) (l : List Int) : ∀ i, AllB (fill w l i)
  | 0 => zeros_all _
  | i + 1 => setN_all (fill_all w l i) _ _ _ _
theorem tb_zeros (n m : Nat) : tb (List.replicate n 0) m = false := by
  unfold tb byteAt
  rw [List.getD_eq_getElem?_getD, List.getElem?_replicate]
  split <;> simp
/-- Bit m of numbers of w bits. -/
def want (w : Nat) (l : List Int) (m : Nat) : Bool := (num l (m / w)).testBit (m % w)
theorem tb_fill (w : Nat) (l : List Int) (m : Nat) : ∀ i, i ≤ l.length → tb (fill w l i) m = (decide (m < i * w) && want w l m)
  | 0, _ => by simp [fill, tb_zeros]
  | i + 1, hi => by
    have ih := tb_fill w l m i (by omega)
    simp only [fill]
    have hb : i * w + w ≤ 8 * (fill w l i).length := by
      rw [fill_len]
      have : (i + 1) * w ≤ l.length * w := Nat.mul_le_mul_right w hi
      rw [Nat.add_mul, Nat.one_mul, Nat.mul_comm l.length] at this
      omega
    rw [tb_setN _ _ _ _ _ w (Nat.le_refl _) hb, ih]
    have e : (i + 1) * w = i * w + w := by rw [Nat.add_mul, Nat.one_mul]
    rw [e]
    by_cases h1 : m < i * w
    · have h2 : m < i * w + w := by omega
      have h3 : ¬ (i * w ≤ m ∧ m < i * w + w) := by omega
      rw [decide_eq_false h3, decide_eq_true h1, decide_eq_true h2]
      simp
    · by_cases h2 : m < i * w + w
      · have h3 : i * w ≤ m ∧ m < i * w + w := by omega
        have hw : 0 < w := by omega
        have hq : m / w = i := by
          rw [Nat.div_eq_iff hw]
          omega
        have hr : m % w = m - i * w := by
          have := Nat.mod_add_div m w
          rw [hq, Nat.mul_comm w i] at this
          omega
        unfold want
        rw [hq, hr]
        simp [h1, h2, h3]
      · have h3 : ¬ (i * w ≤ m ∧ m < i * w + w) := by omega
        simp [h1, h2, h3]
def enc (w : Nat) (l : List Int) : List Int := fill w l l.length
theorem enc_len (w : Nat) (l : List Int) : (enc w l).length = (w * l.length + 7) / 8 := fill_len _ _ _
theorem enc_all (w : Nat) (l : List Int) : AllB (enc w l) := fill_all _ _ _
theorem tb_enc (w : Nat) (l : List Int) (m : Nat) : tb (enc w l) m = (decide (m < l.length * w) && want w l m) := tb_fill w l m l.length (Nat.le_refl _)
/-- The first k bits of number i, read. -/
def rdN (b : List Int) (i w : Nat) : Nat → Nat
  | 0 => 0
  | k + 1 => rdN b i w k ||| ((tb b (i * w + k)).toNat <<< k)
theorem rdN_bit (b : List Int) (i w q : Nat) : ∀ k, (rdN b i w k).testBit q = (decide (q < k) && tb b (i * w + q))
  | 0 => by simp [rdN]
  | k + 1 => by
    simp only [rdN]
    rw [Nat.testBit_or, rdN_bit b i w q k]
    by_cases hq : q = k
    · subst hq
      cases h : tb b (i * w + q) <;> simp [h, Nat.testBit_shiftLeft]
    · have h1 : ((tb b (i * w + k)).toNat <<< k).testBit q = false := by
        cases tb b (i * w + k)
        · simp
        · rw [show (true.toNat <<< k) = 2 ^ k from by simp [Nat.shiftLeft_eq], Nat.testBit_two_pow]
          simp
          omega
      rw [h1]
      by_cases h2 : q < k
      · have : q < k + 1 := by omega
        simp [h2, this]
      · have : ¬ q < k + 1 := by omega
        simp [h2, this]
theorem rdN_lt (b : List Int) (i w k : Nat) : rdN b i w k < 2 ^ k := by
  refine Nat.lt_pow_two_of_testBit _ fun q hq => ?_
  rw [rdN_bit]
  have : ¬ q < k := by omega
  simp [this]
theorem rd_enc (w : Nat) (l : List Int) (i : Nat) (hi : i < l.length) (hv : num l i < 2 ^ w) : rdN (enc w l) i w w = num l i := by
  apply Nat.eq_of_testBit_eq
  intro q
  rw [rdN_bit]
  by_cases hq : q < w
  · rw [tb_enc]
    have h1 : i * w + q < l.length * w := by
      have : (i + 1) * w ≤ l.length * w := Nat.mul_le_mul_right w hi
      rw [Nat.add_mul, Nat.one_mul] at this
      omega
    have hd : (i * w + q) / w = i := by
      rw [Nat.mul_comm, Nat.mul_add_div (by omega), Nat.div_eq_of_lt hq]
      omega
    have hm : (i * w + q) % w = q := by
      rw [Nat.mul_comm, Nat.mul_add_mod, Nat.mod_eq_of_lt hq]
    unfold want
    rw [hd, hm]
    simp [hq, h1]
  · have : (num l i).testBit q = false := Nat.testBit_lt_two_pow (Nat.lt_of_lt_of_le hv (Nat.pow_le_pow_right (by decide) (by omega)))
    simp [hq, this]
/-- Lists of bytes with the same bits are the same. -/
theorem bytes_ext {a b : List Int} (ha : AllB a) (hb : AllB b) (hl : a.length = b.length) (h : ∀ m, m < 8 * a.length → tb a m = tb b m) : a = b := by
  apply List.ext_getElem hl
  intro q h1 h2
  have ea : byteAt a q = byteAt b q := by
    apply Nat.eq_of_testBit_eq
    intro r
    by_cases hr : r < 8
    · have := h (8 * q + r) (by omega)
      unfold tb at this
      rw [show (8 * q + r) / 8 = q by omega, show (8 * q + r) % 8 = r by omega] at this
      exact this
    · have x1 : (byteAt a q).testBit r = false := Nat.testBit_lt_two_pow (Nat.lt_of_lt_of_le (byteAt_lt ha q) (Nat.pow_le_pow_right (n := 2) (show 0 < 2 by decide) (show 8 ≤ r by omega)))
      have x2 : (byteAt b q).testBit r = false := Nat.testBit_lt_two_pow (Nat.lt_of_lt_of_le (byteAt_lt hb q) (Nat.pow_le_pow_right (n := 2) (show 0 < 2 by decide) (show 8 ≤ r by omega)))
      rw [x1, x2]
  unfold byteAt at ea
  rw [List.getD_eq_getElem?_getD, List.getD_eq_getElem?_getD, List.getElem?_eq_getElem h1, List.getElem?_eq_getElem h2] at ea
  simp at ea
  have p1 := ha _ (List.getElem_mem h1)
  have p2 := hb _ (List.getElem_mem h2)
  omega
end Go.Proofs.Ytfjndhlkdckieaa.Bits
