/- Image in plain Lean: the bytes of a state are read as it. -/
import Derived.Test.YticlghbdapbdnaaILC
namespace Go.Proofs.Yticlghbdapbdnaa.I
open Go.RowKit Go.Proofs.YticlghbdapbdnaaW.PrintWords Go.Proofs.YticlghbdapbdnaaW.PrintLast Go.Proofs.YticlghbdapbdnaaW.PrintMore
set_option linter.unusedVariables false
set_option linter.unusedSimpArgs false
theorem or_join (x y : Int) (j : Nat) (hx : 0 ≤ x) (hx1 : x < 2 ^ j) (hxm : x < 2 ^ 63) (hy : 0 ≤ y) (hy1 : y < 2 ^ 63) (hm : y % 2 ^ j = 0) : Go.bits .or .i64 x y = x + y := by
  have h := bits_join .i64 63 (by decide) i64_wraps j y x hy hm hy1 hx hx1 hxm
  obtain ⟨a, rfl⟩ := Int.eq_ofNat_of_zero_le hx
  obtain ⟨b, rfl⟩ := Int.eq_ofNat_of_zero_le hy
  have ha : a < 2 ^ 63 := by exact_mod_cast hxm
  have hb : b < 2 ^ 63 := by exact_mod_cast hy1
  rw [(bits_nat .i64 63 (by decide) i64_wraps b a hb ha).2, Nat.or_comm] at h
  rw [(bits_nat .i64 63 (by decide) i64_wraps a b ha hb).2, h, Int.add_comm]
theorem or128_tab : ∀ a : Fin 256, (a.val ||| 128) % 128 = a.val % 128 ∧ 128 ≤ (a.val ||| 128) := by decide +kernel
theorem or128_val (x : Int) : Go.bits .or .u8 (x % 256) 128 % 128 = x % 128 ∧ 128 ≤ Go.bits .or .u8 (x % 256) 128 := by
  have h0 : 0 ≤ x % 256 := by omega
  have h1 : x % 256 < 256 := by omega
  obtain ⟨a, ha⟩ := Int.eq_ofNat_of_zero_le h0
  rw [ha] at h1 ⊢
  have h2 : a < 2 ^ 8 := by omega
  have h3 := (bits_nat .u8 8 (by decide) wraps_u8 a 128 h2 (by decide)).2
  have h5 : Go.bits .or .u8 ((a : Nat) : Int) 128 = ((a ||| 128 : Nat) : Int) := h3
  have h6 := or128_tab ⟨a, by omega⟩
  dsimp only at h6
  rw [h5]
  omega
/-- b is the number x, as it is written and read. -/
structure NumB (x : Int) (b : List Int) : Prop where
  inb : InB b
  enc : ∀ acc : List Int, acc.length ≤ 1000000000 → Ev (fun k => wire_num.f k acc x) (acc ++ b)
  len : 1 ≤ b.length ∧ b.length ≤ 9
  rd_ : ∀ rest : List Int, (b ++ rest).length ≤ 1000000000 → Ev (fun k => wire_GetNum.f k (b ++ rest)) (x, (b.length : Int), 0)
theorem rd_drop (l : List Int) (j : Nat) (c : Int) (r : List Int) (h : l.drop j = c :: r) : rd l (j : Int) = c ∧ j < l.length ∧ l.drop (j + 1) = r := by
  have hj : j < l.length := by
    rcases Nat.lt_or_ge j l.length with h2 | h2
    · exact h2
    · rw [List.drop_eq_nil_of_le h2] at h; cases h
  rw [List.drop_eq_getElem_cons hj] at h
  injection h with h1 h2
  exact ⟨by rw [rd_get l j hj]; exact h1, hj, h2⟩
theorem pow_step (x : Int) (j : Nat) : x % 128 * 2 ^ (7 * j) + x / 128 * 2 ^ (7 * (j + 1)) = x * 2 ^ (7 * j) := by
  have h : (2 : Int) ^ (7 * (j + 1)) = 128 * 2 ^ (7 * j) := by rw [Nat.mul_succ, Int.pow_add, Int.mul_comm]; rfl
  rw [h, ← Int.mul_assoc, ← Int.add_mul]
  congr 1
  omega
theorem gn_step (k : Nat) (l : List Int) (j : Nat) (y : Int) (hl : l.length ≤ 1000000000) (hjl : j < l.length) (hj : j ≤ 8) (h0 : 0 ≤ rd l (j : Int)) (h1 : rd l (j : Int) < 256) : wire_GetNum.l0 (k + 1) y l (l.length : Int) (j : Int) = (if (rd l (j : Int)) < 128 then (if (rd l (j : Int)) = 0 then (if (j : Int) > 0 then (some (0, 0, 1)) else (some (Go.bits .or .i64 y ((rd l (j : Int) % 128) * 2 ^ (7 * j)), ((j + 1 : Nat) : Int), 0))) else (some (Go.bits .or .i64 y ((rd l (j : Int) % 128) * 2 ^ (7 * j)), ((j + 1 : Nat) : Int), 0))) else (wire_GetNum.l0 k (Go.bits .or .i64 y ((rd l (j : Int) % 128) * 2 ^ (7 * j))) l (l.length : Int) ((j + 1 : Nat) : Int))) := by
  have hs := (shl_in (rd l (j : Int)) h0 h1 j hj).1
  have hw : 0 ≤ wrap64 (7 * (j : Int)) := by rw [wrb _ (by omega) (by omega)]; omega
  rw [wire_GetNum.l0, if_pos (by omega), if_pos (by omega), if_pos (by omega), if_neg (by omega), if_pos hw, hs, wrn j (by omega)]
/-- b is read as x from place j on. -/
def ReadsAt (x : Int) (b : List Int) (d : Nat) : Prop := ∀ (l rest : List Int) (j : Nat) (y : Int), l.length ≤ 1000000000 → l.drop j = b ++ rest → j + d ≤ 8 → 0 ≤ y → y < 2 ^ (7 * j) → (0 < j → 0 < x) → Ev (fun k => wire_GetNum.l0 k y l (l.length : Int) (j : Int)) (y + x * 2 ^ (7 * j), ((j + b.length : Nat) : Int), 0)
theorem join_at (y c : Int) (j : Nat) (hj : j ≤ 8) (hy0 : 0 ≤ y) (hy1 : y < 2 ^ (7 * j)) (h0 : 0 ≤ c) (h1 : c < 256) : Go.bits .or .i64 y ((c % 128) * 2 ^ (7 * j)) = y + (c % 128) * 2 ^ (7 * j) := by
  obtain ⟨hs, hs1, hs0⟩ := shl_in c h0 h1 j hj
  have hp : (2 : Int) ^ (7 * j) ≤ 2 ^ 56 := by exact_mod_cast Nat.pow_le_pow_right (by decide) (by omega : 7 * j ≤ 56)
  have hy2 : y < 2 ^ 63 := by
    have : (2 : Int) ^ 56 < 2 ^ 63 := by decide
    omega
  exact or_join y _ (7 * j) hy0 hy1 hy2 hs0 hs1 (Int.mul_emod_left _ _)
theorem num_small (x : Int) (h0 : 0 ≤ x) (h1 : x < 128) : (∀ acc : List Int, acc.length ≤ 1000000000 → Ev (fun k => wire_Num.l0 k x acc) (acc ++ [x % 256], 0)) ∧ ReadsAt x [x % 256] 0 := by
  refine ⟨fun acc ha => Ev.step ((Ev.pure _).of_eq fun k => by rw [wire_Num.l0, if_neg (by omega), if_pos (by omega)]), ?_⟩
  intro l rest j y hl hd hj hy0 hy1 hpos
  obtain ⟨hr, hjl, _⟩ := rd_drop l j _ _ hd
  have hrx : rd l (j : Int) = x := by rw [hr]; omega
  have hjoin := join_at y x j (by omega) hy0 hy1 h0 (by omega)
  have hx : x % 128 = x := by omega
  rw [hx] at hjoin
  have hst := fun k => gn_step k l j y hl hjl (by omega) (by omega) (by omega)
  rw [hrx] at hst
  refine Ev.step ((Ev.pure _).of_eq fun k => ?_)
  rw [hst k, hx, hjoin, if_pos h1]
  by_cases hz : x = 0
  · have hj0 : ¬ (j : Int) > 0 := fun hj0 => by have := hpos (by omega); omega
    rw [if_pos hz, if_neg hj0]
    rfl
  · rw [if_neg hz]
    rfl
theorem num_more (x : Int) (d : Nat) (b : List Int) (hx : 128 ≤ x) (h : ReadsAt (x / 128) b d) : ReadsAt x (Go.bits .or .u8 (x % 256) 128 :: b) (d + 1) := by
  intro l rest j y hl hdr hj hy0 hy1 hpos
  obtain ⟨hr, hjl, hdr2⟩ := rd_drop l j _ _ hdr
  obtain ⟨hv, hv2⟩ := or128_val x
  have hin := or128_in x
  have hjoin := join_at y (rd l (j : Int)) j (by omega) hy0 hy1 (by omega) (by omega)
  have hst := fun k => gn_step k l j y hl hjl (by omega) (by omega) (by omega)
  have hx2 : rd l (j : Int) % 128 = x % 128 := by rw [hr]; exact hv
  rw [hx2] at hjoin
  have hp7 : (2 : Int) ^ (7 * (j + 1)) = 128 * 2 ^ (7 * j) := by rw [Nat.mul_succ, Int.pow_add, Int.mul_comm]; rfl
  have hp0 : (0 : Int) < 2 ^ (7 * j) := by exact_mod_cast Nat.two_pow_pos (7 * j)
  have hle0 : 0 ≤ x % 128 * 2 ^ (7 * j) := Int.mul_nonneg (by omega) (by omega)
  have hle : x % 128 * 2 ^ (7 * j) ≤ 127 * 2 ^ (7 * j) := Int.mul_le_mul_of_nonneg_right (by omega) (by omega)
  have h2 := h l rest (j + 1) (y + x % 128 * 2 ^ (7 * j)) hl hdr2 (by omega) (by omega) (by rw [hp7]; omega) (fun _ => by omega)
  rw [Int.add_assoc, pow_step] at h2
  have hlen : ((j + 1 + b.length : Nat) : Int) = ((j + (Go.bits .or .u8 (x % 256) 128 :: b).length : Nat) : Int) := by simp only [List.length_cons]; omega
  rw [hlen] at h2
  refine Ev.step (h2.of_eq fun k => ?_)
  rw [hst k, hx2, hjoin, if_neg (by omega)]
theorem num_read : ∀ (d : Nat) (x : Int), 0 ≤ x → x < 128 ^ (d + 1) → d ≤ 8 → ∃ b : List Int, InB b ∧ 1 ≤ b.length ∧ b.length ≤ d + 1 ∧ (∀ acc : List Int, acc.length + d ≤ 1000000000 → Ev (fun k => wire_Num.l0 k x acc) (acc ++ b, 0)) ∧ ReadsAt x b d := by
  intro d
  induction d with
  | zero =>
    intro x h0 h1 hd
    have h2 : x < 128 := by simpa using h1
    obtain ⟨a3, a4⟩ := num_small x h0 h2
    exact ⟨[x % 256], InB.one (by omega), Nat.le_refl _, Nat.le_refl _, fun acc ha => a3 acc (by omega), a4⟩
  | succ d ih =>
    intro x h0 h1 hd
    by_cases h2 : x < 128
    · obtain ⟨a3, a4⟩ := num_small x h0 h2
      exact ⟨[x % 256], InB.one (by omega), Nat.le_refl _, by simp, fun acc ha => a3 acc (by omega), fun l rest j y hl hdr hj => a4 l rest j y hl hdr (by omega)⟩
    · have h3 : x / 128 < 128 ^ (d + 1) := by
        apply Int.ediv_lt_of_lt_mul (by decide)
        rw [← Int.pow_succ]
        exact h1
      obtain ⟨b, a1, a2, a3, a4, a5⟩ := ih (x / 128) (by omega) h3 (by omega)
      refine ⟨Go.bits .or .u8 (x % 256) 128 :: b, (InB.one (or128_in x)).append a1, by simp, by simp only [List.length_cons]; omega, ?_, num_more x d b (by omega) a5⟩
      intro acc ha
      have h := a4 (acc ++ [Go.bits .or .u8 (x % 256) 128]) (by rw [List.length_append, List.length_singleton]; omega)
      rw [List.append_assoc] at h
      exact Ev.step (h.of_eq fun k => by rw [wire_Num.l0, if_pos (by omega), if_pos (by omega)])
theorem numB_ex (x : Int) (h0 : 0 ≤ x) (h1 : x < 9223372036854775808) : ∃ b, NumB x b := by
  obtain ⟨b, a1, a2, a3, a4, a5⟩ := num_read 8 x h0 (by rw [pow9]; exact h1) (Nat.le_refl _)
  refine ⟨b, a1, fun acc ha => ?_, ⟨a2, a3⟩, fun rest hl => ?_⟩
  · have h := a4 [] (by simp)
    rw [List.nil_append] at h
    have h2 : Ev (fun k => wire_Num.f k x) (b, 0) := h.of_eq fun k => by unfold wire_Num.f; rw [if_neg (by omega)]
    exact h2.map (fun bt => if acc.length + bt.1.length < 140737488355328 then some (acc ++ bt.1) else none) (by rw [if_pos (by dsimp only; omega)])
  · have h := a5 (b ++ rest) rest 0 0 hl rfl (by omega) (Int.le_refl _) (by decide) (fun h => absurd h (by decide))
    have e : (0 : Int) + x * 2 ^ (7 * 0) = x := by simp
    rw [e, Nat.zero_add] at h
    exact h
end Go.Proofs.Yticlghbdapbdnaa.I
