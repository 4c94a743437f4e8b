/- Snap (merged). -/
import Derived.Test.YtoonepmnlgfikaaDM
import Derived.Deep.LoopGhost
import Derived.Test.YtoonepmnlgfikaaVxM
import Derived.Laws.BitsLemmas
import Derived.BigQuiet
/-! VSum -/
namespace Go.Proofs.Ytoonepmnlgfikaa.D
open Go.RowKit Go.Proofs.YtoonepmnlgfikaaW.PrintWords Go.Proofs.YtoonepmnlgfikaaW.PrintLast Go.Proofs.YtoonepmnlgfikaaW.PrintMore Go.Proofs.Ytoonepmnlgfikaa.Base
set_option linter.unusedVariables false
set_option linter.unusedSimpArgs false
def crc1 (x : Int) : Int := if Go.bits .and .u32 x 1 = 1 then Go.bits .xor .u32 (x / 2) 3988292384 else x / 2
def crcN : Nat → Int → Int
  | 0, x => x
  | n + 1, x => crcN n (crc1 x)
def crcAdd (s b : Int) : Int := crcN 8 (Go.bits .xor .u32 s (b % 4294967296))
def CrcAt (w : World) (g : Nat) (x : Int) : Prop := w.heap[g]? = some (.cells #[.int .u32 x] 148 (0, 0))
set_option maxHeartbeats 1600000 in
set_option maxRecDepth 100000 in
theorem bits_calls (g : Nat) (s : Int) (w : World) (hg : CrcAt w g s) :
    Calls Try.prog 94 #[.pointer (some ⟨g, 0, none⟩)] w fun e w' => e = .returned (.tuple #[]) ∧ CrcAt w' g (crcN 8 s) ∧ w.grownBy w' (some g) := by
  have HG := Aside0.mk hg
  clear hg
  go_enter Try.func94, Try.ntmps94
  go_wp2_with fail
  go_loopg [2] 8 (fun kq v2 w' => ∃ (i : Nat) (x : Int), Aside0 (i + kq = 8) ∧ v2 = .int .i64 i ∧ Aside0 (CrcAt w' g x) ∧ Aside0 (crcN kq x = crcN 8 s) ∧ Aside0 (w.grownBy w' (some g)))
  case atStart => exact ⟨0, s, ⟨rfl⟩, rfl, HG, ⟨rfl⟩, ⟨World.grownBy.refl w _⟩⟩
  case round =>
    obtain ⟨i, x, HIK, rfl, HX, HN, HGR⟩ := hrel
    cases gk with
    | zero =>
      have hi : i = 8 := HIK.out
      subst hi
      have hd : decide (((8 : Nat) : Int) < 8) = false := rfl
      go_wp2_with fail
      go_end0
      exact ⟨rfl, by rw [← HN.out]; exact HX.out, HGR.out⟩
    | succ k =>
      have hik : i < 8 := by have := HIK.out; omega
      have hd : decide ((i : Int) < 8) = true := decide_eq_true (by omega)
      have HW : Aside0 (wrap64 ((i : Int) + 1) = ((i + 1 : Nat) : Int)) := ⟨by rw [wrap64_in _ (by omega) (by omega)]; rfl⟩
      have hk2 : Aside0 (k < k + 1 ∧ i + 1 + k = 8) := ⟨by have := HIK.out; omega⟩
      have c0 : wr.cell? ⟨g, 0, none⟩ = some (.int .u32 x) := (blk_cell HX.out 0).trans rfl
      have f0 := blk_frozen HX.out 0
      clear hik
      by_cases hb : Go.bits .and .u32 x 1 = 1
      · have hbb : (Go.bits .and .u32 x 1 == 1) = true := beq_iff_eq.mpr hb
        have HC1 : Aside0 (crc1 x = Go.bits .xor .u32 (x / 2) 3988292384) := ⟨by unfold crc1; rw [if_pos hb]⟩
        clear hb
        go_wp2_with fail
        go_roundg k
        case measure => exact hk2.out.1
        case rel => exact ⟨i + 1, crc1 x, ⟨hk2.out.2⟩, (by rw [HW.out]), ⟨by rw [HC1.out]; exact blk_set HX.out 0 _⟩, ⟨HN.out⟩, ⟨HGR.out.trans (grown_set wr ⟨g, 0, none⟩ _)⟩⟩
      · have hbb : (Go.bits .and .u32 x 1 == 1) = false := beq_eq_false_iff_ne.mpr hb
        have HC1 : Aside0 (crc1 x = x / 2) := ⟨by unfold crc1; rw [if_neg hb]⟩
        clear hb
        go_wp2_with fail
        go_roundg k
        case measure => exact hk2.out.1
        case rel => exact ⟨i + 1, crc1 x, ⟨hk2.out.2⟩, (by rw [HW.out]), ⟨by rw [HC1.out]; exact blk_set HX.out 0 _⟩, ⟨HN.out⟩, ⟨HGR.out.trans (grown_set wr ⟨g, 0, none⟩ _)⟩⟩
def crcL (s : Int) (l : List Int) : Int := l.foldl crcAdd s
set_option maxHeartbeats 1600000 in
set_option maxRecDepth 100000 in
theorem add_calls (g : Nat) (s : Int) (A : Option Addr) (c : Nat) (l : List Int) (hl : l.length ≤ 1000) (w : World) (hg : CrcAt w g s) (hA : ∀ W : World, (∀ i, i < w.heap.size → i ≠ g → W.heap[i]? = w.heap[i]?) → Kd.C (Kd.int .u8) W A l.length l) :
    Calls Try.prog 91 #[.pointer (some ⟨g, 0, none⟩), .slice A l.length c] w fun e w' => e = .returned (.tuple #[]) ∧ CrcAt w' g (crcL s l) ∧ w.grownBy w' (some g) := by
  have HG := Aside0.mk hg
  have HA := Aside0.mk hA
  have hu148 := Try.underlying148
  clear hg hA
  go_enter Try.func91, Try.ntmps91
  go_wp2_with fail
  go_loopg [5, 8] l.length (fun kq v5 v8 w' => ∃ (i : Nat) (x : Int), Aside0 (i + kq = l.length) ∧ v8 = .int .i64 i ∧ Aside0 (CrcAt w' g x) ∧ Aside0 (crcL x (l.drop i) = crcL s l) ∧ Aside0 (w.grownBy w' (some g)))
  case atStart => exact ⟨0, s, ⟨by omega⟩, rfl, HG, ⟨by rw [List.drop_zero]⟩, ⟨World.grownBy.refl w _⟩⟩
  case round =>
    obtain ⟨i, x, HIK, rfl, HX, HN, HGR⟩ := hrel
    by_cases hlt : i < l.length
    · have clt : decide ((i : Int) < (l.length : Int)) = true := decide_eq_true (by omega)
      have clt2 : decide (i < l.length) = true := decide_eq_true hlt
      have q0 : ((i : Int) < (l.length : Int)) = True := eq_true (by omega)
      have p0 : ((0 : Int) ≤ (i : Int)) = True := eq_true (by omega)
      have HW : Aside0 (wrap64 ((i : Int) + 1) = ((i + 1 : Nat) : Int)) := ⟨by rw [wrap64_in _ (by omega) (by omega)]; rfl⟩
      have HT := Aside0.mk (tk_next _ _ _ HIK.out hlt)
      have hC := HA.out wr (fun j hj hne => HGR.out.block j hj (by simpa using hne))
      have hr := Kd.reads_of_C (enc := Value.int .u8) (d := (0 : Int)) hC
      obtain ⟨ad, e, hc⟩ := hr.2.2 (by omega)
      subst e
      have kb : wr.cell? (ad.add i) = some (.int .u8 (l.getD i 0)) := hc i hlt
      have c0 : wr.cell? ⟨g, 0, none⟩ = some (.int .u32 x) := (blk_cell HX.out 0).trans rfl
      have f0 := blk_frozen HX.out 0
      have hdr : l.drop i = l.getD i 0 :: l.drop (i + 1) := by
        rw [List.drop_eq_getElem_cons hlt, List.getD_eq_getElem?_getD, List.getElem?_eq_getElem hlt]; rfl
      generalize l.getD i 0 = y at *
      have HNX : Aside0 (crcL (crcAdd x y) (l.drop (i + 1)) = crcL s l) := ⟨by rw [← HN.out, hdr]; rfl⟩
      clear hlt hC hr hc hdr
      go_wp2_with fail
      have hx1 : CrcAt (wr.setCell ⟨g, 0, none⟩ (.int .u32 (Go.bits .xor .u32 x (y % 4294967296)))) g (Go.bits .xor .u32 x (y % 4294967296)) := blk_set HX.out 0 _
      refine (bits_calls g _ _ hx1).mono ?_
      rintro e w2 ⟨rfl, hx2, hg2⟩
      have HX2 := Aside0.mk hx2
      have HG2 := Aside0.mk ((HGR.out.trans (grown_set wr ⟨g, 0, none⟩ _)).trans hg2)
      clear hx1 hx2 hg2 c0 f0 kb
      go_wp2_with fail
      go_roundg (gk - 1)
      case measure => exact HT.out.1
      case rel => exact ⟨i + 1, crcAdd x y, ⟨HT.out.2⟩, (by rw [HW.out]), HX2, HNX, HG2⟩
    · have clt : decide ((i : Int) < (l.length : Int)) = false := decide_eq_false (by omega)
      have clt2 : decide (i < l.length) = false := decide_eq_false hlt
      have HI : Aside0 (l.drop i = []) := ⟨List.drop_eq_nil_of_le (by omega)⟩
      clear hlt
      go_wp2_with fail
      go_end0
      exact ⟨rfl, by have := HN.out; rw [HI.out] at this; rw [← this]; exact HX.out, HGR.out⟩
def sumV (l : List Int) : Int := Go.bits .xor .u32 IntKind.u32.max (crcL (Go.bits .xor .u32 IntKind.u32.max 0) l)
set_option maxHeartbeats 1600000 in
set_option maxRecDepth 100000 in
theorem sum_calls (A : Option Addr) (c : Nat) (l : List Int) (hl : l.length < 300) (w : World) (hA : Kd.C (Kd.int .u8) w A l.length l) :
    Calls Try.prog 83 #[.int .u32 0, .slice A l.length c] w fun e w' => e = .returned (.int .u32 (sumV l)) ∧ Below w.heap.size w w' := by
  have HA := Aside0.mk hA
  have hu148 := Try.underlying148
  have hu146 := Try.underlying146
  have clt : decide ((l.length : Int) < 300) = true := decide_eq_true (by omega)
  have clt2 : decide (l.length < 300) = true := decide_eq_true hl
  have HL := Aside0.mk hl
  clear hA hl
  go_enter Try.func83, Try.ntmps83
  go_wp2_with fail
  have hg := heap_alloc_new w (.cells #[.int .u32 (Go.bits .xor .u32 IntKind.u32.max 0)] 148)
  have hB : Below w.heap.size w (w.alloc (.cells #[.int .u32 (Go.bits .xor .u32 IntKind.u32.max 0)] 148)) := below_alloc (Below.refl _ _) _
  obtain ⟨g, hgg⟩ : ∃ g, g = w.heap.size := ⟨_, rfl⟩
  rw [← hgg] at hg ⊢
  generalize w.alloc (.cells #[.int .u32 (Go.bits .xor .u32 IntKind.u32.max 0)] 148) = w1 at *
  have HSZ : Aside0 (w.heap.size ≤ g) := ⟨by omega⟩
  have HB := Aside0.mk hB
  refine (add_calls g _ A c l (by have := HL.out; omega) w1 hg (fun W hW => C_heap HA.out (fun i hi => (hW i (by have := HB.out.size; omega) (by have := HSZ.out; omega)).trans (HB.out.block i hi)))).mono ?_
  rintro e w2 ⟨rfl, hx2, hg2⟩
  have k0 : w2.cell? ⟨g, 0, none⟩ = some (.int .u32 (crcL (Go.bits .xor .u32 IntKind.u32.max 0) l)) := (blk_cell hx2 0).trans rfl
  have HB2 : Aside0 (Below w.heap.size w w2) := ⟨pw_below_grown hB _ hB.size hg2 (fun k hk => by cases hk; omega)⟩
  clear hx2 hg2 hg hB hgg
  go_wp2_with fail
  go_ret
  exact ⟨rfl, HB2.out⟩
end Go.Proofs.Ytoonepmnlgfikaa.D
/-! VPure -/
namespace Go.Proofs.Ytoonepmnlgfikaa.D
open Go.RowKit Go.Proofs.YtoonepmnlgfikaaW.PrintWords Go.Proofs.YtoonepmnlgfikaaW.PrintLast Go.Proofs.YtoonepmnlgfikaaW.PrintMore Go.Proofs.Ytoonepmnlgfikaa.Base
set_option linter.unusedVariables false
set_option linter.unusedSimpArgs false
theorem ipow {b m n : Nat} (hb : 0 < b) (h : m ≤ n) : ((b : Nat) : Int) ^ m ≤ ((b : Nat) : Int) ^ n := by exact_mod_cast Nat.pow_le_pow_right hb h
/-- A number as n bytes, the highest first. -/
def be (v : Int) : Nat → List Int
  | 0 => []
  | n + 1 => (v / 2 ^ (8 * n)) % 256 :: be v n
theorem be_len (v : Int) : ∀ n, (be v n).length = n
  | 0 => rfl
  | n + 1 => by show (be v n).length + 1 = _; rw [be_len v n]
theorem be_byte (v : Int) : ∀ n, ∀ x ∈ be v n, 0 ≤ x ∧ x < 256
  | 0, x, h => by cases h
  | n + 1, x, h => by
    rcases List.mem_cons.1 h with rfl | h
    · exact ⟨Int.emod_nonneg _ (by decide), Int.emod_lt_of_pos _ (by decide)⟩
    · exact be_byte v n x h
theorem number_l0 (v : Int) : ∀ (n : Nat) (l : List Int) (k : Nat), n ≤ 8 → n < k → l.length + n < 140737488355328 → V.frames_Number.l0 k l v ((n : Int) - 1) = some (l ++ be v n)
  | 0, l, k, hn, hk, hl => by
    obtain ⟨k, rfl⟩ : ∃ m, k = m + 1 := ⟨k - 1, by omega⟩
    rw [V.frames_Number.l0, if_neg (by omega)]
    show some l = some (l ++ [])
    rw [List.append_nil]
  | n + 1, l, k, hn, hk, hl => by
    obtain ⟨k, rfl⟩ : ∃ m, k = m + 1 := ⟨k - 1, by omega⟩
    have e : ((n + 1 : Nat) : Int) - 1 = (n : Int) := by omega
    have hw : wrap64 (8 * (n : Int)) = 8 * (n : Int) := wrap64_in _ (by omega) (by omega)
    have hw2 : wrap64 ((n : Int) - 1) = (n : Int) - 1 := wrap64_in _ (by omega) (by omega)
    have hs : shr .i64 v (8 * (n : Int)) = v / 2 ^ (8 * n) := by
      unfold shr
      have h1 : (8 * (n : Int)).toNat = 8 * n := by omega
      rw [h1, Nat.min_eq_left (by show 8 * n ≤ 64; omega)]
    rw [e, V.frames_Number.l0, if_pos (by omega), hw, if_pos (by omega), if_pos (by omega), hs, hw2, number_l0 v n _ k (by omega) (by omega) (by rw [List.length_append]; show l.length + 1 + n < _; omega), List.append_assoc]
    rfl
theorem number_is (v : Int) (n : Nat) (l : List Int) (hn : n ≤ 8) (hl : l.length + n < 140737488355328) : V.frames_Number.f 20 l v (n : Int) = some (l ++ be v n) := by
  unfold V.frames_Number.f
  rw [wrap64_in _ (by omega) (by omega)]
  exact number_l0 v n l 20 hn (by omega) hl
/-- Bytes as a number. -/
def rdv (a : Int) (l : List Int) : Int := l.foldl (fun a b => a * 256 + b) a
theorem rdv_le : ∀ (l : List Int) (a : Int), (∀ x ∈ l, 0 ≤ x ∧ x < 256) → 0 ≤ a → 0 ≤ rdv a l ∧ rdv a l < (a + 1) * 256 ^ l.length
  | [], a, h, ha => by show 0 ≤ a ∧ a < (a + 1) * 1; omega
  | b :: l, a, h, ha => by
    have hb := h b (by simp)
    have ih := rdv_le l (a * 256 + b) (fun x hx => h x (by simp [hx])) (by omega)
    refine ⟨ih.1, Int.lt_of_lt_of_le ih.2 ?_⟩
    have e : (256 : Int) ^ (b :: l).length = 256 ^ l.length * 256 := by rw [List.length_cons, Int.pow_succ]
    rw [e]
    have hp : (0 : Int) < 256 ^ l.length := Int.pow_pos (by decide)
    have h2 : a * 256 + b + 1 ≤ (a + 1) * 256 := by omega
    calc (a * 256 + b + 1) * 256 ^ l.length ≤ ((a + 1) * 256) * 256 ^ l.length := Int.mul_le_mul_of_nonneg_right h2 (by omega)
      _ = (a + 1) * (256 ^ l.length * 256) := by rw [Int.mul_assoc, Int.mul_comm 256]
theorem read_l0 (xs : List Int) (hb : ∀ x ∈ xs, 0 ≤ x ∧ x < 256) (hx : xs.length ≤ 8) : ∀ (d i k : Nat) (a : Int), i + d = xs.length → d < k → 0 ≤ a → (a + 1) * 256 ^ d ≤ 9223372036854775807 → V.frames_Read.l0 k a xs (xs.length : Int) (i : Int) = some (rdv a (xs.drop i))
  | 0, i, k, a, hi, hk, ha, hm => by
    obtain ⟨k, rfl⟩ : ∃ m, k = m + 1 := ⟨k - 1, by omega⟩
    rw [V.frames_Read.l0, if_neg (by omega), List.drop_eq_nil_of_le (by omega)]
    rfl
  | d + 1, i, k, a, hi, hk, ha, hm => by
    obtain ⟨k, rfl⟩ : ∃ m, k = m + 1 := ⟨k - 1, by omega⟩
    have hlt : i < xs.length := by omega
    have hw : wrap64 ((i : Int) + 1) = ((i + 1 : Nat) : Int) := by rw [wrap64_in _ (by omega) (by omega)]; rfl
    have hr : rd xs (i : Int) = xs[i] := by
      show xs.getD (i : Int).toNat 0 = _
      rw [Int.toNat_natCast, List.getD_eq_getElem?_getD, List.getElem?_eq_getElem hlt]; rfl
    have hbx := hb _ (List.getElem_mem hlt)
    have hp : (1 : Int) ≤ 256 ^ d := by have : (0 : Int) < 256 ^ d := Int.pow_pos (by decide); omega
    have e : (256 : Int) ^ (d + 1) = 256 ^ d * 256 := Int.pow_succ ..
    have hm2 : ((a + 1) * 256) * 256 ^ d ≤ 9223372036854775807 := by rw [Int.mul_assoc, Int.mul_comm 256, ← e]; exact hm
    have hm3 : (a + 1) * 256 ≤ 9223372036854775807 := by
      have h0 : 0 ≤ (a + 1) * 256 := by omega
      have := Int.mul_le_mul_of_nonneg_left hp h0
      omega
    have hw1 : wrap64 (a * 256) = a * 256 := wrap64_in _ (by omega) (by omega)
    have hw2 : wrap64 xs[i] = xs[i] := wrap64_in _ (by omega) (by omega)
    have hor : Go.bits .or .i64 (a * 256) xs[i] = a * 256 + xs[i] := by
      refine bits_join .i64 63 (by decide) (fun n h0 h1 => by rw [IntKind.wrap_i64]; omega) 8 _ _ (by omega) (by show a * 256 % 256 = 0; omega) (by show a * 256 < 9223372036854775808; omega) hbx.1 (by show xs[i] < 256; omega) (by show xs[i] < 9223372036854775808; omega)
    rw [V.frames_Read.l0, if_pos (by omega), if_pos (by omega), if_pos (by omega), hr, hw1, hw2, hor, hw, List.drop_eq_getElem_cons hlt]
    rw [read_l0 xs hb hx d (i + 1) k (a * 256 + xs[i]) (by omega) (by omega) (by omega) ?_]
    · rfl
    · refine Int.le_trans (Int.mul_le_mul_of_nonneg_right (show a * 256 + xs[i] + 1 ≤ (a + 1) * 256 by omega) (by omega)) hm2
theorem read_is (xs : List Int) (hb : ∀ x ∈ xs, 0 ≤ x ∧ x < 256) (hx : xs.length ≤ 7) : V.frames_Read.f 20 xs = some (rdv 0 xs) := by
  unfold V.frames_Read.f
  have := read_l0 xs hb (by omega) xs.length 0 20 0 (by omega) (by omega) (by omega) (by
    have h7 : (256 : Int) ^ xs.length ≤ 256 ^ 7 := ipow (b := 256) (by decide) hx
    have : (256 : Int) ^ 7 = 72057594037927936 := by decide
    omega)
  simpa using this
theorem imodmul (m Q : Nat) : (m : Int) % ((Q : Int) * 256) = (m : Int) % (Q : Int) + (Q : Int) * ((m : Int) / (Q : Int) % 256) := by
  have h := Nat.mod_mul (x := m) (a := Q) (b := 256)
  have h2 : ((m % (Q * 256) : Nat) : Int) = ((m % Q + Q * (m / Q % 256) : Nat) : Int) := by rw [h]
  simp only [Int.natCast_emod, Int.natCast_add, Int.natCast_mul, Int.natCast_ediv] at h2
  exact h2
theorem rdv_be (v : Int) (h0 : 0 ≤ v) : ∀ (n : Nat) (a : Int), rdv a (be v n) = a * 2 ^ (8 * n) + v % 2 ^ (8 * n)
  | 0, a => by show a = a * 1 + v % 1; omega
  | n + 1, a => by
    show rdv (a * 256 + (v / 2 ^ (8 * n)) % 256) (be v n) = _
    rw [rdv_be v h0 n]
    have e : (2 : Int) ^ (8 * (n + 1)) = 2 ^ (8 * n) * 256 := by rw [show 8 * (n + 1) = 8 * n + 8 by omega, Int.pow_add]; rfl
    rw [e]
    have hp : (0 : Int) < 2 ^ (8 * n) := Int.pow_pos (by decide)
    have h1 : v % (2 ^ (8 * n) * 256) = v % 2 ^ (8 * n) + 2 ^ (8 * n) * (v / 2 ^ (8 * n) % 256) := by
      obtain ⟨m, rfl⟩ := Int.eq_ofNat_of_zero_le h0
      have hc : (2 : Int) ^ (8 * n) = ((2 ^ (8 * n) : Nat) : Int) := (Int.natCast_pow 2 (8 * n)).symm
      rw [hc]
      exact imodmul m _
    generalize (2 : Int) ^ (8 * n) = P at *
    rw [h1]
    have : (a * 256 + v / P % 256) * P = a * (P * 256) + P * (v / P % 256) := by rw [Int.add_mul, Int.mul_assoc, Int.mul_comm 256 P, Int.mul_comm (v / P % 256) P]
    rw [this]
    omega
theorem rdv_be0 (v : Int) (n : Nat) (h0 : 0 ≤ v) (h1 : v < 2 ^ (8 * n)) : rdv 0 (be v n) = v := by
  rw [rdv_be v h0 n 0, Int.zero_mul, Int.zero_add, Int.emod_eq_of_lt h0 h1]
/-- Eight bytes of a number below 2^40: three noughts ahead. -/
theorem be8 (v : Int) (h0 : 0 ≤ v) (h1 : v < 1099511627776) : be v 8 = [0, 0, 0] ++ be v 5 := by
  have h : ∀ m, 5 ≤ m → v / 2 ^ (8 * m) % 256 = 0 := fun m hm => by
    have : v / 2 ^ (8 * m) = 0 := by
      refine Int.ediv_eq_zero_of_lt h0 (Int.lt_of_lt_of_le h1 ?_)
      have : (2 : Int) ^ (8 * 5) ≤ 2 ^ (8 * m) := ipow (b := 2) (by decide) (by omega)
      exact this
    rw [this]; rfl
  show v / 2 ^ (8 * 7) % 256 :: v / 2 ^ (8 * 6) % 256 :: v / 2 ^ (8 * 5) % 256 :: be v 5 = _
  rw [h 7 (by omega), h 6 (by omega), h 5 (by omega)]
  rfl
theorem rd_zero (xs : List Int) (k : Nat) : True := trivial
/-- Reading eight bytes of a number below 2^40. -/
theorem read8_is (v : Int) (h0 : 0 ≤ v) (h1 : v < 1099511627776) : V.frames_Read.f 20 (be v 8) = some v := by
  unfold V.frames_Read.f
  have hb := be_byte v 8
  have hl := be_len v 8
  have e8 := be8 v h0 h1
  have z0 : ∀ i : Nat, i < 3 → rd (be v 8) (i : Int) = 0 := fun i hi => by
    rw [e8]
    match i, hi with
    | 0, _ => rfl
    | 1, _ => rfl
    | 2, _ => rfl
  have step : ∀ (k i : Nat), i < 3 → V.frames_Read.l0 (k + 1) 0 (be v 8) ((be v 8).length : Int) (i : Int) = V.frames_Read.l0 k 0 (be v 8) ((be v 8).length : Int) ((i + 1 : Nat) : Int) := fun k i hi => by
    have hw : wrap64 ((i : Int) + 1) = ((i + 1 : Nat) : Int) := by rw [wrap64_in _ (by omega) (by omega)]; rfl
    have w0 : wrap64 (0 * 256) = 0 := wrap64_in 0 (by omega) (by omega)
    have w1 : wrap64 0 = 0 := wrap64_in 0 (by omega) (by omega)
    have hor : Go.bits .or .i64 (wrap64 (0 * 256)) (wrap64 0) = 0 := by
      rw [w0, w1]
      exact bits_join .i64 63 (by decide) (fun n h0 h1 => by rw [IntKind.wrap_i64]; omega) 8 0 0 (by omega) rfl (by decide) (by omega) (by decide) (by decide)
    rw [V.frames_Read.l0, if_pos (by rw [hl]; omega), if_pos (by omega), if_pos (by rw [hl]; omega), z0 i hi, hor, hw]
  have s0 := step 19 0 (by omega)
  have s1 := step 18 1 (by omega)
  have s2 := step 17 2 (by omega)
  have h3 := read_l0 (be v 8) hb (by omega) 5 3 17 0 (by omega) (by omega) (by omega) (by decide)
  have hd : (be v 8).drop 3 = be v 5 := by rw [e8]; rfl
  rw [hd, rdv_be0 v 5 h0 h1] at h3
  exact (s0.trans (s1.trans s2)).trans h3
/-- A payload's frame. -/
def layB (p : List Int) : List Int := be p.length 4 ++ p ++ be (sumV p) 4 ++ [1]
theorem layB_len (p : List Int) : (layB p).length = p.length + 9 := by
  unfold layB
  simp only [List.length_append, be_len, List.length_cons, List.length_nil]
  omega
theorem wrap_u32' (n : Int) : IntKind.u32.wrap n = n % 4294967296 := by simp [IntKind.wrap, IntKind.bits, IntKind.signed]
theorem bits32 (x y : Int) : 0 ≤ Go.bits .xor .u32 x y ∧ Go.bits .xor .u32 x y < 4294967296 := by
  unfold Go.bits
  simp only [wrap_u32']
  omega
theorem sumV_range (p : List Int) : 0 ≤ sumV p ∧ sumV p < 4294967296 := bits32 _ _
theorem readlen_is (n : Nat) (h : n < 4294967296) : V.frames_Read.f 20 (be (n : Int) 4) = some (n : Int) := by
  rw [read_is _ (be_byte _ 4) (by rw [be_len]; omega), rdv_be0 _ 4 (by omega) (by show (n : Int) < 4294967296; omega)]
theorem readsum_is (p : List Int) : V.frames_Read.f 20 (be (sumV p) 4) = some (sumV p) := by
  have := sumV_range p
  rw [read_is _ (be_byte _ 4) (by rw [be_len]; omega), rdv_be0 _ 4 this.1 this.2]
end Go.Proofs.Ytoonepmnlgfikaa.D
/-! VFrames -/
namespace Go.Proofs.Ytoonepmnlgfikaa.D
open Go.RowKit Go.Proofs.YtoonepmnlgfikaaW.PrintWords Go.Proofs.YtoonepmnlgfikaaW.PrintLast Go.Proofs.YtoonepmnlgfikaaW.PrintMore Go.Proofs.Ytoonepmnlgfikaa.Base
set_option linter.unusedVariables false
set_option linter.unusedSimpArgs false
theorem sumV_wrap (p : List Int) : wrap64 (sumV p) = sumV p := by
  have h := sumV_range p
  generalize sumV p = x at *
  exact wrap64_in _ (by omega) (by omega)
theorem C_one (X : World) (q : Nat) (z : Nat × Nat) (h : X.heap[q]? = some (.cells #[.int .u8 1] 5 z)) : Kd.C (Kd.int .u8) X (some ⟨q, 0, none⟩) ([1] : List Int).length [1] :=
  Kd.C_of_reads (enc := Value.int .u8) (d := (0 : Int)) ⟨rfl, by decide, fun _ => ⟨_, rfl, fun j hj => by
    rw [add_plain, cell_of_row X q j _ 5 z h]
    match j, hj with
    | 0, _ => rfl⟩⟩
set_option maxHeartbeats 3200000 in
set_option maxRecDepth 100000 in
theorem lay_calls (A : Option Addr) (c : Nat) (p : List Int) (hp : p.length ≤ 280) (w : World) (hC : Kd.C (Kd.int .u8) w A p.length p) :
    Calls Try.prog 71 #[.slice none 0 0, .slice A p.length c] w fun e w' => ∃ v, e = .returned v ∧ Kd.R (Kd.int .u8) 5 w' w.heap.size (fun _ => True) v (layB p) ∧ Below w.heap.size w w' := by
  have HC := Aside0.mk hC
  have HP := Aside0.mk hp
  have hws := sumV_wrap p
  have H1 := Aside0.mk (number_is (p.length : Int) 4 [] (by decide) (by decide))
  obtain ⟨b1, hb1⟩ : ∃ b1, b1 = be (p.length : Int) 4 := ⟨_, rfl⟩
  obtain ⟨b2, hb2⟩ : ∃ b2, b2 = b1 ++ p := ⟨_, rfl⟩
  obtain ⟨b3, hb3⟩ : ∃ b3, b3 = b2 ++ be (sumV p) 4 := ⟨_, rfl⟩
  have HL1 : Aside0 (b1.length = 4) := ⟨by rw [hb1, be_len]⟩
  have HL2 : Aside0 (b2.length = 4 + p.length) := ⟨by rw [hb2, List.length_append, HL1.out]⟩
  have HL3 : Aside0 (b3.length = 8 + p.length) := ⟨by rw [hb3, List.length_append, HL2.out, be_len]; omega⟩
  have HE : Aside0 (b3 ++ [1] = layB p) := ⟨by rw [hb3, hb2, hb1]; rfl⟩
  have H1 : Aside0 (V.frames_Number.f 20 [] (p.length : Int) 4 = some b1) := ⟨by rw [hb1]; exact H1.out⟩
  have H3 : Aside0 (V.frames_Number.f 20 b2 (sumV p) 4 = some b3) := ⟨by rw [hb3]; exact number_is (sumV p) 4 b2 (by decide) (by have := HL2.out; have := HP.out; omega)⟩
  have HB2 := Aside0.mk hb2
  clear hC hp hb1 hb2 hb3
  go_enter Try.func71, Try.ntmps71
  go_wp2_with (first
    | (go_at_call 65; have hR2 := HR2.out; refine (V.frames_Number.calls 20 (fun _ => True) _ b2 (sumV p) 4 b3 w _ (by exact HBW3.out) (Kd.R_below hR2 HB3.out) H3.out).mono ?_; rintro e w4 ⟨v4, rfl, hr, hb, hk⟩; obtain ⟨A4, c4, rfl⟩ := Kd.R_slice hr; have HR4 := Aside0.mk (Kd.R_mono (ok' := fun _ => True) hr (fun _ _ => trivial)); have HBW4 := Aside0.mk hb; clear hr hb hk hR2 HR2)
    | (go_at_call 65; refine (V.frames_Number.calls 20 (fun _ => True) (.slice none 0 0) [] (p.length : Int) 4 b1 w w (Below.refl _ _) (Kd.R_nil _ _ _ _ _) H1.out).mono ?_; rintro e w1 ⟨v1, rfl, hr, hb, hk⟩; obtain ⟨A1, c1, rfl⟩ := Kd.R_slice hr; have HR1 := Aside0.mk (Kd.R_mono (ok' := fun _ => True) hr (fun _ _ => trivial)); have HBW1 := Aside0.mk hb; clear hr hb hk)
    | (go_at_call 83; refine (sum_calls A c p (by have := HP.out; omega) _ (Kd.C_below HC.out HBW2.out)).mono ?_; rintro e w3 ⟨rfl, hb3⟩; have HB3 := Aside0.mk hb3; have HBW3 := Aside0.mk (below_step HBW2.out hb3); clear hb3)
    | ((with_reducible refine gate_builtin (b := .append) (xs := #[.tmp 8, .tmp 9]) rfl ?_); at_builtin; refine Kd.R_append_rows (Kd.int .u8) (w0 := w) w.heap.size rfl (.tmp 8) (.tmp 9) 27 5 (.int .u8 0) 1 rfl Try.underlying27 info5 rfl (by decide) (by decide) _ b1 p _ _ _ (fun _ => True) (fun _ => False) rfl rfl HR1.out (Kd.C_below HC.out HBW1.out) (fun _ _ h => h) (fun _ h => h.elim) (fun _ _ => trivial) HBW1.out HBW1.out.size (by have := HL1.out; have := HP.out; omega) ?_; intro v2 w2 ho2 hb2 hg2 hat2; rw [← HB2.out] at ho2; obtain ⟨A2, c2, rfl⟩ := Kd.R_slice ho2; have HR2 := Aside0.mk ho2; have HBW2 := Aside0.mk hb2; clear ho2 hb2 hg2 hat2 HR1 HBW1)
    | ((with_reducible refine gate_builtin (b := .append) (xs := #[.tmp 15, .tmp 16]) rfl ?_); at_builtin; refine Kd.R_append_rows (Kd.int .u8) (w0 := w) w.heap.size rfl (.tmp 15) (.tmp 16) 27 5 (.int .u8 0) 1 rfl Try.underlying27 info5 rfl (by decide) (by decide) _ b3 [1] _ _ _ (fun _ => True) (fun _ => False) rfl rfl (Kd.R_alloc HR4.out _) (C_one _ _ (0, 0) (heap_alloc_new w4 _)) (fun _ _ h => h) (fun _ h => h.elim) (fun _ _ => trivial) (HBW4.out.alloc HBW4.out.size _) (by have := HBW4.out.size; simp; omega) (by have := HL3.out; have := HP.out; show (b3.length + 1) * 1 ≤ _; omega) ?_; intro v5 w5 ho5 hb5 hg5 hat5; rw [HE.out] at ho5; obtain ⟨A5, c5, rfl⟩ := Kd.R_slice ho5; have HR5 := Aside0.mk ho5; have HBW5 := Aside0.mk hb5; clear ho5 hb5 hg5 hat5 HR4 HBW4))
  go_ret
  exact ⟨_, rfl, HR5.out, HBW5.out⟩
theorem lay_take (p : List Int) : (layB p).take 4 = be (p.length : Int) 4 := by
  unfold layB
  rw [List.append_assoc, List.append_assoc, List.take_append_of_le_length (by rw [be_len]; exact Nat.le_refl _), List.take_of_length_le (by rw [be_len]; exact Nat.le_refl _)]
theorem lay_mid (p : List Int) : ((layB p).take (4 + p.length)).drop 4 = p := by
  unfold layB
  have h1 : (be (p.length : Int) 4 ++ p).length = 4 + p.length := by rw [List.length_append, be_len]
  rw [List.append_assoc, List.take_append_of_le_length (by rw [h1]; exact Nat.le_refl _), List.take_of_length_le (by rw [h1]; exact Nat.le_refl _), List.drop_append_of_le_length (by rw [be_len]; exact Nat.le_refl _), List.drop_eq_nil_of_le (by rw [be_len]; exact Nat.le_refl _)]
  rfl
theorem lay_tail (p : List Int) : (layB p).drop (4 + p.length) = be (sumV p) 4 ++ [1] := by
  unfold layB
  have h1 : (be (p.length : Int) 4 ++ p).length = 4 + p.length := by rw [List.length_append, be_len]
  rw [List.append_assoc, List.drop_append_of_le_length (by rw [h1]; exact Nat.le_refl _), List.drop_eq_nil_of_le (by rw [h1]; exact Nat.le_refl _)]
  rfl
theorem tail_get (x : Int) : (be x 4 ++ [1]).getD 4 0 = 1 := rfl
theorem tail_take (x : Int) : (be x 4 ++ [1]).take 4 = be x 4 := rfl
theorem tail_len (x : Int) : (be x 4 ++ [1]).length = 5 := rfl
theorem nx_facts (m n m4 : Nat) (h4 : m4 = 4 + m) (hn : n = m + 9) (hm : m ≤ 280) : decide ((n : Int) < 4) = false ∧ decide (n < 4) = false ∧ wrap64 ((n : Int) - 4) = (n : Int) - 4 ∧ wrap64 ((n : Int) - 4 - 5) = (m : Int) ∧ wrap64 (4 + (m : Int)) = (m4 : Int) ∧ wrap64 ((m4 : Int) + 5) = (n : Int) ∧ decide ((m : Int) < (m : Int)) = false :=
  ⟨decide_eq_false (by omega), decide_eq_false (by omega), wrap64_in _ (by omega) (by omega), by rw [wrap64_in _ (by omega) (by omega)]; omega, by rw [wrap64_in _ (by omega) (by omega)]; omega, by rw [wrap64_in _ (by omega) (by omega)]; omega, decide_eq_false (by omega)⟩
set_option maxHeartbeats 3200000 in
set_option maxRecDepth 100000 in
theorem next_calls (A : Option Addr) (c : Nat) (p : List Int) (hp : p.length ≤ 280) (w : World) (hc : (layB p).length ≤ c) (hC : Kd.C (Kd.int .u8) w A (layB p).length (layB p)) :
    Calls Try.prog 70 #[.slice A (layB p).length c] w fun e w' => ∃ A' c', e = .returned (.tuple #[.slice A' p.length c', .int .i64 ((layB p).length : Int), .int .i64 0]) ∧ p.length ≤ c' ∧ Kd.C (Kd.int .u8) w' A' p.length p ∧ Below w.heap.size w w' := by
  obtain ⟨i5, hi5, _, hsz5, _⟩ := info_parts info5
  have hll := layB_len p
  have hC1 : Kd.C (Kd.int .u8) w A 4 (be (p.length : Int) 4) := by
    have h := Kd.C_take (m := 4) hC (by omega)
    rw [lay_take] at h
    exact h
  have hC2 : Kd.C (Kd.int .u8) w (if c = 4 then A else A.map (·.add (4 * 1))) p.length p := by
    have h := Kd.C_take (m := 4 + p.length) hC (by omega)
    have hl : ((layB p).take (4 + p.length)).length = 4 + p.length := by rw [List.length_take]; omega
    have h2 := Kd.C_drop (m := 4) (c := c) h (by omega) (by omega)
    rw [lay_mid] at h2
    exact h2
  have hC3 : Kd.C (Kd.int .u8) w (if c = 4 + p.length then A else A.map (·.add ((4 + p.length) * 1))) 5 (be (sumV p) 4 ++ [1]) := by
    have h := Kd.C_drop (m := 4 + p.length) (c := c) hC (by omega) hc
    rw [lay_tail] at h
    exact h
  have hcut1 : ∀ W : World, (Instr.slice 27 (.slice A (layB p).length c) none (some (.int .i64 4)) none).run Try.prog W = .ok (.slice A 4 c) W := cut_to 27 5 .i64 Try.underlying27 hi5 A _ c 4 (by decide) (by omega) hc
  have hcut2 := cut_mid (P := Try.prog) 27 5 .i64 .i64 Try.underlying27 hi5 1 hsz5 A (layB p).length c 4 ((4 + p.length : Nat) : Int) (by decide) (by omega) (by omega) hc
  have hcut3 := cut_from (P := Try.prog) 27 5 .i64 Try.underlying27 hi5 1 hsz5 A (layB p).length c ((4 + p.length : Nat) : Int) (by omega) (by omega)
  have e1 : ((4 + p.length : Nat) : Int).toNat = 4 + p.length := by omega
  have e2 : (4 : Int).toNat = 4 := rfl
  rw [e1, e2] at hcut2
  rw [e1] at hcut3
  obtain ⟨Ap, hAp⟩ : ∃ Ap, Ap = (if c = 4 then A else A.map (·.add (4 * 1))) := ⟨_, rfl⟩
  obtain ⟨At, hAt⟩ : ∃ At, At = (if c = 4 + p.length then A else A.map (·.add ((4 + p.length) * 1))) := ⟨_, rfl⟩
  rw [← hAp] at hC2 hcut2
  rw [← hAt] at hC3 hcut3
  have e3 : 4 + p.length - 4 = p.length := by omega
  have e4 : (layB p).length - (4 + p.length) = 5 := by omega
  rw [e3] at hcut2
  rw [e4] at hcut3
  obtain ⟨cp, hcp⟩ : ∃ cp, cp = c - 4 := ⟨_, rfl⟩
  obtain ⟨ct, hct⟩ : ∃ ct, ct = c - (4 + p.length) := ⟨_, rfl⟩
  rw [← hcp] at hcut2
  rw [← hct] at hcut3
  obtain ⟨m4, hm4⟩ : ∃ m4, m4 = 4 + p.length := ⟨_, rfl⟩
  rw [← hm4] at hcut2 hcut3
  have HCP : Aside0 (p.length ≤ cp ∧ 5 ≤ ct) := ⟨by omega⟩
  have HCC : Aside0 (4 ≤ c) := ⟨by omega⟩
  obtain ⟨n, hn⟩ : ∃ n, n = (layB p).length := ⟨_, rfl⟩
  rw [← hn] at hcut1 hcut2 hcut3 ⊢
  have HN : Aside0 (n = p.length + 9) := ⟨by omega⟩
  have HP := Aside0.mk hp
  have HC1 := Aside0.mk hC1
  have HC2 := Aside0.mk hC2
  have hR3 := Kd.reads_of_C (enc := Value.int .u8) (d := (0 : Int)) hC3
  obtain ⟨at_, eat, hc3⟩ := hR3.2.2 (by decide)
  subst eat
  have kt : w.cell? (at_.add 4) = some (.int .u8 1) := hc3 4 (by decide)
  have HC3 : Aside0 (Kd.C (Kd.int .u8) w (some at_) 4 (be (sumV p) 4)) := ⟨by
    have h := Kd.C_take (m := 4) hC3 (show 4 ≤ 5 by decide)
    exact h⟩
  have hcut4 : ∀ W : World, (Instr.slice 27 (.slice (some at_) 5 ct) none (some (.int .i64 4)) none).run Try.prog W = .ok (.slice (some at_) 4 ct) W := cut_to 27 5 .i64 Try.underlying27 hi5 (some at_) 5 ct 4 (by decide) (by decide) HCP.out.2
  obtain ⟨hd1, hd1n, hw1, hw2, hw3, hw5, hd2⟩ := nx_facts p.length n m4 hm4 HN.out hp
  have hws := sumV_wrap p
  have HSZ : Aside0 (V.frames_Size.f (p.length : Int) = some (n : Int)) := ⟨by
    unfold V.frames_Size.f
    rw [hw3, hw5]⟩
  clear hC hc hll hC1 hC2 hC3 hR3 hc3 hAp hAt hcp hct hi5 hsz5 e1 e2 e3 e4 hn hp hm4
  go_enter Try.func70, Try.ntmps70
  go_wp2_with (go_at_call 64; refine (V.frames_Read.calls 20 A c (be (p.length : Int) 4) (p.length : Int) w HC1.out HCC.out (readlen_is p.length (by have := HP.out; omega))).mono ?_; rintro e w1 ⟨rfl, ⟨n1, rfl⟩⟩)
  have kt2 : ∀ n, (w.drewN n).cell? ⟨at_.block, at_.off + 4, none⟩ = some (.int .u8 1) := fun n => kt
  go_quiet (fail)
  go_wp2_with (first
    | (go_at_call 64; refine (V.frames_Read.calls 20 (some at_) ct (be (sumV p) 4) (sumV p) _ (Kd.C_drewN HC3.out _) (by have := HCP.out.2; rw [be_len]; omega) (readsum_is p)).mono ?_; rintro e w2 ⟨rfl, ⟨n2, rfl⟩⟩)
    | (go_at_call 83; refine (sum_calls Ap cp p (by have := HP.out; omega) _ (Kd.C_drewN HC2.out _)).mono ?_; rintro e w3 ⟨rfl, hb3⟩; have HB3 := Aside0.mk hb3; clear hb3)
    | (go_at_call 84; refine (V.frames_Size.calls _ _ _ HSZ.out).mono ?_; rintro e w4 ⟨rfl, ⟨n4, rfl⟩⟩))
  refine bodyPost_ret (results_tmp3 rfl _ _ _) rfl ?_
  have HBW := below_step (pw_below_drewN (Below.refl _ w) _) HB3.out
  exact ⟨Ap, cp, rfl, HCP.out.1, Kd.C_drewN (Kd.C_below HC2.out HBW) _, pw_below_drewN HBW _⟩
end Go.Proofs.Ytoonepmnlgfikaa.D
