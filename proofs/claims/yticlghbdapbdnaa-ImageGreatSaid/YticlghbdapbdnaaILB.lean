/- Image in plain Lean: the readers come to an end. -/
import Derived.Test.YticlghbdapbdnaaILA
import Derived.Test.YticlghbdapbdnaaIM
namespace Go.Proofs.Yticlghbdapbdnaa.I
open Go.RowKit Go.Proofs.YticlghbdapbdnaaW.PrintWords Go.Proofs.YticlghbdapbdnaaW.PrintLast Go.Proofs.YticlghbdapbdnaaW.PrintMore
set_option linter.unusedVariables false
set_option linter.unusedSimpArgs false
def InB (l : List Int) : Prop := ∀ x ∈ l, 0 ≤ x ∧ x < 256
theorem InB.rd {l : List Int} (h : InB l) (i : Int) : 0 ≤ rd l i ∧ rd l i < 256 := by
  unfold Go.Proofs.YticlghbdapbdnaaW.PrintWords.rd
  rw [List.getD_eq_getElem?_getD]
  cases hg : l[i.toNat]? with
  | none => exact ⟨by decide, by decide⟩
  | some x => exact h x (List.mem_of_getElem? hg)
theorem InB.drop {l : List Int} (h : InB l) (n : Nat) : InB (l.drop n) := fun x hx => h x (List.mem_of_mem_drop hx)
theorem InB.bytes (s : ByteArray) : InB (bytesOf s) := by
  intro x hx
  unfold bytesOf at hx
  obtain ⟨b, _, rfl⟩ := List.mem_map.1 hx
  have := b.toNat_lt
  omega
theorem InB.append {l m : List Int} (h : InB l) (k : InB m) : InB (l ++ m) := fun x hx => (List.mem_append.1 hx).elim (h x) (k x)
theorem i64_wraps (n : Int) (h0 : 0 ≤ n) (h1 : n < 2 ^ 63) : IntKind.i64.wrap n = n := by rw [IntKind.wrap_i64]; omega
theorem or_in (x y : Int) (hx : 0 ≤ x) (hx1 : x < 2 ^ 63) (hy : 0 ≤ y) (hy1 : y < 2 ^ 63) : 0 ≤ Go.bits .or .i64 x y ∧ Go.bits .or .i64 x y < 2 ^ 63 := by
  obtain ⟨a, rfl⟩ := Int.eq_ofNat_of_zero_le hx
  obtain ⟨b, rfl⟩ := Int.eq_ofNat_of_zero_le hy
  have ha : a < 2 ^ 63 := by exact_mod_cast hx1
  have hb : b < 2 ^ 63 := by exact_mod_cast hy1
  rw [(bits_nat .i64 63 (by decide) i64_wraps a b ha hb).2]
  have := Nat.or_lt_two_pow ha hb
  exact ⟨Int.natCast_nonneg _, by exact_mod_cast this⟩
theorem low7 (b : Int) (h0 : 0 ≤ b) (h1 : b < 256) : Go.bits .and .u8 b 127 = b % 128 := bits_mask .u8 8 (by decide) wraps_u8 7 (by decide) b h0 h1
theorem shl_in (b : Int) (h0 : 0 ≤ b) (h1 : b < 256) (j : Nat) (hj : j ≤ 8) : shl .i64 (wrap64 (Go.bits .and .u8 b 127)) (wrap64 (7 * (j : Int))) = (b % 128) * 2 ^ (7 * j) ∧ (b % 128) * 2 ^ (7 * j) < 2 ^ 63 ∧ 0 ≤ (b % 128) * 2 ^ (7 * j) := by
  rw [low7 b h0 h1, wrb (b % 128) (by omega) (by omega), wrb (7 * (j : Int)) (by omega) (by omega)]
  have hp : (2 : Int) ^ (7 * j) ≤ 2 ^ 56 := by exact_mod_cast Nat.pow_le_pow_right (by decide) (by omega : 7 * j ≤ 56)
  have hp0 : (0 : Int) < 2 ^ (7 * j) := by exact_mod_cast Nat.two_pow_pos (7 * j)
  have hb : 0 ≤ b % 128 ∧ b % 128 ≤ 127 := by omega
  have h2 : (b % 128) * 2 ^ (7 * j) ≤ 127 * 2 ^ 56 := Int.mul_le_mul hb.2 hp (by omega) (by omega)
  have h3 : 0 ≤ (b % 128) * 2 ^ (7 * j) := Int.mul_nonneg hb.1 (by omega)
  refine ⟨?_, by omega, h3⟩
  have e1 : min (7 * (j : Int)).toNat 64 = 7 * j := by omega
  show IntKind.i64.wrap ((b % 128) * 2 ^ min (7 * (j : Int)).toNat 64) = _
  rw [e1]
  exact i64_wraps _ h3 (by omega)
theorem getnum_l0 (l : List Int) (hl : l.length ≤ 1000000000) (hb : InB l) : ∀ d (j : Nat) (x : Int), j + d = 9 → 0 ≤ x → x < 2 ^ 63 → ∃ v : Int × Int × Int, Ev (fun k => wire_GetNum.l0 k x l (l.length : Int) (j : Int)) v ∧ 0 ≤ v.1 := by
  intro d
  induction d with
  | zero =>
    intro j x hj h0 h1
    refine ⟨(0, 0, 1), Ev.step ((Ev.pure _).of_eq fun k => ?_), Int.le_refl _⟩
    rw [wire_GetNum.l0]
    by_cases hlt : (j : Int) < (l.length : Int)
    · rw [if_pos hlt, if_pos (by omega), if_pos hlt, if_pos (by omega)]
    · rw [if_neg hlt]
  | succ d ih =>
    intro j x hj h0 h1
    by_cases hlt : (j : Int) < (l.length : Int)
    · obtain ⟨hr0, hr1⟩ := hb.rd (j : Int)
      obtain ⟨hs, hs1, hs0⟩ := shl_in (rd l (j : Int)) hr0 hr1 j (by omega)
      obtain ⟨ho0, ho1⟩ := or_in x _ h0 h1 hs0 hs1
      have hw : 0 ≤ wrap64 (7 * (j : Int)) := by rw [wrb _ (by omega) (by omega)]; omega
      have hstep : ∀ k, wire_GetNum.l0 (k + 1) x l (l.length : Int) (j : Int) = (if (rd l (j : Int)) < 128 then (if (rd l (j : Int)) = 0 then (if (j : Int) > 0 then (some (0, 0, 1)) else (some (Go.bits .or .i64 x ((rd l (j : Int) % 128) * 2 ^ (7 * j)), wrap64 ((j : Int) + 1), 0))) else (some (Go.bits .or .i64 x ((rd l (j : Int) % 128) * 2 ^ (7 * j)), wrap64 ((j : Int) + 1), 0))) else (wire_GetNum.l0 k (Go.bits .or .i64 x ((rd l (j : Int) % 128) * 2 ^ (7 * j))) l (l.length : Int) ((j + 1 : Nat) : Int))) := fun k => by
        rw [wire_GetNum.l0, if_pos hlt, if_pos (by omega), if_pos hlt, if_neg (by omega), if_pos hw, hs, wrn j (by omega)]
      by_cases h128 : rd l (j : Int) < 128
      · by_cases hz : rd l (j : Int) = 0
        · by_cases hj0 : (j : Int) > 0
          · exact ⟨(0, 0, 1), Ev.step ((Ev.pure _).of_eq fun k => by rw [hstep, if_pos h128, if_pos hz, if_pos hj0]), Int.le_refl _⟩
          · exact ⟨_, Ev.step ((Ev.pure _).of_eq fun k => by rw [hstep, if_pos h128, if_pos hz, if_neg hj0]), ho0⟩
        · exact ⟨_, Ev.step ((Ev.pure _).of_eq fun k => by rw [hstep, if_pos h128, if_neg hz]), ho0⟩
      · obtain ⟨v, hv, hv0⟩ := ih (j + 1) _ (by omega) ho0 ho1
        exact ⟨v, Ev.step (hv.of_eq fun k => by rw [hstep, if_neg h128]), hv0⟩
    · exact ⟨(0, 0, 1), Ev.step ((Ev.pure _).of_eq fun k => by rw [wire_GetNum.l0, if_neg hlt]), Int.le_refl _⟩
theorem getnum_ev (l : List Int) (hl : l.length ≤ 1000000000) (hb : InB l) : ∃ n z e : Int, Ev (fun k => wire_GetNum.f k l) (n, z, e) ∧ 0 ≤ n ∧ (e = 0 → 1 ≤ z ∧ z ≤ l.length) := by
  obtain ⟨⟨n, z, e⟩, hv, h0⟩ := getnum_l0 l hl hb 9 0 0 rfl (by omega) (by omega)
  have hv' : Ev (fun k => wire_GetNum.f k l) (n, z, e) := hv
  obtain ⟨K, hK⟩ := hv'
  exact ⟨n, z, e, ⟨K, hK⟩, h0, fun he => getnum_size (hK K (Nat.le_refl _)) he (by omega)⟩
theorem Ev.map {α β : Type} {f : Nat → Option α} {x : α} (h : Ev f x) (g : α → Option β) {v : β} (hg : g x = some v) : Ev (fun k => (f k).bind g) v := Ev.bind (g := fun _ => g) h ((Ev.pure v).of_eq fun _ => hg)
theorem rdNum_ev (bs : List Int) (bad : Bool) (hl : bs.length ≤ 1000000000) (hb : InB bs) : ∃ (n : Int) (b2 : List Int) (bad2 : Bool), Ev (fun k => rdNum k bs bad) (n, b2, bad2) ∧ 0 ≤ n ∧ n ≤ b2.length ∧ InB b2 ∧ b2.length ≤ bs.length ∧ (bad2 = false → b2.length < bs.length) := by
  obtain ⟨n, z, e, hv, h0, hz⟩ := getnum_ev bs hl hb
  by_cases h1 : bad = true
  · exact ⟨0, bs, true, hv.map _ (by rw [if_pos h1]), Int.le_refl _, by omega, hb, Nat.le_refl _, fun h => by cases h⟩
  · by_cases h2 : e = 0
    · by_cases h3 : n > (bs.length : Int) - z
      · exact ⟨0, bs, true, hv.map _ (by rw [if_neg h1, if_neg (not_not_intro h2), if_pos h3]), Int.le_refl _, by omega, hb, Nat.le_refl _, fun h => by cases h⟩
      · obtain ⟨hz1, hz2⟩ := hz h2
        have hd : (bs.drop z.toNat).length = bs.length - z.toNat := List.length_drop
        exact ⟨n, bs.drop z.toNat, false, hv.map _ (by rw [if_neg h1, if_neg (not_not_intro h2), if_neg h3, if_pos ⟨h0, hz1, hz2⟩]), h0, by omega, hb.drop _, by omega, fun _ => by omega⟩
    · exact ⟨0, bs, true, hv.map _ (by rw [if_neg h1, if_pos h2]), Int.le_refl _, by omega, hb, Nat.le_refl _, fun h => by cases h⟩
theorem str_size (l : List Int) : (strOfNums l).size = l.length := by simp [strOfNums, ByteArray.size]
theorem rdText_ev (bs : List Int) (bad : Bool) (hl : bs.length ≤ 1000000000) (hb : InB bs) : ∃ (s : ByteArray) (b2 : List Int) (bad2 : Bool), Ev (fun k => rdText k bs bad) (s, b2, bad2) ∧ s.size ≤ bs.length ∧ InB b2 ∧ b2.length ≤ bs.length ∧ (bad2 = false → b2.length < bs.length) := by
  obtain ⟨n, b2, bad2, hv, h0, h1, h2, h3, h4⟩ := rdNum_ev bs bad hl hb
  have hd : (b2.drop n.toNat).length = b2.length - n.toNat := List.length_drop
  refine ⟨strOfNums (b2.take n.toNat), b2.drop n.toNat, bad2, hv.map _ (by rw [if_pos ⟨h0, h1⟩]), ?_, h2.drop _, by omega, fun h => by have := h4 h; omega⟩
  rw [str_size, List.length_take]
  omega
/-- From some fuels on it is v. -/
def Ev2 {α : Type} (g : Nat → Nat → Option α) (v : α) : Prop := ∃ K F, ∀ k f, K ≤ k → F ≤ f → g k f = some v
theorem Ev2.ev {α : Type} {g : Nat → Nat → Option α} {v : α} (h : Ev2 g v) : Ev (fun k => g k k) v := by
  obtain ⟨K, F, h⟩ := h
  exact ⟨K + F, fun k hk => h k k (by omega) (by omega)⟩
theorem getL_ev (M : Nat) : ∀ d (n : Int) (bs : List Int) (bad : Bool) (acc : List ByteArray), bs.length + (if bad = true then 0 else 1) ≤ d → bs.length ≤ 1000000000 → InB bs → bs.length ≤ M → (∀ s ∈ acc, s.size ≤ M) → acc.length + d ≤ 1000000000 → ∃ (L : List ByteArray) (rb : List Int) (rbad : Bool), Ev2 (fun k f => getL k f n bs bad acc) (L, rb, rbad) ∧ (∀ s ∈ L, s.size ≤ M) ∧ L.length ≤ acc.length + d := by
  intro d
  induction d with
  | zero =>
    intro n bs bad acc hd hl hb hM ha hac
    have hbad : bad = true := by
      cases bad with
      | true => rfl
      | false => simp at hd
    by_cases hn : 0 < n
    · refine ⟨acc, bs, true, ⟨0, 1, fun k f _ hf => ?_⟩, ha, by omega⟩
      obtain ⟨f, rfl⟩ : ∃ g, f = g + 1 := ⟨f - 1, by omega⟩
      show getL _ _ _ _ _ _ = _
      rw [getL, if_pos hn, if_pos hbad]
    · refine ⟨acc, bs, bad, ⟨0, 1, fun k f _ hf => ?_⟩, ha, by omega⟩
      obtain ⟨f, rfl⟩ : ∃ g, f = g + 1 := ⟨f - 1, by omega⟩
      show getL _ _ _ _ _ _ = _
      rw [getL, if_neg hn]
  | succ d ih =>
    intro n bs bad acc hd hl hb hM ha hac
    by_cases hn : 0 < n
    · by_cases hbad : bad = true
      · refine ⟨acc, bs, true, ⟨0, 1, fun k f _ hf => ?_⟩, ha, by omega⟩
        obtain ⟨f, rfl⟩ : ∃ g, f = g + 1 := ⟨f - 1, by omega⟩
        show getL _ _ _ _ _ _ = _
        rw [getL, if_pos hn, if_pos hbad]
      · rw [if_neg hbad] at hd
        obtain ⟨s, b2, bad2, hv, h1, h2, h3, h4⟩ := rdText_ev bs false hl hb
        have hd2 : b2.length + (if bad2 = true then 0 else 1) ≤ d := by
          cases bad2 with
          | true => rw [if_pos rfl]; omega
          | false => rw [if_neg (by decide)]; have := h4 rfl; omega
        obtain ⟨L, rb, rbad, ⟨K2, F2, hL⟩, hs, hlen⟩ := ih (wrap64 (n - 1)) b2 bad2 (acc ++ [s]) hd2 (by omega) h2 (by omega) (fun x hx => (List.mem_append.1 hx).elim (ha x) (fun hx => by rw [List.mem_singleton.1 hx]; omega)) (by rw [List.length_append, List.length_singleton]; omega)
        rw [List.length_append, List.length_singleton] at hlen
        obtain ⟨K1, hK1_⟩ := hv
        have hK1 : ∀ k, K1 ≤ k → rdText k bs false = some (s, b2, bad2) := hK1_
        refine ⟨L, rb, rbad, ⟨K1 + K2, F2 + 1, fun k f hk hf => ?_⟩, hs, by omega⟩
        obtain ⟨f, rfl⟩ : ∃ g, f = g + 1 := ⟨f - 1, by omega⟩
        show getL _ _ _ _ _ _ = _
        rw [getL, if_pos hn, if_neg hbad, hK1 k (by omega), Option.bind_some, if_pos (by omega)]
        exact hL k f (by omega) (by omega)
    · refine ⟨acc, bs, bad, ⟨0, 1, fun k f _ hf => ?_⟩, ha, by omega⟩
      obtain ⟨f, rfl⟩ : ∃ g, f = g + 1 := ⟨f - 1, by omega⟩
      show getL _ _ _ _ _ _ = _
      rw [getL, if_neg hn]
theorem get_ev (bs : List Int) (hl : bs.length ≤ 100000) (hb : InB bs) : ∃ (L : List ByteArray) (e : Int), Ev (fun k => wire_Get.f k bs) (L, e) ∧ (∀ s ∈ L, s.size ≤ 100000) ∧ L.length ≤ 100001 := by
  obtain ⟨n, b2, bad2, hv, h0, h1, h2, h3, h4⟩ := rdNum_ev bs (decide (1048576 < (bs.length : Int))) (by omega) hb
  obtain ⟨L, rb, rbad, hL, hs, hlen⟩ := getL_ev 100000 100001 n b2 bad2 [] (by split <;> omega) (by omega) h2 (by omega) (fun s hs => by cases hs) (by simp)
  have hLe := hL.ev
  have key : ∀ r, (if rbad = true then (([] : List ByteArray), (1 : Int)) else if 0 < rb.length then ([], 1) else (L, 0)) = r → Ev (fun k => wire_Get.f k bs) r := fun r hr => by
    have := Ev.bind (g := fun k (t : Int × List Int × Bool) => (getL k k t.1 t.2.1 t.2.2 []).bind fun u => some (if u.2.2 = true then (([] : List ByteArray), (1 : Int)) else if 0 < u.2.1.length then ([], 1) else (u.1, 0))) hv (Ev.map hLe _ (congrArg some hr))
    exact this.of_eq fun k => by unfold wire_Get.f; rw [if_pos (by omega)]
  by_cases c1 : rbad = true
  · exact ⟨[], 1, key _ (by rw [if_pos c1]), (fun s hs => (List.not_mem_nil hs).elim), Nat.zero_le _⟩
  · by_cases c2 : 0 < rb.length
    · exact ⟨[], 1, key _ (by rw [if_neg c1, if_pos c2]), (fun s hs => (List.not_mem_nil hs).elim), Nat.zero_le _⟩
    · refine ⟨L, 0, key _ (by rw [if_neg c1, if_neg c2]), hs, ?_⟩
      have : ([] : List ByteArray).length = 0 := rfl
      omega
theorem read_ev (s : ByteArray) (hs : s.size ≤ 1000000) : ∃ (n : Int) (ok : Bool), Ev (fun k => wire_Read.f k s) (n, ok) ∧ 0 ≤ n := by
  obtain ⟨n, z, e, hv, h0, _⟩ := getnum_ev (bytesOf s) (by rw [bytesOf_length]; omega) (InB.bytes s)
  exact ⟨n, (e == 0 && z == (s.size : Int)), (Ev.map hv (fun t => some (t.1, (t.2.2 == 0 && t.2.1 == (s.size : Int)))) rfl).of_eq fun k => by unfold wire_Read.f; rw [if_pos (by omega)], h0⟩
theorem imText_facts (M : Nat) (l : List ByteArray) (bad : Bool) (h : ∀ s ∈ l, s.size ≤ M) : (imText l bad).1.size ≤ M ∧ (∀ s ∈ (imText l bad).2.1, s.size ≤ M) ∧ (imText l bad).2.1.length ≤ l.length ∧ ((imText l bad).2.2 = false → (imText l bad).2.1.length < l.length) := by
  unfold imText
  cases bad with
  | true => exact ⟨Nat.zero_le _, h, Nat.le_refl _, fun h => by cases h⟩
  | false =>
    cases l with
    | nil => exact ⟨Nat.zero_le _, fun s hs => (List.not_mem_nil hs).elim, Nat.le_refl _, fun h => by cases h⟩
    | cons s r => exact ⟨h s (List.mem_cons_self ..), fun x hx => h x (List.mem_cons_of_mem _ hx), by simp, fun _ => by simp⟩
theorem imNum_ev (l : List ByteArray) (bad : Bool) (h : ∀ s ∈ l, s.size ≤ 100000) : ∃ (n : Int) (l2 : List ByteArray) (bad2 : Bool), Ev (fun k => imNum k l bad) (n, l2, bad2) ∧ 0 ≤ n ∧ (∀ s ∈ l2, s.size ≤ 100000) ∧ l2.length ≤ l.length ∧ (bad2 = false → l2.length < l.length) := by
  obtain ⟨h1, h2, h3, h4⟩ := imText_facts 100000 l bad h
  obtain ⟨n, ok, hv, h0⟩ := read_ev (imText l bad).1 (by omega)
  refine ⟨n, (imText l bad).2.1, ((imText l bad).2.2 || !ok), hv.map _ rfl, h0, h2, h3, fun hb => h4 ?_⟩
  simp only [Bool.or_eq_false_iff] at hb
  exact hb.1
theorem stDocs_ev : ∀ d (n : Int) (l : List ByteArray) (bad : Bool) (acc : List S42), l.length + (if bad = true then 0 else 1) ≤ d → (∀ s ∈ l, s.size ≤ 100000) → acc.length + d ≤ 1000000 → ∃ (D : List S42) (l2 : List ByteArray) (bad2 : Bool), Ev (fun k => stDocs k n l bad acc) (D, l2, bad2) ∧ (∀ s ∈ l2, s.size ≤ 100000) ∧ l2.length ≤ l.length ∧ D.length ≤ acc.length + d := by
  intro d
  induction d with
  | zero =>
    intro n l bad acc hd h hac
    have hbad : bad = true := by
      cases bad with
      | true => rfl
      | false => simp at hd
    by_cases hn : 0 < n
    · exact ⟨acc, l, true, Ev.step ((Ev.pure _).of_eq fun k => by rw [stDocs, if_pos hn, if_pos hbad]), h, Nat.le_refl _, by omega⟩
    · exact ⟨acc, l, bad, Ev.step ((Ev.pure _).of_eq fun k => by rw [stDocs, if_neg hn]), h, Nat.le_refl _, by omega⟩
  | succ d ih =>
    intro n l bad acc hd h hac
    by_cases hn : 0 < n
    · by_cases hbad : bad = true
      · exact ⟨acc, l, true, Ev.step ((Ev.pure _).of_eq fun k => by rw [stDocs, if_pos hn, if_pos hbad]), h, Nat.le_refl _, by omega⟩
      · rw [if_neg hbad] at hd
        obtain ⟨a1, a2, a3, a4⟩ := imText_facts 100000 l false h
        obtain ⟨b1, b2, b3, b4⟩ := imText_facts 100000 (imText l false).2.1 (imText l false).2.2 a2
        have hd2 : (imText (imText l false).2.1 (imText l false).2.2).2.1.length + (if (imText (imText l false).2.1 (imText l false).2.2).2.2 = true then 0 else 1) ≤ d := by
          by_cases hc : (imText (imText l false).2.1 (imText l false).2.2).2.2 = true
          · rw [if_pos hc]; omega
          · rw [if_neg hc]
            have := b4 (by simpa using hc)
            omega
        obtain ⟨D, l2, bad2, hv, h2, h3, h4⟩ := ih (wrap64 (n - 1)) _ _ (acc ++ [(⟨(imText l false).1, (imText (imText l false).2.1 (imText l false).2.2).1⟩ : S42)]) hd2 b2 (by rw [List.length_append, List.length_singleton]; omega)
        rw [List.length_append, List.length_singleton] at h4
        exact ⟨D, l2, bad2, Ev.step (hv.of_eq fun k => by rw [stDocs, if_pos hn, if_neg hbad, if_pos (by omega)]), h2, by omega, by omega⟩
    · exact ⟨acc, l, bad, Ev.step ((Ev.pure _).of_eq fun k => by rw [stDocs, if_neg hn]), h, Nat.le_refl _, by omega⟩
theorem stSess_ev : ∀ d (l : List ByteArray) (bad : Bool) (acc : List S47), l.length + (if bad = true then 0 else 1) ≤ d → (∀ s ∈ l, s.size ≤ 100000) → acc.length + d ≤ 1000000 → ∃ (D : List S47) (l2 : List ByteArray) (bad2 : Bool), Ev2 (fun k f => stSess k f l bad acc) (D, l2, bad2) ∧ D.length ≤ acc.length + d := by
  intro d
  induction d with
  | zero =>
    intro l bad acc hd h hac
    have hbad : bad = true := by
      cases bad with
      | true => rfl
      | false => simp at hd
    by_cases hn : 0 < l.length
    · refine ⟨acc, l, true, ⟨0, 1, fun k f _ hf => ?_⟩, by omega⟩
      obtain ⟨f, rfl⟩ : ∃ g, f = g + 1 := ⟨f - 1, by omega⟩
      show stSess _ _ _ _ _ = _
      rw [stSess, if_pos hn, if_pos hbad]
    · refine ⟨acc, l, bad, ⟨0, 1, fun k f _ hf => ?_⟩, by omega⟩
      obtain ⟨f, rfl⟩ : ∃ g, f = g + 1 := ⟨f - 1, by omega⟩
      show stSess _ _ _ _ _ = _
      rw [stSess, if_neg hn]
  | succ d ih =>
    intro l bad acc hd h hac
    by_cases hn : 0 < l.length
    · by_cases hbad : bad = true
      · refine ⟨acc, l, true, ⟨0, 1, fun k f _ hf => ?_⟩, by omega⟩
        obtain ⟨f, rfl⟩ : ∃ g, f = g + 1 := ⟨f - 1, by omega⟩
        show stSess _ _ _ _ _ = _
        rw [stSess, if_pos hn, if_pos hbad]
      · rw [if_neg hbad] at hd
        obtain ⟨n1, q1, e1, v1, _, z1, y1, x1⟩ := imNum_ev l false h
        obtain ⟨n2, q2, e2, v2, _, z2, y2, x2⟩ := imNum_ev q1 e1 z1
        obtain ⟨n3, q3, e3, v3, _, z3, y3, x3⟩ := imNum_ev q2 e2 z2
        obtain ⟨n4, q4, e4, v4, _, z4, y4, x4⟩ := imNum_ev q3 e3 z3
        obtain ⟨n5, q5, e5, v5, _, z5, y5, x5⟩ := imNum_ev q4 e4 z4
        have hd2 : q5.length + (if e5 = true then 0 else 1) ≤ d := by
          by_cases hc : e5 = true
          · rw [if_pos hc]; omega
          · rw [if_neg hc]
            have := x5 (by simpa using hc)
            omega
        obtain ⟨D, l2, bad2, ⟨K, F, hv⟩, h4⟩ := ih q5 e5 (acc ++ [(⟨n1, n2, ⟨n3, n4, []⟩, n5⟩ : S47)]) hd2 z5 (by rw [List.length_append, List.length_singleton]; omega)
        rw [List.length_append, List.length_singleton] at h4
        obtain ⟨K1, v1_⟩ := v1
        have v1 : ∀ k, K1 ≤ k → imNum k l false = some (n1, q1, e1) := v1_
        obtain ⟨K2, v2_⟩ := v2
        have v2 : ∀ k, K2 ≤ k → imNum k q1 e1 = some (n2, q2, e2) := v2_
        obtain ⟨K3, v3_⟩ := v3
        have v3 : ∀ k, K3 ≤ k → imNum k q2 e2 = some (n3, q3, e3) := v3_
        obtain ⟨K4, v4_⟩ := v4
        have v4 : ∀ k, K4 ≤ k → imNum k q3 e3 = some (n4, q4, e4) := v4_
        obtain ⟨K5, v5_⟩ := v5
        have v5 : ∀ k, K5 ≤ k → imNum k q4 e4 = some (n5, q5, e5) := v5_
        refine ⟨D, l2, bad2, ⟨K + K1 + K2 + K3 + K4 + K5, F + 1, fun k f hk hf => ?_⟩, by omega⟩
        obtain ⟨f, rfl⟩ : ∃ g, f = g + 1 := ⟨f - 1, by omega⟩
        show stSess _ _ _ _ _ = _
        rw [stSess, if_pos hn, if_neg hbad, v1 k (by omega), Option.bind_some]
        dsimp only
        rw [v2 k (by omega), Option.bind_some]
        dsimp only
        rw [v3 k (by omega), Option.bind_some]
        dsimp only
        rw [v4 k (by omega), Option.bind_some]
        dsimp only
        rw [v5 k (by omega), Option.bind_some, if_pos (by omega)]
        exact hv k f (by omega) (by omega)
    · refine ⟨acc, l, bad, ⟨0, 1, fun k f _ hf => ?_⟩, by omega⟩
      obtain ⟨f, rfl⟩ : ∃ g, f = g + 1 := ⟨f - 1, by omega⟩
      show stSess _ _ _ _ _ = _
      rw [stSess, if_neg hn]
theorem state_ev (l : List ByteArray) (bad : Bool) (hl : l.length ≤ 100001) (h : ∀ s ∈ l, s.size ≤ 100000) : ∃ (idx : Int) (D : List S42) (S : List S47) (b : Bool), Ev (fun k => image_state k l bad) (idx, D, S, b) ∧ D.length ≤ 1000000 ∧ S.length ≤ 1000000 := by
  obtain ⟨n1, q1, e1, v1, _, z1, y1, x1⟩ := imNum_ev l bad h
  obtain ⟨n2, q2, e2, v2, _, z2, y2, x2⟩ := imNum_ev q1 e1 z1
  obtain ⟨D, q3, e3, v3, z3, y3, w3⟩ := stDocs_ev 100002 n2 q2 e2 [] (by split <;> omega) z2 (by simp)
  obtain ⟨S, q4, e4, v4, w4⟩ := stSess_ev 100002 q3 e3 [] (by split <;> omega) z3 (by simp)
  have e0 : ([] : List S42).length = 0 := rfl
  have e0' : ([] : List S47).length = 0 := rfl
  refine ⟨n1, D, S, e4, ?_, by omega, by omega⟩
  refine Ev.bind (g := fun k (a : Int × List ByteArray × Bool) => (imNum k a.2.1 a.2.2).bind fun b => (stDocs k b.1 b.2.1 b.2.2 []).bind fun d => (stSess k k d.2.1 d.2.2 []).bind fun s => some (a.1, d.1, s.1, s.2.2)) v1 ?_
  refine Ev.bind (g := fun k (b : Int × List ByteArray × Bool) => (stDocs k b.1 b.2.1 b.2.2 []).bind fun d => (stSess k k d.2.1 d.2.2 []).bind fun s => some (n1, d.1, s.1, s.2.2)) v2 ?_
  refine Ev.bind (g := fun k (d : List S42 × List ByteArray × Bool) => (stSess k k d.2.1 d.2.2 []).bind fun s => some (n1, d.1, s.1, s.2.2)) v3 ?_
  exact Ev.map v4.ev _ rfl
end Go.Proofs.Yticlghbdapbdnaa.I
