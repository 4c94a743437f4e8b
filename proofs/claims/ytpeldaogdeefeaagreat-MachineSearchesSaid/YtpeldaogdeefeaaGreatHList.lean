/- Documents as a sorted list; maps that read as it; where a pattern stands. Plain Lean. -/
import Derived.Maps.Views
import Derived.Maps.OwnSet
import Derived.Maps.StringElems
import Derived.Sort.KeysCollected
import Derived.Lib.IndexMore
import Derived.Lib.IndexLaws
namespace Go.Proofs.YtpeldaogdeefeaaGreat.H
open Go.Maps Go.Sort Go.Lib
set_option linter.unusedVariables false
set_option linter.unusedSimpArgs false
abbrev Bs := List UInt8
def Rise (l : List Bs) : Prop := l.Pairwise (· < ·)
theorem lt_tri (a b : Bs) : a < b ∨ a = b ∨ b < a := by
  rcases List.le_iff_lt_or_eq.1 (List.not_lt.1 (List.lt_irrefl a)) with h | _
  · exact absurd h (List.lt_irrefl a)
  · by_cases h : a < b
    · exact .inl h
    · rcases List.le_iff_lt_or_eq.1 (List.not_lt.1 h) with h2 | h2
      · exact .inr (.inr h2)
      · exact .inr (.inl h2.symm)
theorem lt_asymm {a b : Bs} (h : a < b) : ¬ b < a := fun h2 => List.lt_irrefl a (List.lt_trans h h2)
theorem rise_unique : ∀ {l m : List Bs}, Rise l → Rise m → (∀ x, x ∈ l ↔ x ∈ m) → l = m
  | [], [], _, _, _ => rfl
  | [], b :: m, _, _, h => absurd ((h b).2 List.mem_cons_self) List.not_mem_nil
  | a :: l, [], _, _, h => absurd ((h a).1 List.mem_cons_self) List.not_mem_nil
  | a :: l, b :: m, hl, hm, h => by
    have hl' := List.pairwise_cons.1 hl
    have hm' := List.pairwise_cons.1 hm
    have hab : a = b := by
      rcases List.mem_cons.1 ((h a).1 List.mem_cons_self) with e | h1
      · exact e
      · rcases List.mem_cons.1 ((h b).2 List.mem_cons_self) with e | h2
        · exact e.symm
        · exact absurd (hl'.1 b h2) (lt_asymm (hm'.1 a h1))
    subst hab
    rw [rise_unique hl'.2 hm'.2 (fun x => ?_)]
    constructor
    · intro hx
      rcases List.mem_cons.1 ((h x).1 (List.mem_cons_of_mem _ hx)) with e | h1
      · subst e; exact absurd (hl'.1 x hx) (List.lt_irrefl x)
      · exact h1
    · intro hx
      rcases List.mem_cons.1 ((h x).2 (List.mem_cons_of_mem _ hx)) with e | h1
      · subst e; exact absurd (hm'.1 x hx) (List.lt_irrefl x)
      · exact h1
theorem sorted_rise (ss : List Bs) (hn : ss.Nodup) : Rise (ss.mergeSort (fun x y => decide (x ≤ y))) := by
  have hp := List.mergeSort_perm ss (fun x y => decide (x ≤ y))
  have h1 := List.pairwise_mergeSort (le := fun x y : Bs => decide (x ≤ y)) (fun a b c h1 h2 => decide_eq_true (List.le_trans (of_decide_eq_true h1) (of_decide_eq_true h2))) (fun a b => by
    rcases lt_tri a b with h | h | h
    · simp [List.le_of_lt h]
    · subst h; simp
    · simp [List.le_of_lt h]) ss
  have h2 : (ss.mergeSort (fun x y => decide (x ≤ y))).Nodup := hp.nodup_iff.2 hn
  refine (h1.and h2).imp fun {a b} h => ?_
  rcases lt_tri a b with h3 | h3 | h3
  · exact h3
  · exact absurd h3 h.2
  · exact absurd h3 (List.not_lt.2 (of_decide_eq_true h.1))
theorem sorted_eq {ss l m : List Bs} (hp : ss.Perm l) (hn : l.Nodup) (hm : Rise m) (hmem : ∀ x, x ∈ l ↔ x ∈ m) : ss.mergeSort (fun x y => decide (x ≤ y)) = m :=
  rise_unique (sorted_rise ss (hp.nodup_iff.2 hn)) hm (fun x => by rw [(List.mergeSort_perm ss _).mem_iff, hp.mem_iff, hmem])
/-! ### sorted pairs -/
section
variable {β : Type}
def names (M : List (Bs × β)) : List Bs := M.map (·.1)
def ins (k : Bs) (v : β) : List (Bs × β) → List (Bs × β)
  | [] => [(k, v)]
  | p :: t => if p.1 < k then p :: ins k v t else (k, v) :: p :: t
theorem mem_ins (k : Bs) (v : β) : ∀ (M : List (Bs × β)) (p : Bs × β), p ∈ ins k v M ↔ p = (k, v) ∨ p ∈ M
  | [], p => by simp [ins]
  | q :: t, p => by
    unfold ins
    split
    · rw [List.mem_cons, mem_ins k v t p, List.mem_cons]
      constructor
      · rintro (h | h | h)
        · exact .inr (.inl h)
        · exact .inl h
        · exact .inr (.inr h)
      · rintro (h | h | h)
        · exact .inr (.inl h)
        · exact .inl h
        · exact .inr (.inr h)
    · rw [List.mem_cons]
theorem names_ins (k : Bs) (v : β) (M : List (Bs × β)) (x : Bs) : x ∈ names (ins k v M) ↔ x = k ∨ x ∈ names M := by
  simp only [names, List.mem_map, mem_ins]
  constructor
  · rintro ⟨p, rfl | h, rfl⟩
    · exact .inl rfl
    · exact .inr ⟨p, h, rfl⟩
  · rintro (rfl | ⟨p, h, rfl⟩)
    · exact ⟨(x, v), .inl rfl, rfl⟩
    · exact ⟨p, .inr h, rfl⟩
theorem ins_rise (k : Bs) (v : β) : ∀ (M : List (Bs × β)), Rise (names M) → k ∉ names M → Rise (names (ins k v M))
  | [], _, _ => List.pairwise_singleton _ _
  | p :: t, h, hk => by
    have h' := List.pairwise_cons.1 h
    have hk1 : k ≠ p.1 := fun e => hk (by rw [e]; exact List.mem_cons_self)
    have hk2 : k ∉ names t := fun e => hk (List.mem_cons_of_mem _ e)
    unfold ins
    split
    · rename_i hlt
      refine List.pairwise_cons.2 ⟨fun x hx => ?_, ins_rise k v t h'.2 hk2⟩
      rcases (names_ins k v t x).1 hx with e | hx
      · rw [e]; exact hlt
      · exact h'.1 x hx
    · rename_i hnl
      have hkp : k < p.1 := by
        rcases lt_tri p.1 k with h3 | h3 | h3
        · exact absurd h3 hnl
        · exact absurd h3.symm hk1
        · exact h3
      refine List.pairwise_cons.2 ⟨fun x hx => ?_, h⟩
      rcases List.mem_cons.1 hx with e | hx
      · rw [e]; exact hkp
      · exact List.lt_trans hkp (h'.1 x hx)
theorem ins_last (k : Bs) (v : β) : ∀ (M : List (Bs × β)), (∀ p ∈ M, p.1 < k) → ins k v M = M ++ [(k, v)]
  | [], _ => rfl
  | p :: t, h => by
    unfold ins
    rw [if_pos (h p List.mem_cons_self), ins_last k v t (fun q hq => h q (List.mem_cons_of_mem _ hq))]
    rfl
/-- A map that reads as a sorted list of pairs. -/
structure DIs (f : β → DataW Unit) (D : DataW Unit) (M : List (Bs × β)) : Prop where
  tidy : Tidy D
  rise : Rise (names M)
  has_ : ∀ k, has D (.string k) = true ↔ k ∈ names M
  at_ : ∀ p ∈ M, ∀ z, D.atKey (.string p.1) z = f p.2
theorem DIs.empty (f : β → DataW Unit) : DIs f (.map []) [] := ⟨tidy_empty, List.Pairwise.nil, fun k => by simp [names, has], fun p hp => absurd hp List.not_mem_nil⟩
theorem strL (k : Bs) : WideAt.IsKeyLit (.string k) := trivial
theorem str_ne {a b : Bs} (h : a ≠ b) : (Lit.string a) ≠ (Lit.string b) := fun e => h (by injection e)
theorem DIs.put {f : β → DataW Unit} {D : DataW Unit} {M : List (Bs × β)} (h : DIs f D M) (k : Bs) (v : β) (hk : k ∉ names M) : DIs f (D.put (.string k) (f v)) (ins k v M) where
  tidy := h.tidy.put (strL k) _
  rise := ins_rise k v M h.rise hk
  has_ := fun x => by
    rw [names_ins]
    by_cases e : x = k
    · subst e
      rw [has_put_same h.tidy.isMap (strL x)]
      simp
    · rw [has_put_other (str_ne e), h.has_]
      simp [e]
  at_ := fun p hp z => by
    rcases (mem_ins k v M p).1 hp with rfl | hp
    · exact atKey_put_same h.tidy.isMap (strL k) _ _
    · have e : p.1 ≠ k := fun e => hk (by rw [← e]; exact List.mem_map_of_mem hp)
      rw [atKey_put_other (str_ne e)]
      exact h.at_ p hp z
end
/-- The keys of a map that is owned are strings, each once. -/
theorem owns_keys {w : World} {P : Program} {k : TypeId} {R : Value → Option (DataW Unit × List MemPlace)} {b n : Nat} {D : DataW Unit} (hk : P.underlying k = some .string) (h : w.ownsMap P k R b n D) : (strKeys D).Nodup ∧ ∀ x, x ∈ strKeys D ↔ has D (.string x) = true := by
  obtain ⟨es, hD, hpw⟩ := World.ownsMap.tidy h (string_keyed hk)
  obtain ⟨es', hD', hko⟩ := World.ownsMap.keysOf h
  obtain rfl : es = es' := by rw [hD] at hD'; simpa using hD'
  subst hD
  have hk : ∀ p ∈ es, ∃ x, p.1 = .string x := fun p hp => by obtain ⟨v, hv⟩ := hko p hp; obtain ⟨x, _, hx, _⟩ := Maps.keyOf_str hk hv; exact ⟨x, hx⟩
  refine ⟨?_, fun x => ?_⟩
  · show (es.map fun p => strOf p.1).Nodup
    refine List.pairwise_map.2 (hpw.imp_of_mem fun {p q} hp' hq' hne e => hne ?_)
    obtain ⟨a, ha⟩ := hk p hp'
    obtain ⟨b, hb⟩ := hk q hq'
    rw [ha, hb] at e ⊢
    exact congrArg _ e
  · rw [has_eq, List.any_eq_true]
    show x ∈ es.map (fun p => strOf p.1) ↔ _
    rw [List.mem_map]
    constructor
    · rintro ⟨p, hp', rfl⟩
      obtain ⟨a, ha⟩ := hk p hp'
      exact ⟨p, hp', by rw [ha]; simp [Lit.sameKey, strOf]⟩
    · rintro ⟨p, hp', hs⟩
      obtain ⟨a, ha⟩ := hk p hp'
      rw [ha] at hs
      exact ⟨p, hp', by rw [ha]; simpa [Lit.sameKey, strOf] using hs⟩
section
variable {β : Type} {w : World} {P : Program} {k : TypeId} {R : Value → Option (DataW Unit × List MemPlace)} {b n : Nat} {D : DataW Unit} {f : β → DataW Unit} {M : List (Bs × β)}
/-- The keys of such a map, sorted, are the names. -/
theorem keys_names (hk : P.underlying k = some .string) (h : w.ownsMap P k R b n D) (hD : DIs f D M) {ss : List Bs} (hp : ss.Perm (strKeys D)) : ss.mergeSort (fun x y => decide (x ≤ y)) = names M := by
  obtain ⟨h1, h2⟩ := owns_keys hk h
  exact sorted_eq hp h1 hD.rise (fun x => (h2 x).trans (hD.has_ x))
theorem size_names (hk : P.underlying k = some .string) (h : w.ownsMap P k R b n D) (hD : DIs f D M) : Maps.size D = M.length := by
  have h1 := keys_names hk h hD (List.Perm.refl _)
  have h2 : (strKeys D).length = M.length := by
    have := congrArg List.length h1
    rw [List.length_mergeSort] at this
    rw [this]
    exact List.length_map _
  rw [← h2]
  obtain ⟨es, e, _⟩ := hD.tidy
  rw [e]
  exact (List.length_map _).symm
end
/-! ### where a pattern stands -/
/-- From place k on, n places. -/
def occF (t p : Bs) : Nat → Nat → List Nat
  | 0, _ => []
  | n + 1, k => if occAt t p k = true then k :: occF t p n (k + 1) else occF t p n (k + 1)
theorem occF_one (t p : Bs) (n k : Nat) : occF t p (n + 1) k = if occAt t p k = true then k :: occF t p n (k + 1) else occF t p n (k + 1) := rfl
theorem occF_none (t p : Bs) : ∀ (n k : Nat), (∀ j, k ≤ j → j < k + n → occAt t p j = false) → occF t p n k = []
  | 0, _, _ => rfl
  | n + 1, k, h => by
    unfold occF
    rw [if_neg (by rw [h k (Nat.le_refl _) (by omega)]; decide)]
    exact occF_none t p n (k + 1) (fun j h1 h2 => h j (by omega) (by omega))
theorem occF_skip (t p : Bs) : ∀ (i n k : Nat), (∀ j, k ≤ j → j < k + i → occAt t p j = false) → occF t p (n + i) k = occF t p n (k + i)
  | 0, _, _, _ => rfl
  | i + 1, n, k, h => by
    rw [show n + (i + 1) = (n + i) + 1 by omega, occF_one, if_neg (by rw [h k (Nat.le_refl _) (by omega)]; decide), occF_skip t p i n (k + 1) (fun j h1 h2 => h j (by omega) (by omega)), show k + 1 + i = k + (i + 1) by omega]
theorem occF_hit (t p : Bs) (i n k : Nat) (h : ∀ j, k ≤ j → j < k + i → occAt t p j = false) (ho : occAt t p (k + i) = true) : occF t p (n + 1 + i) k = (k + i) :: occF t p n (k + i + 1) := by
  rw [occF_skip t p i (n + 1) k h, occF_one, if_pos ho]
theorem occAt_drop (t p : Bs) (k j : Nat) : occAt (t.drop k) p j = occAt t p (k + j) := by
  unfold occAt
  rw [List.drop_drop]
/-- No place is left where the pattern has no room. -/
theorem occAt_far {t p : Bs} {j : Nat} (hp : p ≠ []) (h : t.length < j + p.length) : occAt t p j = false := by
  unfold occAt
  rw [Bool.eq_false_iff]
  intro e
  have := (List.isPrefixOf_iff_prefix.1 e).length_le
  rw [List.length_drop] at this
  have : 0 < p.length := List.length_pos_iff.2 hp
  omega
end Go.Proofs.YtpeldaogdeefeaaGreat.H
