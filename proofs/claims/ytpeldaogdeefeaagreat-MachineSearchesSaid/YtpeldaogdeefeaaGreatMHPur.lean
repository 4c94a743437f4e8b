/- Shelf: what the reference's list functions and segment.Check tell. Plain Lean. -/
import Derived.Test.YtpeldaogdeefeaaGreatMG0
import Derived.Test.YtpeldaogdeefeaaGreatHList
import Derived.Test.YtpeldaogdeefeaaGreatMx48
import Derived.Test.YtpeldaogdeefeaaGreatMx4
import Derived.Test.YtpeldaogdeefeaaGreatMx5
import Derived.Test.YtpeldaogdeefeaaGreatMG1
import Derived.Test.YtpeldaogdeefeaaGreatMx0
import Derived.Sort.Walk0
namespace Go.Proofs.YtpeldaogdeefeaaGreat.M
open Go.Proofs.YtpeldaogdeefeaaGreat.H Go.RowKit Go.Proofs.YtpeldaogdeefeaaGreatW.PrintWords Go.Proofs.YtpeldaogdeefeaaGreatW.PrintLast Go.Proofs.YtpeldaogdeefeaaGreatW.PrintMore
set_option linter.unusedVariables false
set_option linter.unusedSimpArgs false
def Ev {α : Type} (f : Nat → Option α) (v : α) : Prop := ∃ K, ∀ k, K ≤ k → f k = some v
theorem Ev.step {α : Type} {f : Nat → Option α} {v : α} (h : Ev (fun k => f (k + 1)) v) : Ev f v := by
  obtain ⟨K, h⟩ := h
  refine ⟨K + 1, fun k hk => ?_⟩
  obtain ⟨k, rfl⟩ : ∃ n, k = n + 1 := ⟨k - 1, by omega⟩
  exact h k (by omega)
theorem Ev.pure {α : Type} (v : α) : Ev (fun _ => some v) v := ⟨0, fun _ _ => rfl⟩
theorem Ev.bind {α β : Type} {f : Nat → Option α} {g : Nat → α → Option β} {x : α} {v : β} (h1 : Ev f x) (h2 : Ev (fun k => g k x) v) : Ev (fun k => (f k).bind (g k)) v := by
  obtain ⟨K1, h1⟩ := h1
  obtain ⟨K2, h2⟩ := h2
  refine ⟨K1 + K2, fun k hk => ?_⟩
  show (f k).bind (g k) = some v
  rw [h1 k (by omega)]
  exact h2 k (by omega)
theorem Ev.of_eq {α : Type} {f g : Nat → Option α} {v : α} (h : Ev g v) (e : ∀ k, f k = g k) : Ev f v := by
  obtain ⟨K, h⟩ := h
  exact ⟨K, fun k hk => (e k).trans (h k hk)⟩
theorem wrb (n : Int) (h : -9223372036854775808 ≤ n) (h1 : n ≤ 9223372036854775807) : wrap64 n = n := by unfold wrap64; omega
theorem wrn (i : Nat) (h : i ≤ 1000000000000000) : wrap64 ((i : Int) + 1) = ((i + 1 : Nat) : Int) := by rw [wrb _ (by omega) (by omega)]; omega
theorem tl (a : ByteArray) : a.toList = a.data.toList := ByteArray.toList_eq a
theorem less_is (a b : ByteArray) : Op.bytesLess a.toList b.toList = decide (a.data.toList < b.data.toList) := by rw [tl, tl, Go.Proofs.bytesLess_eq]
theorem ba_ext {a b : ByteArray} (h : a.data.toList = b.data.toList) : a = b := by
  obtain ⟨⟨a⟩⟩ := a
  obtain ⟨⟨b⟩⟩ := b
  simp only at h
  rw [h]
theorem ba_size (a : ByteArray) : a.data.toList.length = a.size := by simp
/-- A document's name and text, as lists. -/
def pr (x : S36) : Bs × Bs := (x.f0.data.toList, x.f1.data.toList)
def pairs (l : List S36) : List (Bs × Bs) := l.map pr
def doc (p : Bs × Bs) : S36 := ⟨⟨p.1.toArray⟩, ⟨p.2.toArray⟩⟩
def docs (M : List (Bs × Bs)) : List S36 := M.map doc
theorem doc_pr (x : S36) : doc (pr x) = x := by
  obtain ⟨a, b⟩ := x
  simp [doc, pr]
theorem docs_pairs (l : List S36) : docs (pairs l) = l := by
  unfold docs pairs
  rw [List.map_map]
  exact (List.map_congr_left (fun x _ => doc_pr x)).trans (List.map_id _)
theorem rd36 (l : List S36) (i : Nat) (h : i < l.length) : rd_T36 l (i : Int) = l[i] := by
  unfold rd_T36; rw [Int.toNat_natCast, List.getD_eq_getElem?_getD, List.getElem?_eq_getElem h]; rfl
def totB (M : List (Bs × Bs)) : Nat := (M.map (·.2.length)).sum
def szL (l : List S36) : Nat := (l.map (·.f1.size)).sum
theorem tot_sz (l : List S36) : totB (pairs l) = szL l := by
  unfold totB pairs szL
  rw [List.map_map]
  exact congrArg List.sum (List.map_congr_left (fun x _ => by simp [pr]))
theorem szL_cons (x : S36) (l : List S36) : szL (x :: l) = x.f1.size + szL l := rfl
theorem szL_drop (l : List S36) (i : Nat) (h : i < l.length) : szL (l.drop i) = l[i].f1.size + szL (l.drop (i + 1)) := by
  rw [List.drop_eq_getElem_cons h, szL_cons]
theorem szL_bound (l : List S36) (B : Nat) (h : ∀ x ∈ l, x.f1.size ≤ B) : szL l ≤ l.length * B := by
  induction l with
  | nil => exact Nat.zero_le _
  | cons x l ih =>
    have h1 := ih (fun y hy => h y (List.mem_cons_of_mem _ hy))
    have h2 := h x List.mem_cons_self
    rw [szL_cons, List.length_cons, Nat.succ_mul]
    omega
/-- Documents that may be. -/
structure DocsOk (l : List S36) : Prop where
  rise : Rise (names (pairs l))
  nm : ∀ x ∈ l, 1 ≤ x.f0.size ∧ x.f0.size ≤ 64
  few : l.length ≤ 64
  tx : ∀ x ∈ l, x.f1.size ≤ 2048
  tot : szL l ≤ 16384
theorem DocsOk.nil : DocsOk [] := ⟨List.Pairwise.nil, fun x hx => absurd hx List.not_mem_nil, Nat.zero_le _, fun x hx => absurd hx List.not_mem_nil, Nat.zero_le _⟩
/-! ### the reference's -/
theorem size_from (l : List S36) (hl : l.length ≤ 1000000) (hs : szL l ≤ 1000000000000) : ∀ d i, i + d = l.length → ∀ n : Nat, n + szL (l.drop i) ≤ 1000000000000 → Ev (fun k => lecternref8_Size.l0 k l (n : Int) (i : Int)) ((n + szL (l.drop i) : Nat) : Int)
  | 0, i, hd => fun n hn => Ev.step ((Ev.pure _).of_eq fun k => by
      rw [lecternref8_Size.l0, if_neg (by omega), List.drop_eq_nil_of_le (by omega)]
      rfl)
  | d + 1, i, hd => fun n hn => by
    have hi : i < l.length := by omega
    rw [szL_drop l i hi] at hn ⊢
    rw [← Nat.add_assoc]
    refine Ev.step (((size_from l hl hs d (i + 1) (by omega) (n + l[i].f1.size) (by omega)).of_eq fun k => ?_))
    rw [lecternref8_Size.l0, if_pos (by omega), if_pos (by omega), rd36 l i hi, wrn i (by omega), wrb _ (by omega) (by omega)]
    rfl
theorem size_is (l : List S36) (hl : l.length ≤ 1000000) (hs : szL l ≤ 1000000000000) : Ev (fun k => lecternref8_Size.f k l) (szL l : Int) := by
  have h := size_from l hl hs l.length 0 (by omega) 0 (by simpa using hs)
  rw [List.drop_zero, Nat.zero_add] at h
  exact h
theorem mem_pairs {l : List S36} {p : Bs × Bs} (h : p ∈ pairs l) : doc p ∈ l := by
  obtain ⟨x, hx, rfl⟩ := List.mem_map.1 h
  rw [doc_pr]; exact hx
theorem copy_from (l : List S36) (hl : l.length ≤ 1000000) : ∀ d i, i + d = l.length → Ev (fun k => lecternref0_CopyDocs.l0 k l (l.take i) (i : Int)) l
  | 0, i, hd => Ev.step ((Ev.pure _).of_eq fun k => by
      rw [lecternref0_CopyDocs.l0, if_neg (by omega), List.take_of_length_le (by omega)])
  | d + 1, i, hd => by
    have hi : i < l.length := by omega
    refine Ev.step ((copy_from l hl d (i + 1) (by omega)).of_eq fun k => ?_)
    rw [lecternref0_CopyDocs.l0, if_pos (by omega), if_pos (by omega), if_pos (by rw [List.length_take]; omega), rd36 l i hi, wrn i (by omega), List.take_succ_eq_append_getElem hi]
theorem copy_is (l : List S36) (hl : l.length ≤ 1000000) : Ev (fun k => lecternref0_CopyDocs.f k l) l := copy_from l hl l.length 0 (by omega)
theorem eq_from (l : List S36) (hl : l.length ≤ 1000000) : ∀ d i, i + d = l.length → Ev (fun k => lecternref0_EqDocs.l0 k l l (i : Int)) true
  | 0, i, hd => Ev.step ((Ev.pure _).of_eq fun k => by rw [lecternref0_EqDocs.l0, if_neg (by omega)])
  | d + 1, i, hd => by
    have hi : i < l.length := by omega
    refine Ev.step ((eq_from l hl d (i + 1) (by omega)).of_eq fun k => ?_)
    rw [lecternref0_EqDocs.l0, if_pos (by omega), if_pos (by omega), if_pos (by omega), if_neg (by simp), wrn i (by omega)]
theorem eq_is (l : List S36) (hl : l.length ≤ 1000000) : Ev (fun k => lecternref0_EqDocs.f k l l) true := by
  refine (eq_from l hl l.length 0 (by omega)).of_eq fun k => ?_
  rw [lecternref0_EqDocs.f, if_pos rfl]
  rfl
/-! ### which documents may be -/
theorem rise_of (l : List S36) (h : ∀ i (hi : i + 1 < l.length), l[i].f0.data.toList < l[i + 1].f0.data.toList) : Rise (names (pairs l)) := by
  induction l with
  | nil => exact List.Pairwise.nil
  | cons x l ih =>
    have h1 := ih (fun i hi => by
      have := h (i + 1) (by simp only [List.length_cons]; omega)
      simpa using this)
    refine List.pairwise_cons.2 ⟨?_, h1⟩
    cases l with
    | nil => intro y hy; exact absurd hy List.not_mem_nil
    | cons y t =>
      have h0 : x.f0.data.toList < y.f0.data.toList := h 0 (by simp)
      intro z hz
      rcases List.mem_cons.1 hz with e | hz
      · rw [e]; exact h0
      · exact List.lt_trans h0 ((List.pairwise_cons.1 h1).1 z hz)
theorem rise_at {l : List S36} (h : Rise (names (pairs l))) (i j : Nat) (hij : i < j) (hj : j < l.length) : l[i].f0.data.toList < l[j].f0.data.toList := by
  have h2 := List.pairwise_iff_getElem.1 h i j (by simp [names, pairs]; omega) (by simp [names, pairs]; omega) hij
  simpa [names, pairs, pr] using h2
theorem docs1_from (l : List S36) (hl : l.length ≤ 64) : ∀ d i, i + d = l.length → (∀ j (hj : j < l.length), j < i → l[j].f1.size ≤ 2048) → ∃ r : Int, Ev (fun k => lecternref8_Docs.l1 k l (i : Int)) r ∧ (r = 0 → (∀ x ∈ l, x.f1.size ≤ 2048) ∧ szL l ≤ 16384)
  | 0, i, hd, hn => by
    have ht : ∀ x ∈ l, x.f1.size ≤ 2048 := fun x hx => by
      obtain ⟨j, hj, rfl⟩ := List.getElem_of_mem hx
      exact hn j hj (by omega)
    have hb := szL_bound l 2048 ht
    refine ⟨if (szL l : Int) > 16384 then 2 else 0, Ev.step ((Ev.bind (g := fun _ t => if t > 16384 then some 2 else some 0) (size_is l (by omega) (by omega)) ((Ev.pure _).of_eq fun k => ?_)).of_eq fun k => ?_), fun e => ⟨ht, ?_⟩⟩
    · split <;> rfl
    · rw [lecternref8_Docs.l1, if_neg (by omega)]
    · by_cases h : (szL l : Int) > 16384
      · rw [if_pos h] at e; exact absurd e (by decide)
      · omega
  | d + 1, i, hd, hn => by
    have hi : i < l.length := by omega
    by_cases h : (l[i].f1.size : Int) > 2048
    · refine ⟨2, Ev.step ((Ev.pure _).of_eq fun k => ?_), fun e => absurd e (by decide)⟩
      rw [lecternref8_Docs.l1, if_pos (by omega), if_pos (by omega), rd36 l i hi, if_pos h]
    · obtain ⟨r, h1, h2⟩ := docs1_from l hl d (i + 1) (by omega) (fun j hj hlt => by
        rcases Nat.lt_succ_iff_lt_or_eq.1 hlt with h' | h'
        · exact hn j hj h'
        · subst h'; omega)
      refine ⟨r, Ev.step (h1.of_eq fun k => ?_), h2⟩
      rw [lecternref8_Docs.l1, if_pos (by omega), if_pos (by omega), rd36 l i hi, if_neg h, wrn i (by omega)]
theorem ne_nil (a : ByteArray) : (a.toList = ([] : List UInt8)) ↔ a.size = 0 := by
  rw [tl, ← ba_size, List.length_eq_zero_iff]
theorem docs0_from (l : List S36) (hl : l.length ≤ 1000000000000000) : ∀ d i, i + d = l.length → (∀ j (hj : j < l.length), j < i → 1 ≤ l[j].f0.size ∧ l[j].f0.size ≤ 64) → (∀ j (hj : j + 1 < l.length), j + 1 < i → l[j].f0.data.toList < l[j + 1].f0.data.toList) → ∃ r : Int, Ev (fun k => lecternref8_Docs.l0 k l (i : Int)) r ∧ (r = 0 → DocsOk l)
  | 0, i, hd, hn, hr => by
    by_cases h : (l.length : Int) > 64
    · refine ⟨2, Ev.step ((Ev.pure _).of_eq fun k => ?_), fun e => absurd e (by decide)⟩
      rw [lecternref8_Docs.l0, if_neg (by omega), if_pos h]
    · obtain ⟨r, h1, h2⟩ := docs1_from l (by omega) l.length 0 (by omega) (fun j _ h => absurd h (Nat.not_lt_zero _))
      refine ⟨r, Ev.step (h1.of_eq fun k => ?_), fun e => ⟨rise_of l (fun j hj => hr j hj (by omega)), fun x hx => ?_, by omega, (h2 e).1, (h2 e).2⟩⟩
      · rw [lecternref8_Docs.l0, if_neg (by omega), if_neg h]
        rfl
      · obtain ⟨j, hj, rfl⟩ := List.getElem_of_mem hx
        exact hn j hj (by omega)
  | d + 1, i, hd, hn, hr => by
    have hi : i < l.length := by omega
    by_cases h0 : l[i].f0.size = 0
    · refine ⟨1, Ev.step ((Ev.pure _).of_eq fun k => ?_), fun e => absurd e (by decide)⟩
      rw [lecternref8_Docs.l0, if_pos (by omega), if_pos (by omega), rd36 l i hi, if_pos ((ne_nil _).2 h0)]
    by_cases h1 : (l[i].f0.size : Int) > 64
    · refine ⟨1, Ev.step ((Ev.pure _).of_eq fun k => ?_), fun e => absurd e (by decide)⟩
      rw [lecternref8_Docs.l0, if_pos (by omega), if_pos (by omega), rd36 l i hi, if_neg (fun e => h0 ((ne_nil _).1 e)), if_pos h1]
    have hn' : ∀ j (hj : j < l.length), j < i + 1 → 1 ≤ l[j].f0.size ∧ l[j].f0.size ≤ 64 := fun j hj hlt => by
      rcases Nat.lt_succ_iff_lt_or_eq.1 hlt with h' | h'
      · exact hn j hj h'
      · subst h'; omega
    rcases Nat.eq_zero_or_pos i with hz | hp
    · subst hz
      obtain ⟨r, h2, h3⟩ := docs0_from l hl d 1 (by omega) hn' (fun j hj h => by omega)
      refine ⟨r, Ev.step (h2.of_eq fun k => ?_), h3⟩
      rw [lecternref8_Docs.l0, if_pos (by omega), if_pos (by omega), rd36 l 0 hi, if_neg (fun e => h0 ((ne_nil _).1 e)), if_neg h1, if_neg (by omega), wrn 0 (by omega)]
    · obtain ⟨j, rfl⟩ : ∃ j, i = j + 1 := ⟨i - 1, by omega⟩
      have hw : wrap64 (((j + 1 : Nat) : Int) - 1) = (j : Int) := by rw [wrb _ (by omega) (by omega)]; omega
      by_cases hlt : l[j].f0.data.toList < l[j + 1].f0.data.toList
      · obtain ⟨r, h2, h3⟩ := docs0_from l hl d (j + 1 + 1) (by omega) hn' (fun q hq h => by
          rcases Nat.lt_succ_iff_lt_or_eq.1 h with h' | h'
          · exact hr q hq h'
          · obtain rfl : q = j := by omega
            exact hlt)
        refine ⟨r, Ev.step (h2.of_eq fun k => ?_), h3⟩
        rw [lecternref8_Docs.l0, if_pos (by omega), if_pos (by omega), rd36 l (j + 1) hi, if_neg (fun e => h0 ((ne_nil _).1 e)), if_neg h1, if_pos (by omega), hw, if_pos (by omega), if_pos (by omega), rd36 l j (by omega), less_is, decide_eq_true hlt, if_pos rfl, wrn (j + 1) (by omega)]
      · refine ⟨1, Ev.step ((Ev.pure _).of_eq fun k => ?_), fun e => absurd e (by decide)⟩
        rw [lecternref8_Docs.l0, if_pos (by omega), if_pos (by omega), rd36 l (j + 1) hi, if_neg (fun e => h0 ((ne_nil _).1 e)), if_neg h1, if_pos (by omega), hw, if_pos (by omega), if_pos (by omega), rd36 l j (by omega), less_is, decide_eq_false hlt, if_neg (by decide)]
theorem docs_is (l : List S36) (hl : l.length ≤ 1000000000000000) : ∃ r : Int, Ev (fun k => lecternref8_Docs.f k l) r ∧ (r = 0 → DocsOk l) :=
  docs0_from l hl l.length 0 (by omega) (fun j _ h => absurd h (Nat.not_lt_zero _)) (fun j _ h => absurd h (Nat.not_lt_zero _))
theorem name_is (a : ByteArray) : segment_Name.f a = some (decide (1 ≤ a.size ∧ a.size ≤ 64)) := by
  unfold segment_Name.f
  by_cases h : a.size = 0
  · rw [if_pos ((ne_nil a).2 h), decide_eq_false (by omega)]
  · rw [if_neg (fun e => h ((ne_nil a).1 e))]
    congr 1
    exact decide_eq_decide.2 ⟨fun h2 => ⟨by omega, by omega⟩, fun h2 => by omega⟩
theorem check_from (l : List S36) (h : DocsOk l) : ∀ d i, i + d = l.length → ∀ n : Nat, n + szL (l.drop i) ≤ 16384 → Ev (fun k => segment_Check.l0 k l false (n : Int) l (l.length : Int) (i : Int)) 0
  | 0, i, hd => fun n hn => Ev.step ((Ev.pure _).of_eq fun k => by
      rw [segment_Check.l0, if_neg (by omega), if_neg (by decide), if_neg (by omega)])
  | d + 1, i, hd => fun n hn => by
    have hi : i < l.length := by omega
    have hl := h.few
    rw [szL_drop l i hi] at hn
    have hnm := h.nm _ (List.getElem_mem hi)
    have htx := h.tx _ (List.getElem_mem hi)
    have ih := check_from l h d (i + 1) (by omega) (n + l[i].f1.size) (by omega)
    have j1 : Ev (fun k => segment_Check.j1 k l false (n : Int) l (l.length : Int) (i : Int) false l[i].f0 l[i].f1) 0 := Ev.step (ih.of_eq fun k => by
      rw [segment_Check.j1, if_neg (by decide), if_neg (by decide), if_neg (by omega), if_neg (by omega), decide_eq_false (by omega), wrn i (by omega), wrb _ (by omega) (by omega)]
      rfl)
    rcases Nat.eq_zero_or_pos i with hz | hp
    · subst hz
      refine Ev.step (j1.of_eq fun k => ?_)
      rw [segment_Check.l0, if_pos (by omega), if_pos (by omega), if_pos (by omega), rd36 l 0 hi, name_is, decide_eq_true hnm]
      simp only [Option.bind_some, if_true]
      rw [if_neg (by omega)]
    · obtain ⟨j, rfl⟩ : ∃ j, i = j + 1 := ⟨i - 1, by omega⟩
      have hw : wrap64 (((j + 1 : Nat) : Int) - 1) = (j : Int) := by rw [wrb _ (by omega) (by omega)]; omega
      have hlt := rise_at h.rise j (j + 1) (by omega) hi
      refine Ev.step (j1.of_eq fun k => ?_)
      rw [segment_Check.l0, if_pos (by omega), if_pos (by omega), if_pos (by omega), rd36 l (j + 1) hi, name_is, decide_eq_true hnm]
      simp only [Option.bind_some, if_true]
      rw [if_pos (by omega), hw, if_pos (by omega), if_pos (by omega), rd36 l j (by omega), less_is, decide_eq_true hlt]
      rfl
theorem check_is (l : List S36) (h : DocsOk l) : Ev (fun k => segment_Check.f k l) 0 := by
  have := h.few
  refine (check_from l h l.length 0 (by omega) 0 (by have := h.tot; simpa using this)).of_eq fun k => ?_
  rw [segment_Check.f, decide_eq_false (by omega)]
  rfl
/-! ### is it heavy? -/
theorem weight_from (l : List S36) (hl : l.length ≤ 1000000000000000) : ∀ d i, i + d = l.length → ∀ n : Int, ∃ r, Ev (fun k => lecternlaw0_DocWeight.l0 k l n (i : Int)) r
  | 0, i, hd => fun n => ⟨n, Ev.step ((Ev.pure _).of_eq fun k => by rw [lecternlaw0_DocWeight.l0, if_neg (by omega)])⟩
  | d + 1, i, hd => fun n => by
    by_cases h : n < 1048576
    · obtain ⟨r, ih⟩ := weight_from l hl d (i + 1) (by omega) (wrap64 ((wrap64 (n + (((rd_T36 l (i : Int)).f0).size : Int))) + (((rd_T36 l (i : Int)).f1).size : Int)))
      exact ⟨r, Ev.step (ih.of_eq fun k => by rw [lecternlaw0_DocWeight.l0, if_pos (by omega), if_pos h, if_pos (by omega), wrn i (by omega)])⟩
    · exact ⟨n, Ev.step ((Ev.pure _).of_eq fun k => by rw [lecternlaw0_DocWeight.l0, if_pos (by omega), if_neg h])⟩
/-! ### adding -/
end Go.Proofs.YtpeldaogdeefeaaGreat.M
