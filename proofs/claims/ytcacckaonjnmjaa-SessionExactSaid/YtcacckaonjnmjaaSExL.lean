/- SessionExact: a script that isn't heavy has few hits. -/
import Derived.Test.YtcacckaonjnmjaaSExC
import Derived.Test.YtcacckaonjnmjaaSOpen25
namespace Go.Proofs.Ytcacckaonjnmjaa.S
open Go.RowKit Go.Proofs.YtcacckaonjnmjaaW.PrintWords Go.Proofs.YtcacckaonjnmjaaW.PrintLast Go.Proofs.YtcacckaonjnmjaaW.PrintMore Go.Proofs.Ytcacckaonjnmjaa.Opening
set_option linter.unusedVariables false
set_option linter.unusedSimpArgs false
theorem hl1 (S : List S88) (L : List S33) (hL : L.length ≤ 1000000000000000) (hh : ∀ j : Nat, j < L.length → (rd_T33 L (j : Int)).f4.f2.length ≤ 1000000000000000) : ∀ d i, i + d = L.length → ∀ n : Int, 0 ≤ n → n ≤ 2000000000000000 → ∃ b, Ev (fun k => lecternlaw14_heavy.l1 k n (i : Int) S L) b ∧ (b = false → n ≤ 500 ∧ ∀ j : Nat, i ≤ j → j < L.length → (rd_T33 L (j : Int)).f4.f2.length ≤ 500)
  | 0, i, hd => fun n h0 hn => by
    refine ⟨if n > 500 then true else decide ((L.length : Int) > 200), Ev.step (Ev.step ((Ev.pure _).of_eq fun k => ?_)), fun hb => ⟨?_, fun j hj hj2 => by omega⟩⟩
    · rw [lecternlaw14_heavy.l1, if_neg (by omega), lecternlaw14_heavy.j3, if_neg (by decide)]
      split <;> rfl
    · by_cases h5 : n > 500
      · rw [if_pos h5] at hb; exact absurd hb (by decide)
      · omega
  | d + 1, i, hd => fun n h0 hn => by
    by_cases h5 : n < 5000
    · have hi := hh i (by omega)
      obtain ⟨b, ih, hb⟩ := hl1 S L hL hh d (i + 1) (by omega) (n + ((rd_T33 L (i : Int)).f4.f2.length : Int)) (by omega) (by omega)
      have hw : wrap64 (n + ((rd_T33 L (i : Int)).f4.f2.length : Int)) = n + ((rd_T33 L (i : Int)).f4.f2.length : Int) := wr64 _ (by omega) (by omega)
      refine ⟨b, Ev.step (Ev.step (ih.of_eq fun k => ?_)), fun e => ?_⟩
      · rw [lecternlaw14_heavy.l1, if_pos (by omega), decide_eq_true h5, lecternlaw14_heavy.j3, if_pos rfl, if_pos (by omega), if_pos (by omega), wrn i (by omega), hw]
      · obtain ⟨h1, h2⟩ := hb e
        refine ⟨by omega, fun j hj hj2 => ?_⟩
        rcases Nat.lt_or_ge i j with h | h
        · exact h2 j (by omega) hj2
        · obtain rfl : j = i := by omega
          omega
    · refine ⟨if n > 500 then true else decide ((L.length : Int) > 200), Ev.step (Ev.step ((Ev.pure _).of_eq fun k => ?_)), fun hb => ?_⟩
      · rw [lecternlaw14_heavy.l1, if_pos (by omega), decide_eq_false h5, lecternlaw14_heavy.j3, if_neg (by decide)]
        split <;> rfl
      · rw [if_pos (by omega)] at hb; exact absurd hb (by decide)
theorem hl0 (S : List S88) (L : List S33) (hS : S.length ≤ 1000000000000000) (hL : L.length ≤ 1000000000000000) (hs : ∀ j : Nat, j < S.length → (rd_T88 S (j : Int)).f2.f2.length ≤ 1000000000000000) (hh : ∀ j : Nat, j < L.length → (rd_T33 L (j : Int)).f4.f2.length ≤ 1000000000000000) : ∀ d i, i + d = S.length → ∀ n : Int, 0 ≤ n → n ≤ 1000000000010000 → ∃ b, Ev (fun k => lecternlaw14_heavy.l0 k n (i : Int) S L) b ∧ (b = false → n ≤ 500 ∧ (∀ j : Nat, i ≤ j → j < S.length → (rd_T88 S (j : Int)).f2.f2.length ≤ 500) ∧ ∀ j : Nat, j < L.length → (rd_T33 L (j : Int)).f4.f2.length ≤ 500)
  | 0, i, hd => fun n h0 hn => by
    obtain ⟨b, h, hb⟩ := hl1 S L hL hh L.length 0 (by omega) n h0 (by omega)
    refine ⟨b, Ev.step (Ev.step (h.of_eq fun k => ?_)), fun e => ⟨(hb e).1, fun j hj hj2 => by omega, fun j hj => (hb e).2 j (Nat.zero_le j) hj⟩⟩
    rw [lecternlaw14_heavy.l0, if_neg (by omega), lecternlaw14_heavy.j1, if_neg (by decide)]
    rfl
  | d + 1, i, hd => fun n h0 hn => by
    by_cases h5 : n < 5000
    · have hi := hs i (by omega)
      obtain ⟨b, ih, hb⟩ := hl0 S L hS hL hs hh d (i + 1) (by omega) (n + ((rd_T88 S (i : Int)).f2.f2.length : Int)) (by omega) (by omega)
      have hw : wrap64 (n + ((rd_T88 S (i : Int)).f2.f2.length : Int)) = n + ((rd_T88 S (i : Int)).f2.f2.length : Int) := wr64 _ (by omega) (by omega)
      refine ⟨b, Ev.step (Ev.step (ih.of_eq fun k => ?_)), fun e => ?_⟩
      · rw [lecternlaw14_heavy.l0, if_pos (by omega), decide_eq_true h5, lecternlaw14_heavy.j1, if_pos rfl, if_pos (by omega), if_pos (by omega), wrn i (by omega), hw]
      · obtain ⟨h1, h2, h3⟩ := hb e
        refine ⟨by omega, fun j hj hj2 => ?_, h3⟩
        rcases Nat.lt_or_ge i j with h | h
        · exact h2 j (by omega) hj2
        · obtain rfl : j = i := by omega
          omega
    · obtain ⟨b, h, hb⟩ := hl1 S L hL hh L.length 0 (by omega) n h0 (by omega)
      refine ⟨b, Ev.step (Ev.step (h.of_eq fun k => ?_)), fun e => by have := (hb e).1; omega⟩
      rw [lecternlaw14_heavy.l0, if_pos (by omega), decide_eq_false h5, lecternlaw14_heavy.j1, if_neg (by decide)]
      rfl
theorem heavy_good (S : List S88) (L : List S33) (hS : S.length ≤ 1000000000000000) (hL : L.length ≤ 1000000000000000) (hs : ∀ x ∈ S, x.f2.f2.length ≤ 1000000000000000) (hh : ∀ x ∈ L, x.f4.f2.length ≤ 1000000000000000) :
    ∃ b, Ev (fun k => lecternlaw14_heavy.f k S L) b ∧ (b = false → Good S ∧ ∀ j : Nat, j < L.length → (rd_T33 L (j : Int)).f4.f2.length ≤ 500) := by
  have e88 : ∀ j : Nat, (h : j < S.length) → rd_T88 S (j : Int) = S[j] := fun j h => rd88_at S j h
  have e33 : ∀ j : Nat, (h : j < L.length) → rd_T33 L (j : Int) ∈ L := fun j h => by
    have : rd_T33 L (j : Int) = L[j] := by
      unfold rd_T33; rw [Int.toNat_natCast, List.getD_eq_getElem?_getD, List.getElem?_eq_getElem h]; rfl
    rw [this]; exact List.getElem_mem h
  by_cases hbig : (S.length : Int) ≤ 1000000000010000
  · obtain ⟨b, h, hb⟩ := hl0 S L hS hL (fun j hj => by rw [e88 j hj]; exact hs _ (List.getElem_mem hj)) (fun j hj => hh _ (e33 j hj)) S.length 0 (by omega) (S.length : Int) (by omega) hbig
    refine ⟨b, h, fun e => ?_⟩
    obtain ⟨h1, h2, h3⟩ := hb e
    refine ⟨⟨by omega, fun x hx => ?_⟩, h3⟩
    obtain ⟨j, hj, rfl⟩ := List.getElem_of_mem hx
    have := h2 j (Nat.zero_le j) hj
    rw [e88 j hj] at this
    omega
  · omega
end Go.Proofs.Ytcacckaonjnmjaa.S
