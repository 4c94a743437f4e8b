/- Sessions in plain Lean: Open answers; the laws' guards. -/
import Derived.Test.YtcacckaonjnmjaaSPureA
import Derived.Test.YtcacckaonjnmjaaSx2
import Derived.Test.YtcacckaonjnmjaaSx11
import Derived.Test.YtcacckaonjnmjaaSxA
import Derived.Test.YtcacckaonjnmjaaSx27
import Derived.Test.YtcacckaonjnmjaaSx28
namespace Go.Proofs.Ytcacckaonjnmjaa.S
open Go.RowKit Go.Proofs.YtcacckaonjnmjaaW.PrintWords Go.Proofs.YtcacckaonjnmjaaW.PrintLast Go.Proofs.YtcacckaonjnmjaaW.PrintMore
set_option linter.unusedVariables false
set_option linter.unusedSimpArgs false
def noHits (l : List S88) : Prop := ∀ x ∈ l, x.f2.f2 = []
theorem noHits_map (l : List S88) : noHits (l.map clr) := fun x hx => by
  obtain ⟨y, _, rfl⟩ := List.mem_map.1 hx
  rfl
theorem noHits_may {l : List S88} (h : mayP l) : noHits l := by rw [← mayP_clr h]; exact noHits_map l
theorem noHits_sub {l m : List S88} (h : noHits l) (hs : ∀ x ∈ m, x ∈ l) : noHits m := fun x hx => h x (hs x hx)
theorem noHits_append {l m : List S88} (h : noHits l) (h2 : noHits m) : noHits (l ++ m) := fun x hx => (List.mem_append.1 hx).elim (h x) (h2 x)
theorem noHits_cut (l : List S88) : noHits (openCut l) := by
  unfold openCut
  split
  · exact noHits_sub (noHits_map (l.map clr)) (fun x hx => List.mem_of_mem_eraseIdx hx)
  · exact noHits_map l
theorem noHits_fresh (a : Int) : noHits [fresh88 a] := fun x hx => by rw [List.mem_singleton.1 hx]; rfl
theorem noHits_open (l : List S88) (a : Int) : noHits (openTo l a) :=
  noHits_append (noHits_append (noHits_sub (noHits_cut l) (fun x hx => List.mem_of_mem_take hx)) (noHits_fresh a)) (noHits_sub (noHits_cut l) (fun x hx => List.mem_of_mem_drop hx))
theorem open_len {l : List S88} {a : Int} (hl : l.length ≤ 8) : (openTo l a).length ≤ 9 := by
  have := cut_len hl
  unfold openTo
  rw [List.length_append, List.length_append, List.length_take, List.length_drop, List.length_singleton]
  omega
/-! ### the layer -/
def anyS (l : List S88) (a : Int) : Bool := l.any (fun x => x.f0 == a)
def openV (l : List S88) (a : Int) : List S88 × Int := if numB a 1 = true then (if anyS l a = true then ([], 1) else (openTo l a, 0)) else ([], 1)
theorem open_may {l : List S88} (h : mayP l) (a : Int) : Ev (fun k => session_Open.f k l a) (openV l a) := by
  refine Ev.bind (may_yes h) ((Ev.pure (openV l a)).of_eq fun k => ?_)
  unfold openV numB anyS
  rw [if_pos rfl]
  by_cases h1 : 1 ≤ a ∧ a < 1099511627776
  · rw [if_pos h1, decide_eq_true h1, if_pos ⟨mayP_rise h, h.2⟩, if_pos rfl]
    split <;> rfl
  · rw [if_neg h1, decide_eq_false h1]; rfl
theorem open_not {l : List S88} (hl : l.length ≤ 1000000000000000) (h : ¬ mayP l) (a : Int) : Ev (fun k => session_Open.f k l a) ([], 1) :=
  Ev.bind (may_no hl h) ((Ev.pure (([], 1) : List S88 × Int)).of_eq fun k => by rw [if_neg (by decide)])
theorem find_f {l : List S88} (h : mayP l) (a : Int) : session_find.f l a = some ((placeS l a : Int), anyS l a) := by
  unfold session_find.f
  rw [if_pos ⟨mayP_rise h, by have := h.2; omega⟩]
  rfl
/-! ### the reference -/
theorem findV_neg (l : List S88) (a : Int) : decide (findV l a < 0) = !anyS l a := by
  unfold findV anyS
  by_cases h : l.any (fun x => x.f0 == a) = true
  · rw [if_pos h, h, decide_eq_false (by omega)]; rfl
  · rw [if_neg h, Bool.eq_false_iff.2 h]; rfl
theorem findV_yes {l : List S88} {a : Int} (h : anyS l a = true) : findV l a = (placeS l a : Int) := if_pos h
theorem findV_no {l : List S88} {a : Int} (h : ¬ anyS l a = true) : findV l a = -1 := if_neg h
theorem heavy_l1 (S : List S88) (L : List S33) (hL : L.length ≤ 1000000000000000) : ∀ d i, i + d = L.length → ∀ n : Int, ∃ b, Ev (fun k => lecternlaw14_heavy.l1 k n (i : Int) S L) b
  | 0, i, hd => fun n => by
    refine ⟨if n > 500 then true else decide ((L.length : Int) > 200), Ev.step (Ev.step ((Ev.pure _).of_eq fun k => ?_))⟩
    rw [lecternlaw14_heavy.l1, if_neg (by omega), lecternlaw14_heavy.j3, if_neg (by decide)]
    split <;> rfl
  | d + 1, i, hd => fun n => by
    by_cases hn : n < 5000
    · obtain ⟨b, ih⟩ := heavy_l1 S L hL d (i + 1) (by omega) (wrap64 (n + ((rd_T33 L (i : Int)).f4.f2.length : Int)))
      refine ⟨b, Ev.step (Ev.step (ih.of_eq fun k => ?_))⟩
      rw [lecternlaw14_heavy.l1, if_pos (by omega), decide_eq_true hn, lecternlaw14_heavy.j3, if_pos rfl, if_pos (by omega), if_pos (by omega), wrn i (by omega)]
    · refine ⟨if n > 500 then true else decide ((L.length : Int) > 200), Ev.step (Ev.step ((Ev.pure _).of_eq fun k => ?_))⟩
      rw [lecternlaw14_heavy.l1, if_pos (by omega), decide_eq_false hn, lecternlaw14_heavy.j3, if_neg (by decide)]
      split <;> rfl
theorem heavy_l0 (S : List S88) (L : List S33) (hS : S.length ≤ 1000000000000000) (hL : L.length ≤ 1000000000000000) : ∀ d i, i + d = S.length → ∀ n : Int, ∃ b, Ev (fun k => lecternlaw14_heavy.l0 k n (i : Int) S L) b
  | 0, i, hd => fun n => by
    obtain ⟨b, h⟩ := heavy_l1 S L hL L.length 0 (by omega) n
    refine ⟨b, Ev.step (Ev.step (h.of_eq fun k => ?_))⟩
    rw [lecternlaw14_heavy.l0, if_neg (by omega), lecternlaw14_heavy.j1, if_neg (by decide)]
    rfl
  | d + 1, i, hd => fun n => by
    by_cases hn : n < 5000
    · obtain ⟨b, ih⟩ := heavy_l0 S L hS hL d (i + 1) (by omega) (wrap64 (n + ((rd_T88 S (i : Int)).f2.f2.length : Int)))
      refine ⟨b, Ev.step (Ev.step (ih.of_eq fun k => ?_))⟩
      rw [lecternlaw14_heavy.l0, if_pos (by omega), decide_eq_true hn, lecternlaw14_heavy.j1, if_pos rfl, if_pos (by omega), if_pos (by omega), wrn i (by omega)]
    · obtain ⟨b, h⟩ := heavy_l1 S L hL L.length 0 (by omega) n
      refine ⟨b, Ev.step (Ev.step (h.of_eq fun k => ?_))⟩
      rw [lecternlaw14_heavy.l0, if_pos (by omega), decide_eq_false hn, lecternlaw14_heavy.j1, if_neg (by decide)]
      rfl
theorem heavy_is (S : List S88) (L : List S33) (hS : S.length ≤ 1000000000000000) (hL : L.length ≤ 1000000000000000) : ∃ b, Ev (fun k => lecternlaw14_heavy.f k S L) b := heavy_l0 S L hS hL S.length 0 (by omega) _
theorem mayP_nil : mayP [] := ⟨fun j _ h => absurd h (Nat.not_lt_zero j), Nat.zero_le _⟩
theorem wakes_is : Ev (fun k => lecternlaw14_wakes.f k) true :=
  Ev.bind (open_may mayP_nil 3) ((Ev.pure true).of_eq fun k => rfl)
end Go.Proofs.Ytcacckaonjnmjaa.S
