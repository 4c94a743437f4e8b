/- SessionCloses: the law's function returns true. -/
import Derived.Test.YtcacckaonjnmjaaSLawC
import Derived.Test.YtcacckaonjnmjaaSPureEQ
import Derived.Test.YtcacckaonjnmjaaSOpen25
import Derived.Test.YtcacckaonjnmjaaSx46
namespace Go.Proofs.Ytcacckaonjnmjaa.S
open Go.RowKit Go.Proofs.YtcacckaonjnmjaaW.PrintWords Go.Proofs.YtcacckaonjnmjaaW.PrintLast Go.Proofs.YtcacckaonjnmjaaW.PrintMore Go.Proofs.Ytcacckaonjnmjaa.Opening
set_option linter.unusedVariables false
set_option linter.unusedSimpArgs false
/-! ### Opens, Dones, Closes -/
theorem only_j4 (S : List S88) (L : List S33) (v : List S88 × Int) (m : Int) (i : Nat) (hi : i ≤ 1000000000000000) (hv : v.1.length ≤ 1000000000) (hh : noHits v.1) (ih : Ev (fun k => lecternlaw14_only.l0 k m ((i + 1 : Nat) : Int) S L) true) : Ev (fun k => lecternlaw14_only.j4 k m (i : Int) v.1 v.2 v.1 v.2 S L) true := by
  refine Ev.step ?_
  refine Ev.of_eq (g := fun k => (lecternref0_EqSessions.f k v.1 v.1).bind fun t => lecternlaw14_only.j5 k m (i : Int) (!t) S L) (Ev.bind (g := fun k t => lecternlaw14_only.j5 k m (i : Int) (!t) S L) (eqSessions_is _ hv (noHits_ok hh)) ?_) (fun k => by rw [lecternlaw14_only.j4]; simp only [lecternlaw14_num.f, Option.bind_some, if_true])
  exact Ev.step (ih.of_eq fun k => by rw [lecternlaw14_only.j5, if_neg (by decide), wrn i hi])
theorem only_l0 (S : List S88) (L : List S33) (hm : mayP S) (hL : L.length ≤ 1000000000000000) : ∀ d i, i + d = L.length → Ev (fun k => lecternlaw14_only.l0 k 2 (i : Int) S L) true
  | 0, i, hd => by
    refine Ev.step ?_
    refine Ev.of_eq (g := fun k => lecternlaw14_only.j2 k 2 (i : Int) false S L) (Ev.step ?_) (fun k => by rw [lecternlaw14_only.l0, if_neg (by omega)])
    exact Ev.of_eq (g := fun k => (lecternlaw14_wakes.f k).bind fun t => some t) (Ev.bind (g := fun _ t => some t) wakes_is (Ev.pure _)) (fun k => by rw [lecternlaw14_only.j2, if_neg (by decide)])
  | d + 1, i, hd => by
    have ih := only_l0 S L hm hL d (i + 1) (by omega)
    have hi : i ≤ 1000000000000000 := by omega
    have hl := hm.2
    refine Ev.step ?_
    refine Ev.of_eq (g := fun k => lecternlaw14_only.j2 k 2 (i : Int) (decide ((i : Int) < 20)) S L) (Ev.step ?_) (fun k => by rw [lecternlaw14_only.l0, if_pos (by omega)])
    by_cases h20 : (i : Int) < 20
    · rw [decide_eq_true h20]
      have h1 : (0 : Int) ≤ (i : Int) := by omega
      have h2 : (i : Int) < (L.length : Int) := by omega
      simp only [lecternlaw14_only.j2, if_true, h1, h2]
      simp only [show ¬ ((2 : Int) = 0) by decide, show ¬ ((2 : Int) = 1) by decide, if_false]
      refine Ev.bind (refClose_is hm _) ?_
      refine Ev.bind (close_may hm _) ?_
      refine only_j4 S L (closeV S _) 2 i hi ?_ ?_ ih
      · unfold closeV
        split
        · exact Nat.le_trans (List.eraseIdx_sublist _ _).length_le (by omega)
        · exact Nat.zero_le _
      · unfold closeV
        split
        · exact noHits_sub (noHits_may hm) (fun x hx => List.mem_of_mem_eraseIdx hx)
        · exact fun x hx => absurd hx (List.not_mem_nil)
    · rw [decide_eq_false h20]
      exact Ev.of_eq (g := fun k => (lecternlaw14_wakes.f k).bind fun t => some t) (Ev.bind (g := fun _ t => some t) wakes_is (Ev.pure _)) (fun k => by rw [lecternlaw14_only.j2, if_neg (by decide)])
theorem only_is (S : List S88) (L : List S33) (hS : S.length ≤ 1000000000000000) (hL : L.length ≤ 1000000000000000) : Ev (fun k => lecternlaw14_only.f k S L 2) true := by
  obtain ⟨b, hb⟩ := heavy_is S L hS hL
  refine Ev.bind hb ?_
  have skip : Ev (fun k => lecternlaw14_only.j0 k 2 true S L) true := Ev.step ((Ev.pure _).of_eq fun k => by rw [lecternlaw14_only.j0, if_pos rfl])
  cases b with
  | true => exact skip.of_eq fun k => if_pos rfl
  | false =>
    by_cases hm : mayP S
    · refine Ev.of_eq (Ev.bind (g := fun k t => lecternlaw14_only.j0 k 2 (!t) S L) (refMay_yes hm) ?_) (fun k => if_neg (by decide))
      exact Ev.step ((only_l0 S L hm hL L.length 0 (by omega)).of_eq fun k => by rw [lecternlaw14_only.j0, if_neg (by decide)]; rfl)
    · exact Ev.of_eq (Ev.bind (g := fun k t => lecternlaw14_only.j0 k 2 (!t) S L) (refMay_no hm) skip) (fun k => if_neg (by decide))
theorem closes_walk (x : S25) (cs : List Value) (w : World) (hk : k25.K w x cs) (ok : ok25 x) :
    Calls Try.prog 6 #[.agg ⟨cs⟩] w fun e w' => e = .returned (.bool true) ∧ Below w.heap.size w w' := by
  have hl := lens25 x ok
  obtain ⟨L, l⟩ := x
  obtain ⟨c0, c1, rfl, ⟨A0, n0, rfl, h0, hC0⟩, ⟨A1, n1, rfl, h1, hC1⟩⟩ := hk
  have hE : Ev (fun k => lecternlaw14_SessionCloses.f k L l) true := Ev.bind (g := fun _ t => some t) (only_is L l hl.1 hl.2) (Ev.pure _)
  obtain ⟨k, h⟩ := hE
  exact lecternlaw14_SessionCloses.calls k A0 n0 L A1 n1 l true w hC0 h0 hC1 h1 (h k (Nat.le_refl _))
end Go.Proofs.Ytcacckaonjnmjaa.S
