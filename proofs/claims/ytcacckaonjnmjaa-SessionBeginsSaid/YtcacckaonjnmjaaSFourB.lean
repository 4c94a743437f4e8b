/- SessionBegins: the law's function returns true. -/
import Derived.Test.YtcacckaonjnmjaaSLawB
import Derived.Test.YtcacckaonjnmjaaSOpen25
import Derived.Test.YtcacckaonjnmjaaSx29
namespace Go.Proofs.Ytcacckaonjnmjaa.S
open Go.RowKit Go.Proofs.YtcacckaonjnmjaaW.PrintWords Go.Proofs.YtcacckaonjnmjaaW.PrintLast Go.Proofs.YtcacckaonjnmjaaW.PrintMore Go.Proofs.Ytcacckaonjnmjaa.Opening
set_option linter.unusedVariables false
set_option linter.unusedSimpArgs false
/-! ### Begins -/
theorem begins_l0 (S : List S88) (L : List S33) (hm : mayP S) (hL : L.length ≤ 1000000000000000) : ∀ d i, i + d = L.length → Ev (fun k => lecternlaw14_SessionBegins.l0 k (i : Int) S L) true
  | 0, i, hd => by
    refine Ev.step ?_
    refine Ev.of_eq (g := fun k => lecternlaw14_SessionBegins.j2 k (i : Int) false S L) (Ev.step ?_) (fun k => by rw [lecternlaw14_SessionBegins.l0, if_neg (by omega)])
    refine Ev.of_eq (g := fun k => (lecternlaw14_wakes.f k).bind fun t => some t) (Ev.bind (g := fun _ t => some t) wakes_is (Ev.pure _)) (fun k => by rw [lecternlaw14_SessionBegins.j2, if_neg (by decide)])
  | d + 1, i, hd => by
    have ih := begins_l0 S L hm hL d (i + 1) (by omega)
    refine Ev.step ?_
    refine Ev.of_eq (g := fun k => lecternlaw14_SessionBegins.j2 k (i : Int) (decide ((i : Int) < 20)) S L) (Ev.step ?_) (fun k => by rw [lecternlaw14_SessionBegins.l0, if_pos (by omega)])
    by_cases h20 : (i : Int) < 20
    · rw [decide_eq_true h20]
      have h1 : (0 : Int) ≤ (i : Int) := by omega
      have h2 : (i : Int) < (L.length : Int) := by omega
      simp only [lecternlaw14_SessionBegins.j2, if_true, h1, h2]
      refine Ev.bind (begin_may hm _ _) ?_
      refine Ev.bind (refBegin_is hm _ _) ?_
      have hnil : (beginV S (rd_T33 L (i : Int)).f1 (rd_T33 L (i : Int)).f2).2.2.1 = [] := by
        unfold beginV
        repeat' split
        all_goals rfl
      simp only [lecternlaw14_num.f, Option.bind_some, if_true, bne_self_eq_false, hnil]
      refine Ev.bind (eqReply_is _ _ [] (Nat.zero_le _)) ?_
      refine Ev.step (ih.of_eq fun k => ?_)
      rw [lecternlaw14_SessionBegins.j3, if_neg (by decide), wrn i (by omega)]
    · rw [decide_eq_false h20]
      exact Ev.of_eq (g := fun k => (lecternlaw14_wakes.f k).bind fun t => some t) (Ev.bind (g := fun _ t => some t) wakes_is (Ev.pure _)) (fun k => by rw [lecternlaw14_SessionBegins.j2, if_neg (by decide)])
theorem begins_is (S : List S88) (L : List S33) (hS : S.length ≤ 1000000000000000) (hL : L.length ≤ 1000000000000000) : Ev (fun k => lecternlaw14_SessionBegins.f k S L) true := by
  obtain ⟨b, hb⟩ := heavy_is S L hS hL
  refine Ev.bind hb ?_
  have skip : Ev (fun k => lecternlaw14_SessionBegins.j0 k true S L) true := Ev.step ((Ev.pure _).of_eq fun k => by rw [lecternlaw14_SessionBegins.j0, if_pos rfl])
  cases b with
  | true => exact skip.of_eq fun k => if_pos rfl
  | false =>
    by_cases hm : mayP S
    · refine Ev.of_eq (Ev.bind (g := fun k t => lecternlaw14_SessionBegins.j0 k (!t) S L) (refMay_yes hm) ?_) (fun k => if_neg (by decide))
      exact Ev.step ((begins_l0 S L hm hL L.length 0 (by omega)).of_eq fun k => by rw [lecternlaw14_SessionBegins.j0, if_neg (by decide)]; rfl)
    · exact Ev.of_eq (Ev.bind (g := fun k t => lecternlaw14_SessionBegins.j0 k (!t) S L) (refMay_no hm) skip) (fun k => if_neg (by decide))
theorem begins_walk (x : S25) (cs : List Value) (w : World) (hk : k25.K w x cs) (ok : ok25 x) :
    Calls Try.prog 3 #[.agg ⟨cs⟩] w fun e w' => e = .returned (.bool true) ∧ Below w.heap.size w w' := by
  have hl := lens25 x ok
  obtain ⟨L, l⟩ := x
  obtain ⟨c0, c1, rfl, ⟨A0, n0, rfl, h0, hC0⟩, ⟨A1, n1, rfl, h1, hC1⟩⟩ := hk
  have hE : Ev (fun k => lecternlaw14_SessionBegins.f k L l) true := begins_is L l hl.1 hl.2
  obtain ⟨k, h⟩ := hE
  exact lecternlaw14_SessionBegins.calls k A0 n0 L A1 n1 l true w hC0 h0 hC1 h1 (h k (Nat.le_refl _))
end Go.Proofs.Ytcacckaonjnmjaa.S
