/- Sessions: rows of one's own (SPureE, SPureQ). -/
import Derived.Test.YtcacckaonjnmjaaSPureA
import Derived.Test.YtcacckaonjnmjaaSx17
import Derived.Test.YtcacckaonjnmjaaSx37
import Derived.Test.YtcacckaonjnmjaaSx33
/-! SPureE -/
namespace Go.Proofs.Ytcacckaonjnmjaa.S
open Go.RowKit Go.Proofs.YtcacckaonjnmjaaW.PrintWords Go.Proofs.YtcacckaonjnmjaaW.PrintLast Go.Proofs.YtcacckaonjnmjaaW.PrintMore
set_option linter.unusedVariables false
set_option linter.unusedSimpArgs false
/-! ### copies, comparisons -/
theorem copyHits_l0 (l : List S116) (hl : l.length ≤ 1000000000) : ∀ d i, i + d = l.length → Ev (fun k => lecternref0_CopyHits.l0 k l (l.take i) (i : Int)) l
  | 0, i, hd => by
    refine Ev.step ((Ev.pure l).of_eq fun k => ?_)
    rw [lecternref0_CopyHits.l0, if_neg (by omega), List.take_of_length_le (by omega)]
  | d + 1, i, hd => by
    have ih := copyHits_l0 l hl d (i + 1) (by omega)
    have h1 : (l.take i).length ≤ l.length := by rw [List.length_take]; omega
    have h2 : l.take (i + 1) = l.take i ++ [l[i]] := List.take_succ_eq_append_getElem (by omega)
    have h3 : rd_T116 l (i : Int) = l[i] := by
      unfold rd_T116
      rw [Int.toNat_natCast, List.getD_eq_getElem?_getD, List.getElem?_eq_getElem (by omega), Option.getD_some]
    refine Ev.step (ih.of_eq fun k => ?_)
    rw [lecternref0_CopyHits.l0, if_pos (by omega), if_pos (by omega), if_pos (by omega), wrn i (by omega), h3, ← h2]
theorem copyHits_is (l : List S116) (hl : l.length ≤ 1000000000) : Ev (fun k => lecternref0_CopyHits.f k l) l := copyHits_l0 l hl l.length 0 (by omega)
theorem copyReply_is (a b : Int) (l : List S116) (hl : l.length ≤ 1000000000) : Ev (fun k => lecternref0_CopyReply.f k a b l) (a, b, l) := Ev.bind (g := fun _ t => some (a, b, t)) (copyHits_is l hl) (Ev.pure _)
def hitsOk (l : List S88) : Prop := ∀ x ∈ l, x.f2.f2.length ≤ 1000000000
theorem copySession_is (x : S88) (hx : x.f2.f2.length ≤ 1000000000) : Ev (fun k => lecternref0_CopySession.f k x.f0 x.f1 x.f2.f0 x.f2.f1 x.f2.f2 x.f3) (x.f0, x.f1, x.f2.f0, x.f2.f1, x.f2.f2, x.f3) :=
  Ev.bind (g := fun _ (t : Int × Int × List S116) => some (x.f0, x.f1, t.1, t.2.1, t.2.2, x.f3)) (copyReply_is x.f2.f0 x.f2.f1 x.f2.f2 hx) (Ev.pure _)
theorem copySessions_l0 (l : List S88) (hl : l.length ≤ 1000000000) (hh : hitsOk l) : ∀ d i, i + d = l.length → Ev (fun k => lecternref0_CopySessions.l0 k l (l.take i) (i : Int)) l
  | 0, i, hd => by
    refine Ev.step ((Ev.pure l).of_eq fun k => ?_)
    rw [lecternref0_CopySessions.l0, if_neg (by omega), List.take_of_length_le (by omega)]
  | d + 1, i, hd => by
    have ih := copySessions_l0 l hl hh d (i + 1) (by omega)
    have h1 : (l.take i).length ≤ l.length := by rw [List.length_take]; omega
    have h2 : l.take (i + 1) = l.take i ++ [l[i]] := List.take_succ_eq_append_getElem (by omega)
    refine Ev.step ?_
    refine Ev.of_eq (g := fun k => (lecternref0_CopySession.f k l[i].f0 l[i].f1 l[i].f2.f0 l[i].f2.f1 l[i].f2.f2 l[i].f3).bind fun t => lecternref0_CopySessions.l0 k l (l.take i ++ [⟨t.1, t.2.1, ⟨t.2.2.1, t.2.2.2.1, t.2.2.2.2.1⟩, t.2.2.2.2.2⟩]) ((i + 1 : Nat) : Int)) ?_ (fun k => ?_)
    · refine Ev.bind (g := fun k t => lecternref0_CopySessions.l0 k l (l.take i ++ [⟨t.1, t.2.1, ⟨t.2.2.1, t.2.2.2.1, t.2.2.2.2.1⟩, t.2.2.2.2.2⟩]) ((i + 1 : Nat) : Int)) (copySession_is l[i] (hh _ (List.getElem_mem _))) ?_
      rw [h2] at ih
      exact ih
    · rw [lecternref0_CopySessions.l0, if_pos (by omega), if_pos (by omega), wrn i (by omega), rd88_at l i (by omega)]
      have hlt : (l.take i).length < 2199023255552 := by omega
      simp only [hlt, if_true]
theorem copySessions_is (l : List S88) (hl : l.length ≤ 1000000000) (hh : hitsOk l) : Ev (fun k => lecternref0_CopySessions.f k l) l := copySessions_l0 l hl hh l.length 0 (by omega)
theorem eqHits_l0 (l : List S116) (hl : l.length ≤ 1000000000) : ∀ d i, i + d = l.length → Ev (fun k => lecternref0_EqHits.l0 k l l (i : Int)) true
  | 0, i, hd => by
    refine Ev.step ((Ev.pure true).of_eq fun k => ?_)
    rw [lecternref0_EqHits.l0, if_neg (by omega)]
  | d + 1, i, hd => by
    have ih := eqHits_l0 l hl d (i + 1) (by omega)
    refine Ev.step (ih.of_eq fun k => ?_)
    rw [lecternref0_EqHits.l0, if_pos (by omega), if_pos (by omega), if_pos (by omega), if_neg (by simp), wrn i (by omega)]
theorem eqHits_is (l : List S116) (hl : l.length ≤ 1000000000) : Ev (fun k => lecternref0_EqHits.f k l l) true :=
  (eqHits_l0 l hl l.length 0 (by omega)).of_eq fun k => by unfold lecternref0_EqHits.f; rw [if_pos rfl]; rfl
theorem eqReply_is (a b : Int) (l : List S116) (hl : l.length ≤ 1000000000) : Ev (fun k => lecternref0_EqReply.f k a b l a b l) true :=
  (Ev.bind (g := fun _ t => some t) (eqHits_is l hl) (Ev.pure true)).of_eq fun k => by unfold lecternref0_EqReply.f; rw [if_pos rfl, if_pos rfl]
end Go.Proofs.Ytcacckaonjnmjaa.S
/-! SPureQ -/
namespace Go.Proofs.Ytcacckaonjnmjaa.S
open Go.RowKit Go.Proofs.YtcacckaonjnmjaaW.PrintWords Go.Proofs.YtcacckaonjnmjaaW.PrintLast Go.Proofs.YtcacckaonjnmjaaW.PrintMore
set_option linter.unusedVariables false
set_option linter.unusedSimpArgs false
theorem eqSession_is (x : S88) (hx : x.f2.f2.length ≤ 1000000000) : Ev (fun k => lecternref0_EqSession.f k x.f0 x.f1 x.f2.f0 x.f2.f1 x.f2.f2 x.f3 x.f0 x.f1 x.f2.f0 x.f2.f1 x.f2.f2 x.f3) true :=
  (Ev.bind (g := fun _ t => if t = true then some (x.f3 == x.f3) else some false) (eqReply_is x.f2.f0 x.f2.f1 x.f2.f2 hx) ((Ev.pure true).of_eq fun k => by rw [if_pos rfl, beq_self_eq_true])).of_eq fun k => by unfold lecternref0_EqSession.f; rw [if_pos rfl, if_pos rfl]
theorem eqSessions_l0 (l : List S88) (hl : l.length ≤ 1000000000) (hh : hitsOk l) : ∀ d i, i + d = l.length → Ev (fun k => lecternref0_EqSessions.l0 k l l (i : Int)) true
  | 0, i, hd => by
    refine Ev.step ((Ev.pure true).of_eq fun k => ?_)
    rw [lecternref0_EqSessions.l0, if_neg (by omega)]
  | d + 1, i, hd => by
    have ih := eqSessions_l0 l hl hh d (i + 1) (by omega)
    refine Ev.step ?_
    refine Ev.of_eq (g := fun k => (lecternref0_EqSession.f k l[i].f0 l[i].f1 l[i].f2.f0 l[i].f2.f1 l[i].f2.f2 l[i].f3 l[i].f0 l[i].f1 l[i].f2.f0 l[i].f2.f1 l[i].f2.f2 l[i].f3).bind fun t => if t = true then lecternref0_EqSessions.l0 k l l ((i + 1 : Nat) : Int) else some false) ?_ (fun k => ?_)
    · refine Ev.bind (g := fun k t => if t = true then lecternref0_EqSessions.l0 k l l ((i + 1 : Nat) : Int) else some false) (eqSession_is l[i] (hh _ (List.getElem_mem _))) ?_
      exact ih.of_eq fun k => if_pos rfl
    · rw [lecternref0_EqSessions.l0, if_pos (by omega), if_pos (by omega), if_pos (by omega), wrn i (by omega), rd88_at l i (by omega)]
theorem eqSessions_is (l : List S88) (hl : l.length ≤ 1000000000) (hh : hitsOk l) : Ev (fun k => lecternref0_EqSessions.f k l l) true :=
  (eqSessions_l0 l hl hh l.length 0 (by omega)).of_eq fun k => by unfold lecternref0_EqSessions.f; rw [if_pos rfl]; rfl
end Go.Proofs.Ytcacckaonjnmjaa.S
