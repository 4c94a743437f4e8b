/- Done and the reference's. -/
import Derived.Test.YtcacckaonjnmjaaSLawR
import Derived.Test.YtcacckaonjnmjaaSPureEQ
import Derived.Test.YtcacckaonjnmjaaSx30
import Derived.Test.YtcacckaonjnmjaaSx38
namespace Go.Proofs.Ytcacckaonjnmjaa.S
open Go.RowKit Go.Proofs.YtcacckaonjnmjaaW.PrintWords Go.Proofs.YtcacckaonjnmjaaW.PrintLast Go.Proofs.YtcacckaonjnmjaaW.PrintMore
set_option linter.unusedVariables false
set_option linter.unusedSimpArgs false
theorem noHits_done (l : List S88) (a1 a2 r0 r1 a4 : Int) : noHits (doneTo l a1 a2 r0 r1 a4) := fun x hx => by
  rcases List.mem_or_eq_of_mem_set hx with hm | rfl
  · exact noHits_map l x hm
  · rfl
theorem done_len (l : List S88) (a1 a2 r0 r1 a4 : Int) : (doneTo l a1 a2 r0 r1 a4).length = l.length := by
  unfold doneTo
  rw [List.length_set, List.length_map]
def doneV (l : List S88) (a1 a2 r0 r1 : Int) (hs : List S116) (a4 : Int) : List S88 × Int := if numB a2 1 = true then (if numB a4 1 = true then (if replyB r0 r1 hs = true then (if anyS l a1 = true then (doneTo l a1 a2 r0 r1 a4, 0) else ([], 9)) else ([], 1)) else ([], 1)) else ([], 1)
theorem done_may {l : List S88} (h : mayP l) (a1 a2 r0 r1 : Int) (hs : List S116) (a4 : Int) : Ev (fun k => session_Done.f k l a1 a2 r0 r1 hs a4) (doneV l a1 a2 r0 r1 hs a4) := by
  refine Ev.bind (may_yes h) ((Ev.pure (doneV l a1 a2 r0 r1 hs a4)).of_eq fun k => ?_)
  unfold doneV numB anyS
  rw [if_pos rfl, reply_f, Option.bind_some]
  by_cases h1 : 1 ≤ a2 ∧ a2 < 1099511627776
  · rw [if_pos h1, decide_eq_true h1, if_pos rfl]
    by_cases h4 : 1 ≤ a4 ∧ a4 < 1099511627776
    · rw [if_pos h4, decide_eq_true h4, if_pos rfl]
      split
      · rw [if_pos ⟨mayP_rise h, h.2⟩]
        split <;> rfl
      · rfl
    · rw [if_neg h4, decide_eq_false h4]; rfl
  · rw [if_neg h1, decide_eq_false h1]; rfl
theorem done_not {l : List S88} (hl : l.length ≤ 1000000000000000) (h : ¬ mayP l) (a1 a2 r0 r1 : Int) (hs : List S116) (a4 : Int) : Ev (fun k => session_Done.f k l a1 a2 r0 r1 hs a4) ([], 1) :=
  Ev.bind (may_no hl h) ((Ev.pure (([], 1) : List S88 × Int)).of_eq fun k => by rw [if_neg (by decide)])
theorem rd_set (l : List S88) (p : Nat) (x : S88) (hp : p < l.length) : rd_T88 (l.set p x) (p : Int) = x := by
  rw [rd88_at _ p (by rw [List.length_set]; exact hp), List.getElem_set_self]
theorem refDone_is {l : List S88} (h : mayP l) (a1 a2 r0 r1 : Int) (hs : List S116) (a4 : Int) : Ev (fun k => lecternref14_Done.f k l a1 a2 r0 r1 hs a4) (doneV l a1 a2 r0 r1 hs a4) := by
  have hl := h.2
  refine Ev.of_eq (g := fun k => if numB a2 1 = true then (if numB a4 1 = true then lecternref14_Done.j0 k l a1 a2 a4 (!replyB r0 r1 hs) r0 r1 hs else lecternref14_Done.j0 k l a1 a2 a4 true r0 r1 hs) else lecternref14_Done.j0 k l a1 a2 a4 true r0 r1 hs) ?_ (fun k => by unfold lecternref14_Done.f; rw [id_f, id_f, MayReply_f]; rfl)
  unfold doneV
  have bad : Ev (fun k => lecternref14_Done.j0 k l a1 a2 a4 true r0 r1 hs) ([], 1) := Ev.step ((Ev.pure _).of_eq fun k => by rw [lecternref14_Done.j0, if_pos rfl])
  cases numB a2 1
  · exact bad
  cases numB a4 1
  · exact bad
  cases hrp : replyB r0 r1 hs
  · exact bad
  obtain rfl := replyB_nil hrp
  simp only [if_true, Bool.not_true]
  refine Ev.step ?_
  refine Ev.of_eq (g := fun k => (lecternref14_Find.f k l a1).bind fun t => if t < 0 then some (([] : List S88), 9) else ((lecternref0_CopySessions.f k l).bind fun m => ((lecternref0_CopyReply.f k r0 r1 []).bind fun q => (if 0 ≤ t then (if t < (m.length : Int) then some ((((m.set t.toNat ⟨(rd_T88 m t).f0, a2, (rd_T88 m t).f2, (rd_T88 m t).f3⟩).set t.toNat ⟨(rd_T88 (m.set t.toNat ⟨(rd_T88 m t).f0, a2, (rd_T88 m t).f2, (rd_T88 m t).f3⟩) t).f0, (rd_T88 (m.set t.toNat ⟨(rd_T88 m t).f0, a2, (rd_T88 m t).f2, (rd_T88 m t).f3⟩) t).f1, ⟨q.1, q.2.1, q.2.2⟩, (rd_T88 (m.set t.toNat ⟨(rd_T88 m t).f0, a2, (rd_T88 m t).f2, (rd_T88 m t).f3⟩) t).f3⟩).set t.toNat ⟨(rd_T88 ((m.set t.toNat ⟨(rd_T88 m t).f0, a2, (rd_T88 m t).f2, (rd_T88 m t).f3⟩).set t.toNat ⟨(rd_T88 (m.set t.toNat ⟨(rd_T88 m t).f0, a2, (rd_T88 m t).f2, (rd_T88 m t).f3⟩) t).f0, (rd_T88 (m.set t.toNat ⟨(rd_T88 m t).f0, a2, (rd_T88 m t).f2, (rd_T88 m t).f3⟩) t).f1, ⟨q.1, q.2.1, q.2.2⟩, (rd_T88 (m.set t.toNat ⟨(rd_T88 m t).f0, a2, (rd_T88 m t).f2, (rd_T88 m t).f3⟩) t).f3⟩) t).f0, (rd_T88 ((m.set t.toNat ⟨(rd_T88 m t).f0, a2, (rd_T88 m t).f2, (rd_T88 m t).f3⟩).set t.toNat ⟨(rd_T88 (m.set t.toNat ⟨(rd_T88 m t).f0, a2, (rd_T88 m t).f2, (rd_T88 m t).f3⟩) t).f0, (rd_T88 (m.set t.toNat ⟨(rd_T88 m t).f0, a2, (rd_T88 m t).f2, (rd_T88 m t).f3⟩) t).f1, ⟨q.1, q.2.1, q.2.2⟩, (rd_T88 (m.set t.toNat ⟨(rd_T88 m t).f0, a2, (rd_T88 m t).f2, (rd_T88 m t).f3⟩) t).f3⟩) t).f1, (rd_T88 ((m.set t.toNat ⟨(rd_T88 m t).f0, a2, (rd_T88 m t).f2, (rd_T88 m t).f3⟩).set t.toNat ⟨(rd_T88 (m.set t.toNat ⟨(rd_T88 m t).f0, a2, (rd_T88 m t).f2, (rd_T88 m t).f3⟩) t).f0, (rd_T88 (m.set t.toNat ⟨(rd_T88 m t).f0, a2, (rd_T88 m t).f2, (rd_T88 m t).f3⟩) t).f1, ⟨q.1, q.2.1, q.2.2⟩, (rd_T88 (m.set t.toNat ⟨(rd_T88 m t).f0, a2, (rd_T88 m t).f2, (rd_T88 m t).f3⟩) t).f3⟩) t).f2, a4⟩), 0) else none) else none)))) ?_ (fun k => by rw [lecternref14_Done.j0, if_neg (by decide)]; rfl)
  refine Ev.bind (find_is l a1 (by omega) (mayP_rise h)) ?_
  by_cases ha : anyS l a1 = true
  · have hp := placeS_lt ha
    rw [if_pos ha, findV_yes ha]
    have hn : ¬ ((placeS l a1 : Int) < 0) := by omega
    simp only [hn, if_false, Int.toNat_natCast]
    refine Ev.bind (copySessions_is l (by omega) (noHits_ok (noHits_may h))) ?_
    refine Ev.bind (copyReply_is r0 r1 [] (Nat.zero_le _)) ((Ev.pure _).of_eq fun k => ?_)
    have e : ∀ x, rd_T88 (l.set (placeS l a1) x) (placeS l a1 : Int) = x := fun x => rd_set l _ x hp
    rw [if_pos (by omega), if_pos (by omega)]
    simp only [List.set_set, e]
    unfold doneTo
    rw [mayP_clr h]
    rfl
  · rw [if_neg ha, findV_no ha]
    exact (Ev.pure _).of_eq fun k => by rw [if_pos (by decide)]
end Go.Proofs.Ytcacckaonjnmjaa.S
