/- Sessions: rows of one's own (MOnA, MSLawN, MSPureEQ). -/
import Derived.Test.YtpeldaogdeefeaaGreatMx53
import Derived.Test.YtpeldaogdeefeaaGreatMG4
import Derived.Test.YtpeldaogdeefeaaGreatMG5
import Derived.Test.YtpeldaogdeefeaaGreatMG6
import Derived.Test.YtpeldaogdeefeaaGreatMx36
import Derived.Test.YtpeldaogdeefeaaGreatMx46
import Derived.Test.YtpeldaogdeefeaaGreatMx10
import Derived.Test.YtpeldaogdeefeaaGreatMx0
import Derived.Test.YtpeldaogdeefeaaGreatMG2
import Derived.Test.YtpeldaogdeefeaaGreatMG3
import Derived.Test.YtpeldaogdeefeaaGreatMx45
/-! MOnA -/
namespace Go.Proofs.YtpeldaogdeefeaaGreat.M
open Go.Proofs.YtpeldaogdeefeaaGreat.H Go.RowKit Go.Maps Go.Sort Go.Proofs.YtpeldaogdeefeaaGreatW.PrintWords Go.Proofs.YtpeldaogdeefeaaGreatW.PrintLast Go.Proofs.YtpeldaogdeefeaaGreatW.PrintMore Go.Proofs.YtpeldaogdeefeaaGreat.Base
set_option linter.unusedVariables false
set_option linter.unusedSimpArgs false
def EqS (j : Int) (l : List S36) (ss : List S140) : Prop := ∃ k, lecternref0_EqState.f k j l ss j l ss = some true
/-- What the plain law gives of a state that may be. -/
structure OnlyOk (ix : Int) (l : List S36) (ss : List S140) : Prop where
  docs : DocsOk l
  may : ∃ k, machine_May.f k ix l ss = some true
  len : ss.length ≤ 1000000
  noh : ss.map clr = ss
  copy : ∃ k, lecternref0_CopyState.f k ix l ss = some (ix, l, ss)
  opn : ∀ k, 1 ≤ k ∧ k < 1099511627776 → (∃ km kf rs, lecternref14_MayOpen.f km ss k = some false ∧ session_Open.f kf ss k = some (rs, 1)) ∨ (∃ km ko kf rs, lecternref14_MayOpen.f km ss k = some true ∧ lecternref14_Open.f ko ss k = some rs ∧ session_Open.f kf ss k = some (rs, 0) ∧ rs.map clr = rs ∧ rs.length ≤ 1000000 ∧ EqS k l rs)
  eqs : ∀ j, EqS j l ss
end Go.Proofs.YtpeldaogdeefeaaGreat.M
/-! MSLawN -/
namespace Go.Proofs.YtpeldaogdeefeaaGreat.M
open Go.RowKit Go.Proofs.YtpeldaogdeefeaaGreatW.PrintWords Go.Proofs.YtpeldaogdeefeaaGreatW.PrintLast Go.Proofs.YtpeldaogdeefeaaGreatW.PrintMore
set_option linter.unusedVariables false
set_option linter.unusedSimpArgs false
def noHits (l : List S140) : Prop := ∀ x ∈ l, x.f2.f2 = []
theorem noHits_map (l : List S140) : noHits (l.map clr) := fun x hx => by
  obtain ⟨y, _, rfl⟩ := List.mem_map.1 hx
  rfl
theorem noHits_may {l : List S140} (h : mayP l) : noHits l := by rw [← mayP_clr h]; exact noHits_map l
theorem noHits_sub {l m : List S140} (h : noHits l) (hs : ∀ x ∈ m, x ∈ l) : noHits m := fun x hx => h x (hs x hx)
theorem noHits_append {l m : List S140} (h : noHits l) (h2 : noHits m) : noHits (l ++ m) := fun x hx => (List.mem_append.1 hx).elim (h x) (h2 x)
theorem noHits_cut (l : List S140) : noHits (openCut l) := by
  unfold openCut
  split
  · exact noHits_sub (noHits_map (l.map clr)) (fun x hx => List.mem_of_mem_eraseIdx hx)
  · exact noHits_map l
theorem noHits_fresh (a : Int) : noHits [fresh88 a] := fun x hx => by rw [List.mem_singleton.1 hx]; rfl
theorem noHits_open (l : List S140) (a : Int) : noHits (openTo l a) :=
  noHits_append (noHits_append (noHits_sub (noHits_cut l) (fun x hx => List.mem_of_mem_take hx)) (noHits_fresh a)) (noHits_sub (noHits_cut l) (fun x hx => List.mem_of_mem_drop hx))
theorem open_len {l : List S140} {a : Int} (hl : l.length ≤ 8) : (openTo l a).length ≤ 9 := by
  have := cut_len hl
  unfold openTo
  rw [List.length_append, List.length_append, List.length_take, List.length_drop, List.length_singleton]
  omega
/-! ### the layer -/
def anyS (l : List S140) (a : Int) : Bool := l.any (fun x => x.f0 == a)
def openV (l : List S140) (a : Int) : List S140 × Int := if numB a 1 = true then (if anyS l a = true then ([], 1) else (openTo l a, 0)) else ([], 1)
theorem open_may {l : List S140} (h : mayP l) (a : Int) : Ev (fun k => session_Open.f k l a) (openV l a) := by
  refine Ev.bind (may_yes h) ((Ev.pure (openV l a)).of_eq fun k => ?_)
  unfold openV numB anyS
  rw [if_pos rfl]
  by_cases h1 : 1 ≤ a ∧ a < 1099511627776
  · rw [if_pos h1, decide_eq_true h1, if_pos ⟨mayP_rise h, h.2⟩, if_pos rfl]
    split <;> rfl
  · rw [if_neg h1, decide_eq_false h1]; rfl
/-! ### the reference -/
theorem findV_neg (l : List S140) (a : Int) : decide (findV l a < 0) = !anyS l a := by
  unfold findV anyS
  by_cases h : l.any (fun x => x.f0 == a) = true
  · rw [if_pos h, h, decide_eq_false (by omega)]; rfl
  · rw [if_neg h, Bool.eq_false_iff.2 h]; rfl
end Go.Proofs.YtpeldaogdeefeaaGreat.M
/-! MSPureEQ -/
namespace Go.Proofs.YtpeldaogdeefeaaGreat.M
open Go.RowKit Go.Proofs.YtpeldaogdeefeaaGreatW.PrintWords Go.Proofs.YtpeldaogdeefeaaGreatW.PrintLast Go.Proofs.YtpeldaogdeefeaaGreatW.PrintMore
set_option linter.unusedVariables false
set_option linter.unusedSimpArgs false
/-! ### copies, comparisons -/
theorem copyHits_l0 (l : List S53) (hl : l.length ≤ 1000000000) : ∀ d i, i + d = l.length → Ev (fun k => lecternref0_CopyHits.l0 k l (l.take i) (i : Int)) l
  | 0, i, hd => by
    refine Ev.step ((Ev.pure l).of_eq fun k => ?_)
    rw [lecternref0_CopyHits.l0, if_neg (by omega), List.take_of_length_le (by omega)]
  | d + 1, i, hd => by
    have ih := copyHits_l0 l hl d (i + 1) (by omega)
    have h1 : (l.take i).length ≤ l.length := by rw [List.length_take]; omega
    have h2 : l.take (i + 1) = l.take i ++ [l[i]] := List.take_succ_eq_append_getElem (by omega)
    have h3 : rd_T53 l (i : Int) = l[i] := by
      unfold rd_T53
      rw [Int.toNat_natCast, List.getD_eq_getElem?_getD, List.getElem?_eq_getElem (by omega), Option.getD_some]
    refine Ev.step (ih.of_eq fun k => ?_)
    rw [lecternref0_CopyHits.l0, if_pos (by omega), if_pos (by omega), if_pos (by omega), wrn i (by omega), h3, ← h2]
theorem copyHits_is (l : List S53) (hl : l.length ≤ 1000000000) : Ev (fun k => lecternref0_CopyHits.f k l) l := copyHits_l0 l hl l.length 0 (by omega)
theorem copyReply_is (a b : Int) (l : List S53) (hl : l.length ≤ 1000000000) : Ev (fun k => lecternref0_CopyReply.f k a b l) (a, b, l) := Ev.bind (g := fun _ t => some (a, b, t)) (copyHits_is l hl) (Ev.pure _)
def hitsOk (l : List S140) : Prop := ∀ x ∈ l, x.f2.f2.length ≤ 1000000000
theorem copySession_is (x : S140) (hx : x.f2.f2.length ≤ 1000000000) : Ev (fun k => lecternref0_CopySession.f k x.f0 x.f1 x.f2.f0 x.f2.f1 x.f2.f2 x.f3) (x.f0, x.f1, x.f2.f0, x.f2.f1, x.f2.f2, x.f3) :=
  Ev.bind (g := fun _ (t : Int × Int × List S53) => some (x.f0, x.f1, t.1, t.2.1, t.2.2, x.f3)) (copyReply_is x.f2.f0 x.f2.f1 x.f2.f2 hx) (Ev.pure _)
theorem copySessions_l0 (l : List S140) (hl : l.length ≤ 1000000000) (hh : hitsOk l) : ∀ d i, i + d = l.length → Ev (fun k => lecternref0_CopySessions.l0 k l (l.take i) (i : Int)) l
  | 0, i, hd => by
    refine Ev.step ((Ev.pure l).of_eq fun k => ?_)
    rw [lecternref0_CopySessions.l0, if_neg (by omega), List.take_of_length_le (by omega)]
  | d + 1, i, hd => by
    have ih := copySessions_l0 l hl hh d (i + 1) (by omega)
    have h1 : (l.take i).length ≤ l.length := by rw [List.length_take]; omega
    have h2 : l.take (i + 1) = l.take i ++ [l[i]] := List.take_succ_eq_append_getElem (by omega)
    refine Ev.step ?_
    refine Ev.of_eq (g := fun k => (lecternref0_CopySession.f k l[i].f0 l[i].f1 l[i].f2.f0 l[i].f2.f1 l[i].f2.f2 l[i].f3).bind fun t => lecternref0_CopySessions.l0 k l (l.take i ++ [⟨t.1, t.2.1, ⟨t.2.2.1, t.2.2.2.1, t.2.2.2.2.1⟩, t.2.2.2.2.2⟩]) ((i + 1 : Nat) : Int)) ?_ (fun k => ?_)
    · refine Ev.bind (g := fun k t => lecternref0_CopySessions.l0 k l (l.take i ++ [⟨t.1, t.2.1, ⟨t.2.2.1, t.2.2.2.1, t.2.2.2.2.1⟩, t.2.2.2.2.2⟩]) ((i + 1 : Nat) : Int)) (copySession_is l[i] (hh _ (List.getElem_mem _))) ?_
      rw [h2] at ih
      exact ih
    · rw [lecternref0_CopySessions.l0, if_pos (by omega), if_pos (by omega), wrn i (by omega), rd88_at l i (by omega)]
      have hlt : (l.take i).length < 2199023255552 := by omega
      simp only [hlt, if_true]
theorem copySessions_is (l : List S140) (hl : l.length ≤ 1000000000) (hh : hitsOk l) : Ev (fun k => lecternref0_CopySessions.f k l) l := copySessions_l0 l hl hh l.length 0 (by omega)
theorem eqHits_l0 (l : List S53) (hl : l.length ≤ 1000000000) : ∀ d i, i + d = l.length → Ev (fun k => lecternref0_EqHits.l0 k l l (i : Int)) true
  | 0, i, hd => by
    refine Ev.step ((Ev.pure true).of_eq fun k => ?_)
    rw [lecternref0_EqHits.l0, if_neg (by omega)]
  | d + 1, i, hd => by
    have ih := eqHits_l0 l hl d (i + 1) (by omega)
    refine Ev.step (ih.of_eq fun k => ?_)
    rw [lecternref0_EqHits.l0, if_pos (by omega), if_pos (by omega), if_pos (by omega), if_neg (by simp), wrn i (by omega)]
theorem eqHits_is (l : List S53) (hl : l.length ≤ 1000000000) : Ev (fun k => lecternref0_EqHits.f k l l) true :=
  (eqHits_l0 l hl l.length 0 (by omega)).of_eq fun k => by unfold lecternref0_EqHits.f; rw [if_pos rfl]; rfl
theorem eqReply_is (a b : Int) (l : List S53) (hl : l.length ≤ 1000000000) : Ev (fun k => lecternref0_EqReply.f k a b l a b l) true :=
  (Ev.bind (g := fun _ t => some t) (eqHits_is l hl) (Ev.pure true)).of_eq fun k => by unfold lecternref0_EqReply.f; rw [if_pos rfl, if_pos rfl]
end Go.Proofs.YtpeldaogdeefeaaGreat.M
/-! SPureQ -/
namespace Go.Proofs.YtpeldaogdeefeaaGreat.M
open Go.RowKit Go.Proofs.YtpeldaogdeefeaaGreatW.PrintWords Go.Proofs.YtpeldaogdeefeaaGreatW.PrintLast Go.Proofs.YtpeldaogdeefeaaGreatW.PrintMore
set_option linter.unusedVariables false
set_option linter.unusedSimpArgs false
theorem eqSession_is (x : S140) (hx : x.f2.f2.length ≤ 1000000000) : Ev (fun k => lecternref0_EqSession.f k x.f0 x.f1 x.f2.f0 x.f2.f1 x.f2.f2 x.f3 x.f0 x.f1 x.f2.f0 x.f2.f1 x.f2.f2 x.f3) true :=
  (Ev.bind (g := fun _ t => if t = true then some (x.f3 == x.f3) else some false) (eqReply_is x.f2.f0 x.f2.f1 x.f2.f2 hx) ((Ev.pure true).of_eq fun k => by rw [if_pos rfl, beq_self_eq_true])).of_eq fun k => by unfold lecternref0_EqSession.f; rw [if_pos rfl, if_pos rfl]
theorem eqSessions_l0 (l : List S140) (hl : l.length ≤ 1000000000) (hh : hitsOk l) : ∀ d i, i + d = l.length → Ev (fun k => lecternref0_EqSessions.l0 k l l (i : Int)) true
  | 0, i, hd => by
    refine Ev.step ((Ev.pure true).of_eq fun k => ?_)
    rw [lecternref0_EqSessions.l0, if_neg (by omega)]
  | d + 1, i, hd => by
    have ih := eqSessions_l0 l hl hh d (i + 1) (by omega)
    refine Ev.step ?_
    refine Ev.of_eq (g := fun k => (lecternref0_EqSession.f k l[i].f0 l[i].f1 l[i].f2.f0 l[i].f2.f1 l[i].f2.f2 l[i].f3 l[i].f0 l[i].f1 l[i].f2.f0 l[i].f2.f1 l[i].f2.f2 l[i].f3).bind fun t => if t = true then lecternref0_EqSessions.l0 k l l ((i + 1 : Nat) : Int) else some false) ?_ (fun k => ?_)
    · refine Ev.bind (g := fun k t => if t = true then lecternref0_EqSessions.l0 k l l ((i + 1 : Nat) : Int) else some false) (eqSession_is l[i] (hh _ (List.getElem_mem _))) ?_
      exact ih.of_eq fun k => if_pos rfl
    · rw [lecternref0_EqSessions.l0, if_pos (by omega), if_pos (by omega), if_pos (by omega), wrn i (by omega), rd88_at l i (by omega)]
theorem eqSessions_is (l : List S140) (hl : l.length ≤ 1000000000) (hh : hitsOk l) : Ev (fun k => lecternref0_EqSessions.f k l l) true :=
  (eqSessions_l0 l hl hh l.length 0 (by omega)).of_eq fun k => by unfold lecternref0_EqSessions.f; rw [if_pos rfl]; rfl
end Go.Proofs.YtpeldaogdeefeaaGreat.M
