/- SessionExact: what each call of a round tells, in closed form. -/
import Derived.Test.YtcacckaonjnmjaaSLawO
import Derived.Test.YtcacckaonjnmjaaSLawC
import Derived.Test.YtcacckaonjnmjaaSLawD2
import Derived.Test.YtcacckaonjnmjaaSLawB
import Derived.Test.YtcacckaonjnmjaaSPureEQ
import Derived.Test.YtcacckaonjnmjaaSxA
import Derived.Test.YtcacckaonjnmjaaSx50
import Derived.Test.YtcacckaonjnmjaaSxR27
import Derived.Test.YtcacckaonjnmjaaSxR30
import Derived.Test.YtcacckaonjnmjaaSxR31
import Derived.Test.YtcacckaonjnmjaaSSpoil
namespace Go.Proofs.Ytcacckaonjnmjaa.S
open Go.RowKit Go.Proofs.YtcacckaonjnmjaaW.PrintWords Go.Proofs.YtcacckaonjnmjaaW.PrintLast Go.Proofs.YtcacckaonjnmjaaW.PrintMore
set_option linter.unusedVariables false
set_option linter.unusedSimpArgs false
/-- Sessions that may be copied: not too many, none with too many hits. -/
def Good (S : List S88) : Prop := S.length ≤ 1000000 ∧ ∀ x ∈ S, x.f2.f2.length ≤ 1000000
theorem Good.ok {S : List S88} (h : Good S) : hitsOk S := fun x hx => by have := h.2 x hx; omega
theorem Good.len {S : List S88} (h : Good S) : S.length ≤ 1000000000 := by have := h.1; omega
theorem Good.len' {S : List S88} (h : Good S) : S.length ≤ 1000000000000000 := by have := h.1; omega
theorem Good.of {S : List S88} (h : noHits S) (hl : S.length ≤ 9) : Good S := ⟨by omega, fun x hx => by rw [h x hx]; exact Nat.zero_le _⟩
theorem Good.nil : Good [] := ⟨Nat.zero_le _, fun x hx => absurd hx List.not_mem_nil⟩
section
variable {S : List S88} {A : Option Addr} {c : Nat} {W : World}
theorem e26 (hg : Good S) (hC : Kd.C k88 W A S.length S) (hc : S.length ≤ c) : Calls Try.prog 26 #[.slice A S.length c] W fun e w' => ∃ A' c', e = .returned (.slice A' S.length c') ∧ S.length ≤ c' ∧ Kd.V k88 88 w' 0 (fun _ => True) (.slice A' S.length c') S ∧ Below W.heap.size W w' := by
  obtain ⟨k, h⟩ := copySessions_is S hg.len hg.ok
  refine (lecternref0_CopySessions.calls k A c S S W hC hc (h k (Nat.le_refl _))).mono ?_
  rintro e w' ⟨v, rfl, hr, hb⟩
  obtain ⟨A', c', rfl⟩ := Kd.S_slice hr
  exact ⟨A', c', rfl, (Kd.S_reads' hr).2.1, Kd.S_V hr, hb⟩
theorem V_C {B : Nat} {ok : Nat → Prop} (h : Kd.V k88 88 W B ok (.slice A S.length c) S) : Kd.C k88 W A S.length S := Kd.F_now (Kd.V_at h).2.2
theorem V_le {B : Nat} {ok : Nat → Prop} (h : Kd.V k88 88 W B ok (.slice A S.length c) S) : S.length ≤ c := (Kd.V_at h).2.1
theorem e14 (hm : mayP S) (hC : Kd.C k88 W A S.length S) (hc : S.length ≤ c) : Calls Try.prog 14 #[.slice A S.length c] W fun e w' => e = .returned (.bool true) ∧ Below W.heap.size W w' := by
  obtain ⟨k, h⟩ := refMay_yes hm
  exact lecternref14_May.calls k A c S true W hC hc (h k (Nat.le_refl _))
theorem e14n (hm : ¬ mayP S) (hC : Kd.C k88 W A S.length S) (hc : S.length ≤ c) : Calls Try.prog 14 #[.slice A S.length c] W fun e w' => e = .returned (.bool false) ∧ Below W.heap.size W w' := by
  obtain ⟨k, h⟩ := refMay_no hm
  exact lecternref14_May.calls k A c S false W hC hc (h k (Nat.le_refl _))
theorem e27 (hm : mayP S) (hC : Kd.C k88 W A S.length S) (hc : S.length ≤ c) : Calls Try.prog 27 #[.slice A S.length c] W fun e w' => e = .returned (.int .i64 0) ∧ Below W.heap.size W w' := by
  obtain ⟨k, h⟩ := Ev.bind (g := fun _ t => if t = true then some (0 : Int) else some 1) (may_yes hm) (Ev.pure 0)
  exact session_Check.calls k A c S 0 W hC hc (h k (Nat.le_refl _))
theorem e27n (hg : Good S) (hm : ¬ mayP S) (hC : Kd.C k88 W A S.length S) (hc : S.length ≤ c) : Calls Try.prog 27 #[.slice A S.length c] W fun e w' => e = .returned (.int .i64 1) ∧ Below W.heap.size W w' := by
  obtain ⟨k, h⟩ := Ev.bind (g := fun _ t => if t = true then some (0 : Int) else some 1) (may_no hg.len' hm) (Ev.pure 1)
  exact session_Check.calls k A c S 1 W hC hc (h k (Nat.le_refl _))
theorem e28 (hg : Good S) {A' : Option Addr} {c' : Nat} (hC : Kd.C k88 W A S.length S) (hc : S.length ≤ c) (hC' : Kd.C k88 W A' S.length S) (hc' : S.length ≤ c') : Calls Try.prog 28 #[.slice A S.length c, .slice A' S.length c'] W fun e w' => e = .returned (.bool true) ∧ Below W.heap.size W w' := by
  obtain ⟨k, h⟩ := eqSessions_is S hg.len hg.ok
  exact lecternref0_EqSessions.calls k A c S A' c' S true W hC hc hC' hc' (h k (Nat.le_refl _))
theorem e17 (a : Int) : Calls Try.prog 17 #[.int .i64 a] W fun e w' => e = .returned (.int .i64 a) ∧ Below W.heap.size W w' := by
  refine (lecternlaw14_num.calls a a W rfl).mono ?_
  rintro e w' ⟨rfl, ⟨n, rfl⟩⟩
  exact ⟨rfl, pw_below_drewN (Below.refl _ _) _⟩
theorem e21 (a d : Int) (hd : lecternlaw0_Within.f a 7 = some d) : Calls Try.prog 21 #[.int .i64 a, .int .i64 7] W fun e w' => e = .returned (.int .i64 d) ∧ Below W.heap.size W w' := by
  refine (lecternlaw0_Within.calls a 7 d W hd).mono ?_
  rintro e w' ⟨rfl, ⟨n, rfl⟩⟩
  exact ⟨rfl, pw_below_drewN (Below.refl _ _) _⟩
theorem e19 : Calls Try.prog 19 #[] W fun e w' => e = .returned (.bool true) ∧ Below W.heap.size W w' := by
  obtain ⟨k, h⟩ := wakes_is
  exact lecternlaw14_wakes.calls k true W (h k (Nat.le_refl _))
/-- What Begin tells. -/
theorem e15 (a q r1 r2 r5 : Int) (r3 : List S116) (r4 : Bool) (hE : Ev (fun k => session_Begin.f k S a q) (r1, r2, r3, r4, r5)) (hC : Kd.C k88 W A S.length S) (hc : S.length ≤ c) :
    Calls Try.prog 15 #[.slice A S.length c, .int .i64 a, .int .i64 q] W fun e w' => ∃ A3 c3, e = .returned (.tuple #[.agg #[.int .i64 r1, .int .i64 r2, .slice A3 r3.length c3], .bool r4, .int .i64 r5]) ∧ r3.length ≤ c3 ∧ Kd.C k116 w' A3 r3.length r3 ∧ Below W.heap.size W w' := by
  obtain ⟨k, h⟩ := hE
  refine (session_Begin.calls k A c S a q r1 r2 r3 r4 r5 W hC hc (h k (Nat.le_refl _))).mono ?_
  rintro e w' ⟨v, rfl, hr, hb⟩
  obtain ⟨A3, c3, rfl⟩ := Kd.R_slice hr
  exact ⟨A3, c3, rfl, (Kd.R_reads' hr).2.1, (Kd.R_reads' hr).2.2, hb⟩
theorem e16 (hm : mayP S) (a q r1 r2 r5 : Int) (r3 : List S116) (r4 : Bool) (hv : beginV S a q = (r1, r2, r3, r4, r5)) {B : Nat} (hV : Kd.V k88 88 W B (fun _ => True) (.slice A S.length c) S) :
    Calls Try.prog 16 #[.slice A S.length c, .int .i64 a, .int .i64 q] W fun e w' => ∃ A3 c3, e = .returned (.tuple #[.agg #[.int .i64 r1, .int .i64 r2, .slice A3 r3.length c3], .bool r4, .int .i64 r5]) ∧ r3.length ≤ c3 ∧ Kd.C k116 w' A3 r3.length r3 ∧ Below W.heap.size W w' := by
  obtain ⟨k, h⟩ := refBegin_is hm a q
  rw [hv] at h
  refine (lecternref14_Begin.calls k (fun _ => True) A c S a q r1 r2 r3 r4 r5 W hV (h k (Nat.le_refl _))).mono ?_
  rintro e w' ⟨v, rfl, hr, hb⟩
  obtain ⟨A3, c3, rfl⟩ := Kd.V_slice hr
  exact ⟨A3, c3, rfl, (Kd.V_at hr).2.1, Kd.F_now (Kd.V_at hr).2.2, hb⟩
theorem e18 (a b : Int) (l : List S116) (hl : l.length ≤ 1000000) {A A' : Option Addr} {c c' : Nat} (hC : Kd.C k116 W A l.length l) (hc : l.length ≤ c) (hC' : Kd.C k116 W A' l.length l) (hc' : l.length ≤ c') : Calls Try.prog 18 #[.agg #[.int .i64 a, .int .i64 b, .slice A l.length c], .agg #[.int .i64 a, .int .i64 b, .slice A' l.length c']] W fun e w' => e = .returned (.bool true) ∧ Below W.heap.size W w' := by
  obtain ⟨k, h⟩ := eqReply_is a b l (by omega)
  exact lecternref0_EqReply.calls k a b A c l a b A' c' l true W hC hc hC' hc' (h k (Nat.le_refl _))
theorem e29 (hm : mayP S) (a q r0 r1 : Int) (hs : List S116) (x : Int) (V : List S88) (b : Int) (hv : doneV S a q r0 r1 hs x = (V, b)) (hC : Kd.C k88 W A S.length S) (hc : S.length ≤ c) {A3 : Option Addr} {c3 : Nat} (hC3 : Kd.C k116 W A3 hs.length hs) (hc3 : hs.length ≤ c3) :
    Calls Try.prog 29 #[.slice A S.length c, .int .i64 a, .int .i64 q, .agg #[.int .i64 r0, .int .i64 r1, .slice A3 hs.length c3], .int .i64 x] W fun e w' => ∃ A' c', e = .returned (.tuple #[.slice A' V.length c', .int .i64 b]) ∧ V.length ≤ c' ∧ Kd.C k88 w' A' V.length V ∧ Below W.heap.size W w' := by
  obtain ⟨k, h⟩ := refDone_is hm a q r0 r1 hs x
  rw [hv] at h
  refine (lecternref14_Done.calls k A c S a q r0 r1 A3 c3 hs x V b W hC hc hC3 hc3 (h k (Nat.le_refl _))).mono ?_
  rintro e w' ⟨v, rfl, hr, hb⟩
  obtain ⟨A', c', rfl⟩ := Kd.S_slice hr
  exact ⟨A', c', rfl, (Kd.S_reads' hr).2.1, (Kd.S_reads' hr).2.2, hb⟩
theorem e30 (r0 r1 : Int) (hs : List S116) (hl : hs.length ≤ 1000000) {A3 : Option Addr} {c3 : Nat} (hC3 : Kd.C k116 W A3 hs.length hs) (hc3 : hs.length ≤ c3) :
    Calls Try.prog 30 #[.agg #[.int .i64 r0, .int .i64 r1, .slice A3 hs.length c3]] W fun e w' => ∃ A' c', e = .returned (.agg #[.int .i64 r0, .int .i64 r1, .slice A' hs.length c']) ∧ hs.length ≤ c' ∧ Kd.C k116 w' A' hs.length hs ∧ Below W.heap.size W w' := by
  obtain ⟨k, h⟩ := copyReply_is r0 r1 hs (by omega)
  refine (lecternref0_CopyReply.calls k r0 r1 A3 c3 hs r0 r1 hs W hC3 hc3 (h k (Nat.le_refl _))).mono ?_
  rintro e w' ⟨v, rfl, hr, hb⟩
  obtain ⟨A', c', rfl⟩ := Kd.R_slice hr
  exact ⟨A', c', rfl, (Kd.R_reads' hr).2.1, (Kd.R_reads' hr).2.2, hb⟩
/-- What lies in a row of kind kF is of the call's own, and is read. -/
theorem kF_rd {w' : World} {B : Nat} {v : Value} {V : List S88} (hr : Kd.R kF 88 w' B (fun _ => True) v V) : ∃ A' c', v = .slice A' V.length c' ∧ V.length ≤ c' ∧ Kd.C k88 w' A' V.length V := by
  obtain ⟨A', c', rfl⟩ := Kd.R_slice hr
  exact ⟨A', c', rfl, (Kd.R_reads' hr).2.1, kF_C (Kd.R_reads' hr).2.2⟩
theorem e23 (a q r0 r1 : Int) (hs : List S116) (x : Int) (V : List S88) (b : Int) (hE : Ev (fun k => session_Done.f k S a q r0 r1 hs x) (V, b)) (hC : Kd.C k88 W A S.length S) (hc : S.length ≤ c) {A3 : Option Addr} {c3 : Nat} (hC3 : Kd.C k116 W A3 hs.length hs) (hc3 : hs.length ≤ c3) :
    Calls Try.prog 23 #[.slice A S.length c, .int .i64 a, .int .i64 q, .agg #[.int .i64 r0, .int .i64 r1, .slice A3 hs.length c3], .int .i64 x] W fun e w' => ∃ A' c', e = .returned (.tuple #[.slice A' V.length c', .int .i64 b]) ∧ V.length ≤ c' ∧ Kd.C k88 w' A' V.length V ∧ Kd.R kF 88 w' W.heap.size (fun _ => True) (.slice A' V.length c') V ∧ Below W.heap.size W w' := by
  obtain ⟨k, h⟩ := hE
  refine (session_Done.callsR k A c S a q r0 r1 A3 c3 hs x V b W hC hc hC3 hc3 (h k (Nat.le_refl _))).mono ?_
  rintro e w' ⟨v, rfl, hr, hb⟩
  obtain ⟨A', c', rfl, h1, h2⟩ := kF_rd hr
  exact ⟨A', c', rfl, h1, h2, hr, hb⟩
theorem e31 (hm : mayP S) (a : Int) (V : List S88) (b : Int) (hv : closeV S a = (V, b)) {B : Nat} (hV : Kd.V k88 88 W B (fun _ => True) (.slice A S.length c) S) :
    Calls Try.prog 31 #[.slice A S.length c, .int .i64 a] W fun e w' => ∃ A' c', e = .returned (.tuple #[.slice A' V.length c', .int .i64 b]) ∧ V.length ≤ c' ∧ Kd.C k88 w' A' V.length V ∧ Below W.heap.size W w' := by
  obtain ⟨k, h⟩ := refClose_is hm a
  rw [hv] at h
  refine (lecternref14_Close.calls k (fun _ => True) A c S a V b W hV (h k (Nat.le_refl _))).mono ?_
  rintro e w' ⟨v, rfl, hr, hb⟩
  obtain ⟨A', c', rfl⟩ := Kd.N_slice hr
  exact ⟨A', c', rfl, (Kd.N_reads' hr).2.1, (Kd.N_reads' hr).2.2, hb⟩
theorem e25 (a : Int) (V : List S88) (b : Int) (hE : Ev (fun k => session_Close.f k S a) (V, b)) (hC : Kd.C k88 W A S.length S) (hc : S.length ≤ c) :
    Calls Try.prog 25 #[.slice A S.length c, .int .i64 a] W fun e w' => ∃ A' c', e = .returned (.tuple #[.slice A' V.length c', .int .i64 b]) ∧ V.length ≤ c' ∧ Kd.C k88 w' A' V.length V ∧ Kd.R kF 88 w' W.heap.size (fun _ => True) (.slice A' V.length c') V ∧ Below W.heap.size W w' := by
  obtain ⟨k, h⟩ := hE
  refine (session_Close.callsR k A c S a V b W hC hc (h k (Nat.le_refl _))).mono ?_
  rintro e w' ⟨v, rfl, hr, hb⟩
  obtain ⟨A', c', rfl, h1, h2⟩ := kF_rd hr
  exact ⟨A', c', rfl, h1, h2, hr, hb⟩
theorem e32 (hm : mayP S) (a : Int) (hC : Kd.C k88 W A S.length S) (hc : S.length ≤ c) : Calls Try.prog 32 #[.slice A S.length c, .int .i64 a] W fun e w' => e = .returned (.bool (numB a 1 && !anyS S a)) ∧ Below W.heap.size W w' := by
  obtain ⟨k, h⟩ := mayOpen_is hm a
  refine (lecternref14_MayOpen.calls k A c S a _ W hC hc (h k (Nat.le_refl _))).mono ?_
  rintro e w' ⟨rfl, ⟨n, rfl⟩⟩
  exact ⟨rfl, pw_below_drewN (Below.refl _ _) _⟩
theorem e33 (hm : mayP S) (a : Int) (hC : Kd.C k88 W A S.length S) (hc : S.length ≤ c) :
    Calls Try.prog 33 #[.slice A S.length c, .int .i64 a] W fun e w' => ∃ A' c', e = .returned (.slice A' (openTo S a).length c') ∧ (openTo S a).length ≤ c' ∧ Kd.C k88 w' A' (openTo S a).length (openTo S a) ∧ Below W.heap.size W w' := by
  obtain ⟨k, h⟩ := refOpen_is hm a
  refine (lecternref14_Open.calls k A c S a _ W hC hc (h k (Nat.le_refl _))).mono ?_
  rintro e w' ⟨v, rfl, hr, hb⟩
  obtain ⟨A', c', rfl⟩ := Kd.N_slice hr
  exact ⟨A', c', rfl, (Kd.N_reads' hr).2.1, (Kd.N_reads' hr).2.2, hb⟩
theorem e22 (a : Int) (V : List S88) (b : Int) (hE : Ev (fun k => session_Open.f k S a) (V, b)) (hC : Kd.C k88 W A S.length S) (hc : S.length ≤ c) :
    Calls Try.prog 22 #[.slice A S.length c, .int .i64 a] W fun e w' => ∃ A' c', e = .returned (.tuple #[.slice A' V.length c', .int .i64 b]) ∧ V.length ≤ c' ∧ Kd.C k88 w' A' V.length V ∧ Kd.R kF 88 w' W.heap.size (fun _ => True) (.slice A' V.length c') V ∧ Below W.heap.size W w' := by
  obtain ⟨k, h⟩ := hE
  refine (session_Open.callsR k A c S a V b W hC hc (h k (Nat.le_refl _))).mono ?_
  rintro e w' ⟨v, rfl, hr, hb⟩
  obtain ⟨A', c', rfl, h1, h2⟩ := kF_rd hr
  exact ⟨A', c', rfl, h1, h2, hr, hb⟩
theorem e34 (V : List S88) (B : Nat) (hl : V.length ≤ 1000000) (hB : B ≤ W.heap.size) (h : Kd.R kF 88 W B (fun _ => True) (.slice A V.length c) V) : Calls Try.prog 34 #[.slice A V.length c] W fun e w' => e = .returned (.tuple #[]) ∧ Below B W w' := sessions34 _ V B W hl hB h
end
/-! ### the state behind a round -/
theorem done_good {S : List S88} (hm : mayP S) (a q r0 r1 : Int) (hs : List S116) (x : Int) : Good (doneV S a q r0 r1 hs x).1 := by
  unfold doneV
  repeat' split
  all_goals first | exact Good.nil | exact Good.of (noHits_done _ _ _ _ _ _) (by show (doneTo _ _ _ _ _ _).length ≤ 9; rw [done_len]; have := hm.2; omega)
theorem close_good {S : List S88} (hm : mayP S) (a : Int) : Good (closeV S a).1 := by
  unfold closeV
  split
  · exact Good.of (noHits_sub (noHits_may hm) (fun x hx => List.mem_of_mem_eraseIdx hx)) (by have := hm.2; have := List.length_eraseIdx_le S (placeS S a); show (S.eraseIdx _).length ≤ 9; omega)
  · exact Good.nil
theorem open_good {S : List S88} (hm : mayP S) (a : Int) : Good (openTo S a) := Good.of (noHits_open S a) (open_len hm.2)
theorem begin_short {S : List S88} (hm : mayP S) (a q r1 r2 r5 : Int) (r3 : List S116) (r4 : Bool) (hv : beginV S a q = (r1, r2, r3, r4, r5)) : r3.length ≤ 1000000 := by
  have hp : beginV S a q = (r1, r2, r3, r4, r5) → r3.length ≤ 1000000 := by
    unfold beginV
    repeat' split
    all_goals (intro h; obtain ⟨rfl, rfl, rfl, rfl, rfl⟩ := h; first | exact Nat.zero_le _ | skip)
    all_goals
      have hn := noHits_may hm
      rename_i ha _ _
      have hp := placeS_lt ha
      rw [rd88_at S _ hp, hn _ (List.getElem_mem hp)]
      exact Nat.zero_le _
  exact hp hv
end Go.Proofs.Ytcacckaonjnmjaa.S
