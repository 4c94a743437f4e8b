/- Sessions: rows of one's own (MHvA, MShC). -/
import Derived.Test.YtpeldaogdeefeaaGreatMG8
import Derived.Test.YtpeldaogdeefeaaGreatOpen
import Derived.Test.YtpeldaogdeefeaaGreatMx40
import Derived.Test.YtpeldaogdeefeaaGreatMx0
import Derived.Test.YtpeldaogdeefeaaGreatMx36
import Derived.Test.YtpeldaogdeefeaaGreatMx53
/-! MHvA -/
namespace Go.Proofs.YtpeldaogdeefeaaGreat.M
open Go.Proofs.YtpeldaogdeefeaaGreat.Opening Go.Proofs.YtpeldaogdeefeaaGreat.H Go.RowKit Go.Maps Go.Sort Go.Proofs.YtpeldaogdeefeaaGreatW.PrintWords Go.Proofs.YtpeldaogdeefeaaGreatW.PrintLast Go.Proofs.YtpeldaogdeefeaaGreatW.PrintMore Go.Proofs.YtpeldaogdeefeaaGreat.Base
set_option linter.unusedVariables false
theorem sw_l1 (ix : Int) (l : List S36) (ss : List S140) (i : Nat) (hi : i < ss.length) (hs : ss.length ≤ 1000000000000000) (hh : (rd_T140 ss (i : Int)).f2.f2.length ≤ 1000000000000000) (H : ∀ n : Int, ∃ r, Ev (fun k => lecternlaw0_StateWeight.l0 k n ((i + 1 : Nat) : Int) ix l ss) r) :
    ∀ d j, j + d = (rd_T140 ss (i : Int)).f2.f2.length → ∀ n : Int, ∃ r, Ev (fun k => lecternlaw0_StateWeight.l1 k n (i : Int) (j : Int) ix l ss) r
  | 0, j, hd => fun n => by
    obtain ⟨r, hr⟩ := H n
    have h3 : Ev (fun k => lecternlaw0_StateWeight.j3 k n (i : Int) (j : Int) false ix l ss) r := Ev.step (hr.of_eq fun k => by rw [lecternlaw0_StateWeight.j3, if_neg (by decide), wrn i (by omega)])
    exact ⟨r, Ev.step (h3.of_eq fun k => by rw [lecternlaw0_StateWeight.l1, if_pos (by omega), if_pos (by omega), if_neg (by omega)])⟩
  | d + 1, j, hd => fun n => by
    by_cases hn : n < 1048576
    · obtain ⟨r, hr⟩ := sw_l1 ix l ss i hi hs hh H d (j + 1) (by omega) (wrap64 (n + (((rd_T53 ((rd_T140 ss (i : Int)).f2.f2) (j : Int)).f0).size : Int)))
      have h3 : Ev (fun k => lecternlaw0_StateWeight.j3 k n (i : Int) (j : Int) true ix l ss) r := Ev.step (hr.of_eq fun k => by rw [lecternlaw0_StateWeight.j3, if_pos rfl, if_pos (by omega), if_pos (by omega), if_pos (by omega), if_pos (by omega), wrn j (by omega)])
      exact ⟨r, Ev.step (h3.of_eq fun k => by rw [lecternlaw0_StateWeight.l1, if_pos (by omega), if_pos (by omega), if_pos (by omega), decide_eq_true hn])⟩
    · obtain ⟨r, hr⟩ := H n
      have h3 : Ev (fun k => lecternlaw0_StateWeight.j3 k n (i : Int) (j : Int) false ix l ss) r := Ev.step (hr.of_eq fun k => by rw [lecternlaw0_StateWeight.j3, if_neg (by decide), wrn i (by omega)])
      exact ⟨r, Ev.step (h3.of_eq fun k => by rw [lecternlaw0_StateWeight.l1, if_pos (by omega), if_pos (by omega), if_pos (by omega), decide_eq_false hn])⟩
theorem sw_l0 (ix : Int) (l : List S36) (ss : List S140) (hs : ss.length ≤ 1000000000000000) (hh : ∀ i, i < ss.length → (rd_T140 ss (i : Int)).f2.f2.length ≤ 1000000000000000) :
    ∀ d i, i + d = ss.length → ∀ n : Int, ∃ r, Ev (fun k => lecternlaw0_StateWeight.l0 k n (i : Int) ix l ss) r
  | 0, i, hd => fun n => by
    have h1 : Ev (fun k => lecternlaw0_StateWeight.j1 k n (i : Int) false ix l ss) n := Ev.step ((Ev.pure _).of_eq fun k => by rw [lecternlaw0_StateWeight.j1, if_neg (by decide)])
    exact ⟨n, Ev.step (h1.of_eq fun k => by rw [lecternlaw0_StateWeight.l0, if_neg (by omega)])⟩
  | d + 1, i, hd => fun n => by
    by_cases hn : n < 1048576
    · obtain ⟨r, hr⟩ := sw_l1 ix l ss i (by omega) hs (hh i (by omega)) (sw_l0 ix l ss hs hh d (i + 1) (by omega)) (rd_T140 ss (i : Int)).f2.f2.length 0 (by omega) (wrap64 (n + (((rd_T140 ss (i : Int)).f2.f2).length : Int)))
      have h1 : Ev (fun k => lecternlaw0_StateWeight.j1 k n (i : Int) true ix l ss) r := Ev.step (hr.of_eq fun k => by rw [lecternlaw0_StateWeight.j1, if_pos rfl, if_pos (by omega), if_pos (by omega)]; rfl)
      exact ⟨r, Ev.step (h1.of_eq fun k => by rw [lecternlaw0_StateWeight.l0, if_pos (by omega), decide_eq_true hn])⟩
    · have h1 : Ev (fun k => lecternlaw0_StateWeight.j1 k n (i : Int) false ix l ss) n := Ev.step ((Ev.pure _).of_eq fun k => by rw [lecternlaw0_StateWeight.j1, if_neg (by decide)])
      exact ⟨n, Ev.step (h1.of_eq fun k => by rw [lecternlaw0_StateWeight.l0, if_pos (by omega), decide_eq_false hn])⟩
def ok36 (x : S36) : Prop := x.f0.size ≤ 140737488351232 ∧ (x.f1.size ≤ 140737488351232)
theorem opens_36 : Opens Tryz.prog 36 k36 ok36 :=
  opens_struct (fun x : S36 => (x.f0, x.f1)) (fun p => ⟨p.1, p.2⟩) (fun _ => rfl) Tryz.underlying36 (by kernel_rfl)
    (show OpensFs Tryz.prog [9, 9] _ _ from (opens_cons (opens_string Tryz.underlying9 (by kernel_rfl)) (opens_last (opens_string Tryz.underlying9 (by kernel_rfl)))))
def ok53 (x : S53) : Prop := x.f0.size ≤ 140737488351232 ∧ ((Lit.int .i64 x.f1).wf = true)
theorem opens_53 : Opens Tryz.prog 53 k53 ok53 :=
  opens_struct (fun x : S53 => (x.f0, x.f1)) (fun p => ⟨p.1, p.2⟩) (fun _ => rfl) Tryz.underlying53 (by kernel_rfl)
    (show OpensFs Tryz.prog [9, 3] _ _ from (opens_cons (opens_string Tryz.underlying9 (by kernel_rfl)) (opens_last (opens_int Tryz.underlying3 (by kernel_rfl)))))
def ok70 (x : S70) : Prop := (Lit.int .i64 x.f0).wf = true ∧ ((Lit.int .i64 x.f1).wf = true ∧ ((x.f2.length * 24 ≤ 140737488351232 ∧ ∀ y53 ∈ x.f2, ok53 y53)))
theorem opens_70 : Opens Tryz.prog 70 k70 ok70 :=
  opens_struct (fun x : S70 => (x.f0, x.f1, x.f2)) (fun p => ⟨p.1, p.2.1, p.2.2⟩) (fun _ => rfl) Tryz.underlying70 (by kernel_rfl)
    (show OpensFs Tryz.prog [29, 3, 43] _ _ from (opens_cons (opens_int Tryz.underlying29 (by kernel_rfl)) (opens_cons (opens_int Tryz.underlying3 (by kernel_rfl)) (opens_last (opens_slice Tryz.underlying43 (by kernel_rfl) (by kernel_rfl) opens_53)))))
def ok140 (x : S140) : Prop := (Lit.int .i64 x.f0).wf = true ∧ ((Lit.int .i64 x.f1).wf = true ∧ (ok70 x.f2 ∧ ((Lit.int .i64 x.f3).wf = true)))
theorem opens_140 : Opens Tryz.prog 140 k140 ok140 :=
  opens_struct (fun x : S140 => (x.f0, x.f1, x.f2, x.f3)) (fun p => ⟨p.1, p.2.1, p.2.2.1, p.2.2.2⟩) (fun _ => rfl) Tryz.underlying140 (by kernel_rfl)
    (show OpensFs Tryz.prog [3, 3, 70, 3] _ _ from (opens_cons (opens_int Tryz.underlying3 (by kernel_rfl)) (opens_cons (opens_int Tryz.underlying3 (by kernel_rfl)) (opens_cons opens_70 (opens_last (opens_int Tryz.underlying3 (by kernel_rfl)))))))
structure S60 where
  f0 : Int
  f1 : List S36
  f2 : List S140
def k60 : Kd S60 := Kd.iso (Kd.pair (Kd.int .i64) (Kd.pair (Kd.slice 36 k36) (Kd.slice 140 k140))) (fun x : S60 => (x.f0, x.f1, x.f2))
def ok60 (x : S60) : Prop := (Lit.int .i64 x.f0).wf = true ∧ ((x.f1.length * 32 ≤ 140737488351232 ∧ ∀ y36 ∈ x.f1, ok36 y36) ∧ ((x.f2.length * 64 ≤ 140737488351232 ∧ ∀ y140 ∈ x.f2, ok140 y140)))
theorem opens_60 : Opens Tryz.prog 60 k60 ok60 :=
  opens_struct (fun x : S60 => (x.f0, x.f1, x.f2)) (fun p => ⟨p.1, p.2.1, p.2.2⟩) (fun _ => rfl) Tryz.underlying60 (by kernel_rfl)
    (show OpensFs Tryz.prog [3, 22, 58] _ _ from (opens_cons (opens_int Tryz.underlying3 (by kernel_rfl)) (opens_cons (opens_slice Tryz.underlying22 (by kernel_rfl) (by kernel_rfl) opens_36) (opens_last (opens_slice Tryz.underlying58 (by kernel_rfl) (by kernel_rfl) opens_140)))))
def ok73 (x : S73) : Prop := (Lit.int .i64 x.f0).wf = true ∧ ((Lit.int .i64 x.f1).wf = true ∧ ((Lit.int .i64 x.f2).wf = true ∧ (x.f3.size ≤ 140737488351232 ∧ (x.f4.size ≤ 140737488351232))))
theorem opens_73 : Opens Tryz.prog 73 k73 ok73 :=
  opens_struct (fun x : S73 => (x.f0, x.f1, x.f2, x.f3, x.f4)) (fun p => ⟨p.1, p.2.1, p.2.2.1, p.2.2.2.1, p.2.2.2.2⟩) (fun _ => rfl) Tryz.underlying73 (by kernel_rfl)
    (show OpensFs Tryz.prog [3, 3, 3, 9, 9] _ _ from (opens_cons (opens_int Tryz.underlying3 (by kernel_rfl)) (opens_cons (opens_int Tryz.underlying3 (by kernel_rfl)) (opens_cons (opens_int Tryz.underlying3 (by kernel_rfl)) (opens_cons (opens_string Tryz.underlying9 (by kernel_rfl)) (opens_last (opens_string Tryz.underlying9 (by kernel_rfl))))))))
def ok75 (x : S75) : Prop := (Lit.int .i64 x.f0).wf = true ∧ ((Lit.int .i64 x.f1).wf = true ∧ (True ∧ (ok73 x.f3 ∧ (x.f4.size ≤ 140737488351232 ∧ ((Lit.int .i64 x.f5).wf = true)))))
theorem opens_75 : Opens Tryz.prog 75 k75 ok75 :=
  opens_struct (fun x : S75 => (x.f0, x.f1, x.f2, x.f3, x.f4, x.f5)) (fun p => ⟨p.1, p.2.1, p.2.2.1, p.2.2.2.1, p.2.2.2.2.1, p.2.2.2.2.2⟩) (fun _ => rfl) Tryz.underlying75 (by kernel_rfl)
    (show OpensFs Tryz.prog [3, 3, 4, 73, 9, 3] _ _ from (opens_cons (opens_int Tryz.underlying3 (by kernel_rfl)) (opens_cons (opens_int Tryz.underlying3 (by kernel_rfl)) (opens_cons (opens_bool Tryz.underlying4 (by kernel_rfl)) (opens_cons opens_73 (opens_cons (opens_string Tryz.underlying9 (by kernel_rfl)) (opens_last (opens_int Tryz.underlying3 (by kernel_rfl)))))))))
structure S63 where
  f0 : S60
  f1 : List S75
def k63 : Kd S63 := Kd.iso (Kd.pair k60 (Kd.slice 75 k75)) (fun x : S63 => (x.f0, x.f1))
def ok63 (x : S63) : Prop := ok60 x.f0 ∧ ((x.f1.length * 104 ≤ 140737488351232 ∧ ∀ y75 ∈ x.f1, ok75 y75))
theorem opens_63 : Opens Tryz.prog 63 k63 ok63 :=
  opens_struct (fun x : S63 => (x.f0, x.f1)) (fun p => ⟨p.1, p.2⟩) (fun _ => rfl) Tryz.underlying63 (by kernel_rfl)
    (show OpensFs Tryz.prog [60, 61] _ _ from (opens_cons opens_60 (opens_last (opens_slice Tryz.underlying61 (by kernel_rfl) (by kernel_rfl) opens_75))))

theorem hv_end (ix : Int) (l : List S36) (ss : List S140) (L : List S75) (hl : l.length ≤ 1000000000000000) (hs : ss.length ≤ 1000000000000000) (hh : ∀ i, i < ss.length → (rd_T140 ss (i : Int)).f2.f2.length ≤ 1000000000000000) (n i : Int) : ∃ b, Ev (fun k => lecternlaw15_Heavy.j1 k n i false ix l ss L) b := by
  obtain ⟨r, hr⟩ := weight_from l hl l.length 0 (by omega) (l.length : Int)
  obtain ⟨t, ht⟩ := sw_l0 ix l ss hs hh ss.length 0 (by omega) (wrap64 (r + (ss.length : Int)))
  have h1 : Ev (fun k => lecternlaw0_StateWeight.f k ix l ss) t := Ev.bind (f := fun k => lecternlaw0_DocWeight.f k l) hr ht
  obtain ⟨b, hb⟩ : ∃ b, (if n > 12000 then (some true) else (if t > 3000 then (if t < 20000 then (some true) else (if t > 60000 then (some true) else (if (L.length : Int) > 200 then (some true) else (some (decide ((ss.length : Int) > 50)))))) else (if t > 60000 then (some true) else (if (L.length : Int) > 200 then (some true) else (some (decide ((ss.length : Int) > 50))))))) = some b := by
    repeat' split
    all_goals exact ⟨_, rfl⟩
  refine ⟨b, Ev.step (Ev.of_eq (Ev.bind (g := fun _ t167 => (if n > 12000 then (some true) else (if t167 > 3000 then (if t167 < 20000 then (some true) else (if t167 > 60000 then (some true) else (if (L.length : Int) > 200 then (some true) else (some (decide ((ss.length : Int) > 50)))))) else (if t167 > 60000 then (some true) else (if (L.length : Int) > 200 then (some true) else (some (decide ((ss.length : Int) > 50)))))))) h1 ⟨0, fun _ _ => hb⟩) fun k => ?_)⟩
  rw [lecternlaw15_Heavy.j1, if_neg (by decide)]
theorem hv_l0 (ix : Int) (l : List S36) (ss : List S140) (L : List S75) (hl : l.length ≤ 1000000000000000) (hs : ss.length ≤ 1000000000000000) (hL : L.length ≤ 1000000000000000) (hh : ∀ i, i < ss.length → (rd_T140 ss (i : Int)).f2.f2.length ≤ 1000000000000000) :
    ∀ d i, i + d = L.length → ∀ n : Int, ∃ b, Ev (fun k => lecternlaw15_Heavy.l0 k n (i : Int) ix l ss L) b
  | 0, i, hd => fun n => by
    obtain ⟨b, hb⟩ := hv_end ix l ss L hl hs hh n (i : Int)
    exact ⟨b, Ev.step (hb.of_eq fun k => by rw [lecternlaw15_Heavy.l0, if_neg (by omega)])⟩
  | d + 1, i, hd => fun n => by
    by_cases hn : n < 1048576
    · obtain ⟨r, hr⟩ := hv_l0 ix l ss L hl hs hL hh d (i + 1) (by omega) (wrap64 ((wrap64 ((wrap64 (n + (((rd_T75 L (i : Int)).f3.f4).size : Int))) + (((rd_T75 L (i : Int)).f3.f3).size : Int))) + (((rd_T75 L (i : Int)).f4).size : Int)))
      have h1 : Ev (fun k => lecternlaw15_Heavy.j1 k n (i : Int) true ix l ss L) r := Ev.step (hr.of_eq fun k => by rw [lecternlaw15_Heavy.j1, if_pos rfl, if_pos (by omega), if_pos (by omega), wrn i (by omega)])
      exact ⟨r, Ev.step (h1.of_eq fun k => by rw [lecternlaw15_Heavy.l0, if_pos (by omega), decide_eq_true hn])⟩
    · obtain ⟨b, hb⟩ := hv_end ix l ss L hl hs hh n (i : Int)
      exact ⟨b, Ev.step (hb.of_eq fun k => by rw [lecternlaw15_Heavy.l0, if_pos (by omega), decide_eq_false hn])⟩
end Go.Proofs.YtpeldaogdeefeaaGreat.M
/-! MShC -/
namespace Go.Proofs.YtpeldaogdeefeaaGreat.M
open Go.Proofs.YtpeldaogdeefeaaGreat.H Go.RowKit Go.Maps Go.Sort Go.Proofs.YtpeldaogdeefeaaGreatW.PrintWords Go.Proofs.YtpeldaogdeefeaaGreatW.PrintLast Go.Proofs.YtpeldaogdeefeaaGreatW.PrintMore Go.Proofs.YtpeldaogdeefeaaGreat.Base
set_option linter.unusedVariables false
set_option linter.unusedSimpArgs false
theorem state_may (ix : Int) (l : List S36) (ss : List S140) (hl : l.length ≤ 1000000000000000) : ∃ sb, Ev (fun k => lecternref14_State.f k ix l ss) sb ∧ (sb = true → OnlyOk ix l ss ∧ mayP ss) := by
  by_cases hn : numB ix 0 = true
  · obtain ⟨r, h1, h2⟩ := docs_is l hl
    by_cases hr : r = 0
    · subst hr
      by_cases hm : mayP ss
      · refine ⟨true, Ev.of_eq (g := fun k => (lecternref8_Docs.f k l).bind fun t204 => (if t204 = 0 then ((lecternref14_May.f k ss).bind fun t205 => (some t205)) else (some false))) (Ev.bind h1 (Ev.of_eq (g := fun k => (lecternref14_May.f k ss).bind fun t205 => some t205) (Ev.bind (g := fun _ t => some t) (refMay_yes hm) (Ev.pure _)) (fun k => if_pos rfl))) (fun k => by unfold lecternref14_State.f; rw [Num_f, hn]; rfl), fun _ => ⟨onlyOk hn (h2 rfl) hm, hm⟩⟩
      · refine ⟨false, Ev.of_eq (g := fun k => (lecternref8_Docs.f k l).bind fun t204 => (if t204 = 0 then ((lecternref14_May.f k ss).bind fun t205 => (some t205)) else (some false))) (Ev.bind h1 (Ev.of_eq (g := fun k => (lecternref14_May.f k ss).bind fun t205 => some t205) (Ev.bind (g := fun _ t => some t) (refMay_no hm) (Ev.pure _)) (fun k => if_pos rfl))) (fun k => by unfold lecternref14_State.f; rw [Num_f, hn]; rfl), fun h => by cases h⟩
    · refine ⟨false, Ev.of_eq (g := fun k => (lecternref8_Docs.f k l).bind fun t204 => (if t204 = 0 then ((lecternref14_May.f k ss).bind fun t205 => (some t205)) else (some false))) (Ev.bind h1 (Ev.of_eq (g := fun _ => some false) (Ev.pure _) (fun k => if_neg hr))) (fun k => by unfold lecternref14_State.f; rw [Num_f, hn]; rfl), fun h => by cases h⟩
  · have hn' : numB ix 0 = false := by simpa using hn
    exact ⟨false, Ev.of_eq (g := fun _ => some false) (Ev.pure _) (fun k => by unfold lecternref14_State.f; rw [Num_f, hn']; rfl), fun h => by cases h⟩
end Go.Proofs.YtpeldaogdeefeaaGreat.M
