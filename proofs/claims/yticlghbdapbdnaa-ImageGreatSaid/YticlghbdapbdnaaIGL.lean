/- ImageGreat in plain Lean: the law answers true. -/
import Derived.Test.YticlghbdapbdnaaIGB
import Derived.Test.YticlghbdapbdnaaIG
import Derived.Test.YticlghbdapbdnaaOpen
namespace Go.Proofs.Yticlghbdapbdnaa.I
open Go.ChangeShapes Go.WideShapes Go.RowKit Go.Proofs.YticlghbdapbdnaaW.PrintWords Go.Proofs.YticlghbdapbdnaaW.PrintLast Go.Proofs.YticlghbdapbdnaaW.PrintMore Go.Proofs.Yticlghbdapbdnaa.Opening
set_option linter.unusedVariables false
set_option linter.unusedSimpArgs false
def nameG (i : Nat) : List Int := [(wrap64 (97 + (wrap64 (Int.tdiv (i : Int) 26)))) % 256, (wrap64 (97 + (Int.tmod (i : Int) 26))) % 256]
def docG (i : Nat) : S42 := ⟨(strOfNums (nameG i)) ++ (strOfNums (List.replicate 62 0)), strOfNums (List.replicate 256 0)⟩
def docsG (n : Nat) : List S42 := (List.range n).map docG
def sessG (i : Nat) : S47 := ⟨wrap64 (1099511627767 + ((i + 1 : Nat) : Int)), 1099511627775, ⟨10, 1099511627775, []⟩, 1099511627775⟩
def sessL (n : Nat) : List S47 := (List.range n).map sessG
def docsX : List S42 := (docsG 64).set (0 : Int).toNat (⟨(rd_T42 (docsG 64) 0).f0, strOfNums (List.replicate 257 0)⟩ : S42)
theorem docsG_len (n : Nat) : (docsG n).length = n := by unfold docsG; rw [List.length_map, List.length_range]
theorem sessL_len (n : Nat) : (sessL n).length = n := by unfold sessL; rw [List.length_map, List.length_range]
theorem great_docs : (List.range 64).all (fun j => dstep (docsG 64) j && decide ((rd_T42 (docsG 64) (j : Int)).f1.size ≤ 2048)) = true := by decide +kernel
theorem great_sum : sumFrom (docsG 64) 0 = 16384 := by decide +kernel
theorem great_sumX : sumFrom docsX 0 = 16385 := by decide +kernel
theorem great_sess : (List.range 8).all (fun j => stepB (sessL 8) j) = true := by decide +kernel
theorem great_state : stateP 1099511627775 (docsG 64) (sessL 8) := by
  refine ⟨by decide, ⟨⟨fun j _ hj => ?_, by rw [great_sum]; decide⟩, by rw [docsG_len]; decide⟩, fun j _ hj => ?_, by rw [sessL_len]; decide⟩
  · rw [docsG_len] at hj
    have h := List.all_eq_true.1 great_docs j (List.mem_range.2 hj)
    rw [Bool.and_eq_true] at h
    exact ⟨h.1, of_decide_eq_true h.2⟩
  · rw [sessL_len] at hj
    exact List.all_eq_true.1 great_sess j (List.mem_range.2 hj)
theorem great_not : ¬ docsP docsX := fun h => by
  have := h.1.2
  rw [great_sumX] at this
  omega
theorem great_back : docsX.set (0 : Int).toNat (⟨(rd_T42 docsX 0).f0, strOfNums (List.replicate 256 0)⟩ : S42) = docsG 64 := rfl
theorem eqDocs_l0 (l : List S42) (hl : l.length ≤ 1000000000) : ∀ (d i : Nat), i + d = l.length → Ev (fun k => lecternref0_EqDocs.l0 k l l (i : Int)) true
  | 0, i, hd => Ev.step ((Ev.pure true).of_eq fun k => by rw [lecternref0_EqDocs.l0, if_neg (by omega)])
  | d + 1, i, hd => by
    have ih := eqDocs_l0 l hl d (i + 1) (by omega)
    exact Ev.step (ih.of_eq fun k => by rw [lecternref0_EqDocs.l0, if_pos (by omega), if_pos (by omega), if_pos (by omega), if_neg (by simp), wrn i (by omega)])
theorem eqDocs_is (l : List S42) (hl : l.length ≤ 1000000000) : Ev (fun k => lecternref0_EqDocs.f k l l) true :=
  (eqDocs_l0 l hl l.length 0 (by omega)).of_eq fun k => by unfold lecternref0_EqDocs.f; rw [if_pos rfl]; rfl
theorem eqHits_l0 (l : List S96) (hl : l.length ≤ 1000000000) : ∀ (d i : Nat), i + d = l.length → Ev (fun k => lecternref0_EqHits.l0 k l l (i : Int)) true
  | 0, i, hd => Ev.step ((Ev.pure true).of_eq fun k => by rw [lecternref0_EqHits.l0, if_neg (by omega)])
  | d + 1, i, hd => by
    have ih := eqHits_l0 l hl d (i + 1) (by omega)
    exact Ev.step (ih.of_eq fun k => by rw [lecternref0_EqHits.l0, if_pos (by omega), if_pos (by omega), if_pos (by omega), if_neg (by simp), wrn i (by omega)])
theorem eqHits_is (l : List S96) (hl : l.length ≤ 1000000000) : Ev (fun k => lecternref0_EqHits.f k l l) true :=
  (eqHits_l0 l hl l.length 0 (by omega)).of_eq fun k => by unfold lecternref0_EqHits.f; rw [if_pos rfl]; rfl
theorem eqReply_is (a b : Int) (l : List S96) (hl : l.length ≤ 1000000000) : Ev (fun k => lecternref0_EqReply.f k a b l a b l) true :=
  (Ev.map (eqHits_is l hl) (fun t => some t) rfl).of_eq fun k => by unfold lecternref0_EqReply.f; rw [if_pos rfl, if_pos rfl]
theorem eqSession_is (x : S47) (hx : x.f2.f2.length ≤ 1000000000) : Ev (fun k => lecternref0_EqSession.f k x.f0 x.f1 x.f2.f0 x.f2.f1 x.f2.f2 x.f3 x.f0 x.f1 x.f2.f0 x.f2.f1 x.f2.f2 x.f3) true :=
  (Ev.map (eqReply_is x.f2.f0 x.f2.f1 x.f2.f2 hx) (fun t => if t = true then some (x.f3 == x.f3) else (none)) (by rw [if_pos rfl, beq_self_eq_true])).of_eq fun k => by unfold lecternref0_EqSession.f; rw [if_pos rfl, if_pos rfl]
theorem eqSessions_l0 (l : List S47) (hl : l.length ≤ 1000000000) (hh : ∀ x ∈ l, x.f2.f2.length ≤ 1000000000) : ∀ (d i : Nat), i + d = l.length → Ev (fun k => lecternref0_EqSessions.l0 k l l (i : Int)) true
  | 0, i, hd => Ev.step ((Ev.pure true).of_eq fun k => by rw [lecternref0_EqSessions.l0, if_neg (by omega)])
  | d + 1, i, hd => by
    have ih := eqSessions_l0 l hl hh d (i + 1) (by omega)
    have h1 := eqSession_is (rd_T47 l (i : Int)) (by rw [rd47 l i (by omega)]; exact hh _ (List.getElem_mem _))
    have h2 := Ev.bind (g := fun k (t215 : Bool) => (if t215 = true then (lecternref0_EqSessions.l0 k l l (wrap64 ((i : Int) + 1))) else (none))) h1 (ih.of_eq fun k => by rw [if_pos rfl, wrn i (by omega)])
    exact Ev.step (h2.of_eq fun k => by rw [lecternref0_EqSessions.l0, if_pos (by omega), if_pos (by omega), if_pos (by omega)])
theorem eqSessions_is (l : List S47) (hl : l.length ≤ 1000000000) (hh : ∀ x ∈ l, x.f2.f2.length ≤ 1000000000) : Ev (fun k => lecternref0_EqSessions.f k l l) true :=
  (eqSessions_l0 l hl hh l.length 0 (by omega)).of_eq fun k => by unfold lecternref0_EqSessions.f; rw [if_pos rfl]; rfl
theorem eqState_is (idx : Int) (D : List S42) (S : List S47) (hD : D.length ≤ 1000000000) (hS : S.length ≤ 1000000000) (hh : ∀ x ∈ S, x.f2.f2.length ≤ 1000000000) : Ev (fun k => lecternref0_EqState.f k idx D S idx D S) true := by
  have h1 := Ev.map (eqSessions_is S hS hh) (fun t => some t) rfl
  have h2 := Ev.bind (g := fun k (t218 : Bool) => (if t218 = true then ((lecternref0_EqSessions.f k S S).bind fun t219 => (some t219)) else (some false))) (eqDocs_is D hD) (h1.of_eq fun k => by rw [if_pos rfl])
  exact h2.of_eq fun k => by unfold lecternref0_EqState.f; rw [if_pos rfl]
theorem sessL_hits (x : S47) (hx : x ∈ sessL 8) : x.f2.f2.length ≤ 1000000000 := by
  unfold sessL at hx
  obtain ⟨i, _, rfl⟩ := List.mem_map.1 hx
  show ([] : List S96).length ≤ _
  simp
theorem wakes_evG : Ev (fun k => lecternlaw17_wakes.f k) true := Ev.of_mono (k0 := 30) (fun k => lecternlaw17_wakes.mono k) (by decide +kernel)
theorem great_end (l0 : List S28) : Ev (fun k => lecternlaw17_ImageGreat.l1 k l0 9 1099511627775 (docsG 64) (sessL 8)) true := by
  obtain ⟨B, ⟨K1, e1⟩, hBl, ⟨K2, e2⟩⟩ := bytes_rt 1099511627775 (docsG 64) (sessL 8) great_state
  obtain ⟨K3, e3⟩ := mmay_noD (idx := 1099511627775) (docs := docsX) (sess := sessL 8) (by show ((docsG 64).set _ _).length ≤ _; rw [List.length_set, docsG_len]; decide) (by decide) great_not
  obtain ⟨K4, e4⟩ := eqState_is 1099511627775 (docsG 64) (sessL 8) (by rw [docsG_len]; decide) (by rw [sessL_len]; decide) sessL_hits
  obtain ⟨K5, e5⟩ := wakes_evG
  refine Ev.step ⟨K1 + K2 + K3 + K4 + K5, fun k hk => ?_⟩
  have f1 : image_Bytes.f k 1099511627775 (docsG 64) (sessL 8) = some (B, 0) := e1 k (by omega)
  have f2 : image_Parse.f k B = some (1099511627775, docsG 64, sessL 8, 0) := e2 k (by omega)
  have f3 : image_Bytes.f k 1099511627775 docsX (sessL 8) = some ([], 1) := by
    have h : machine_May.f k 1099511627775 docsX (sessL 8) = some false := e3 k (by omega)
    unfold image_Bytes.f
    rw [h, Option.bind_some, if_neg (by decide)]
  have f4 : lecternref0_EqState.f k 1099511627775 (docsG 64) (sessL 8) 1099511627775 (docsG 64) (sessL 8) = some true := e4 k (by omega)
  have f5 : lecternlaw17_wakes.f k = some true := e5 k (by omega)
  show lecternlaw17_ImageGreat.l1 (k + 1) l0 9 1099511627775 (docsG 64) (sessL 8) = some true
  have hx : (docsG 64).set (0 : Int).toNat (⟨(rd_T42 (docsG 64) 0).f0, strOfNums (List.replicate 257 0)⟩ : S42) = docsX := rfl
  have hb : (B.length : Int) ≤ 524288 := by omega
  rw [lecternlaw17_ImageGreat.l1, if_neg (by decide), f1, Option.bind_some]
  dsimp only
  rw [f2, Option.bind_some]
  dsimp only
  rw [if_pos (by decide), if_pos (by rw [docsG_len]; decide), Option.bind_some, hx, f3, Option.bind_some, if_pos (by decide)]
  dsimp only
  rw [great_back, lecternlaw17_num.f, Option.bind_some, if_pos rfl, if_pos hb, Option.bind_some, if_pos rfl, f4, Option.bind_some, if_pos rfl, lecternlaw17_num.f, Option.bind_some, if_pos rfl, if_pos (by omega), f5, Option.bind_some]
theorem great_l1 (l0 : List S28) : ∀ (d i : Nat), i + d = 8 → Ev (fun k => lecternlaw17_ImageGreat.l1 k l0 ((i + 1 : Nat) : Int) 1099511627775 (docsG 64) (sessL i)) true := by
  intro d
  induction d with
  | zero =>
    intro i hd
    obtain rfl : i = 8 := by omega
    exact great_end l0
  | succ d ih =>
    intro i hd
    have h := ih (i + 1) (by omega)
    have hs : sessL (i + 1) = sessL i ++ [sessG i] := by unfold sessL; rw [List.range_succ, List.map_append]; rfl
    rw [hs] at h
    have hl := sessL_len i
    exact Ev.step (h.of_eq fun k => by rw [lecternlaw17_ImageGreat.l1, if_pos (by omega), if_pos (by omega), wrn (i + 1) (by omega)]; rfl)
theorem great_l0 (l0 : List S28) : ∀ (d i : Nat), i + d = 64 → Ev (fun k => lecternlaw17_ImageGreat.l0 k l0 (i : Int) 1099511627775 (docsG i)) true := by
  intro d
  induction d with
  | zero =>
    intro i hd
    obtain rfl : i = 64 := by omega
    exact Ev.step ((great_l1 l0 8 0 rfl).of_eq fun k => by rw [lecternlaw17_ImageGreat.l0, if_neg (by decide)]; rfl)
  | succ d ih =>
    intro i hd
    have h := ih (i + 1) (by omega)
    have hs : docsG (i + 1) = docsG i ++ [docG i] := by unfold docsG; rw [List.range_succ, List.map_append]; rfl
    rw [hs] at h
    have hl := docsG_len i
    refine Ev.step (h.of_eq fun k => ?_)
    rw [lecternlaw17_ImageGreat.l0, if_pos (by omega), Option.bind_some, if_pos (by decide), Option.bind_some, if_pos (by rw [str_size, str_size, List.length_replicate]; simp), if_pos (by decide), if_pos (by omega), wrn i (by omega)]
    rfl
theorem great_ev (l0 : List S28) : Ev (fun k => lecternlaw17_ImageGreat.f k l0) true := great_l0 l0 64 0 rfl
def ok42 (x : S42) : Prop := x.f0.size ≤ 140737488351232 ∧ (x.f1.size ≤ 140737488351232)
theorem opens_42 : Opens Try.prog 42 k42 ok42 :=
  opens_struct (fun x : S42 => (x.f0, x.f1)) (fun p => ⟨p.1, p.2⟩) (fun _ => rfl) Try.underlying42 (by kernel_rfl)
    (show OpensFs Try.prog [9, 9] _ _ from (opens_cons (opens_string Try.underlying9 (by kernel_rfl)) (opens_last (opens_string Try.underlying9 (by kernel_rfl)))))
def ok96 (x : S96) : Prop := x.f0.size ≤ 140737488351232 ∧ ((Lit.int .i64 x.f1).wf = true)
theorem opens_96 : Opens Try.prog 96 k96 ok96 :=
  opens_struct (fun x : S96 => (x.f0, x.f1)) (fun p => ⟨p.1, p.2⟩) (fun _ => rfl) Try.underlying96 (by kernel_rfl)
    (show OpensFs Try.prog [9, 3] _ _ from (opens_cons (opens_string Try.underlying9 (by kernel_rfl)) (opens_last (opens_int Try.underlying3 (by kernel_rfl)))))
def ok45 (x : S45) : Prop := (Lit.int .i64 x.f0).wf = true ∧ ((Lit.int .i64 x.f1).wf = true ∧ ((x.f2.length * 24 ≤ 140737488351232 ∧ ∀ y96 ∈ x.f2, ok96 y96)))
theorem opens_45 : Opens Try.prog 45 k45 ok45 :=
  opens_struct (fun x : S45 => (x.f0, x.f1, x.f2)) (fun p => ⟨p.1, p.2.1, p.2.2⟩) (fun _ => rfl) Try.underlying45 (by kernel_rfl)
    (show OpensFs Try.prog [29, 3, 43] _ _ from (opens_cons (opens_int Try.underlying29 (by kernel_rfl)) (opens_cons (opens_int Try.underlying3 (by kernel_rfl)) (opens_last (opens_slice Try.underlying43 (by kernel_rfl) (by kernel_rfl) opens_96)))))
def ok47 (x : S47) : Prop := (Lit.int .i64 x.f0).wf = true ∧ ((Lit.int .i64 x.f1).wf = true ∧ (ok45 x.f2 ∧ ((Lit.int .i64 x.f3).wf = true)))
theorem opens_47 : Opens Try.prog 47 k47 ok47 :=
  opens_struct (fun x : S47 => (x.f0, x.f1, x.f2, x.f3)) (fun p => ⟨p.1, p.2.1, p.2.2.1, p.2.2.2⟩) (fun _ => rfl) Try.underlying47 (by kernel_rfl)
    (show OpensFs Try.prog [3, 3, 45, 3] _ _ from (opens_cons (opens_int Try.underlying3 (by kernel_rfl)) (opens_cons (opens_int Try.underlying3 (by kernel_rfl)) (opens_cons opens_45 (opens_last (opens_int Try.underlying3 (by kernel_rfl)))))))
def ok28 (x : S28) : Prop := (Lit.int .i64 x.f0).wf = true ∧ ((x.f1.length * 32 ≤ 140737488351232 ∧ ∀ y42 ∈ x.f1, ok42 y42) ∧ ((x.f2.length * 64 ≤ 140737488351232 ∧ ∀ y47 ∈ x.f2, ok47 y47)))
theorem opens_28 : Opens Try.prog 28 k28 ok28 :=
  opens_struct (fun x : S28 => (x.f0, x.f1, x.f2)) (fun p => ⟨p.1, p.2.1, p.2.2⟩) (fun _ => rfl) Try.underlying28 (by kernel_rfl)
    (show OpensFs Try.prog [3, 25, 26] _ _ from (opens_cons (opens_int Try.underlying3 (by kernel_rfl)) (opens_cons (opens_slice Try.underlying25 (by kernel_rfl) (by kernel_rfl) opens_42) (opens_last (opens_slice Try.underlying26 (by kernel_rfl) (by kernel_rfl) opens_47)))))
def ok40 (l : List S28) : Prop := l.length * 56 ≤ 140737488351232 ∧ ∀ y ∈ l, ok28 y
theorem opens_40 : Opens Try.prog 40 (Kd.slice 28 k28) ok40 := opens_slice Try.underlying40 (by kernel_rfl) (by kernel_rfl) opens_28
theorem great_walk (A : Option Addr) (c : Nat) (l : List S28) (w : World) (hr : Kd.C k28 w A l.length l) (hc : l.length ≤ c) (ok : ok40 l) :
    Calls Try.prog 4 #[.slice A l.length c] w fun e w' => e = .returned (.bool true) ∧ Below w.heap.size w w' := by
  obtain ⟨K, hK⟩ := great_ev l
  exact lecternlaw17_ImageGreat.calls K A c l true w hr hc (hK K (Nat.le_refl _))
end Go.Proofs.Yticlghbdapbdnaa.I
