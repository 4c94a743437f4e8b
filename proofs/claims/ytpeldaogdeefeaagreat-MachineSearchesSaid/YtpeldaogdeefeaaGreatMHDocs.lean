/- The shelf: Docs, some: the documents by rising names. -/
import Derived.Test.YtpeldaogdeefeaaGreatMHNew
import Derived.Test.YtpeldaogdeefeaaGreatMHIter
namespace Go.Proofs.YtpeldaogdeefeaaGreat.M
open Go.Proofs.YtpeldaogdeefeaaGreat.H Go.RowKit Go.Maps Go.Sort Go.Proofs.YtpeldaogdeefeaaGreatW.PrintWords Go.Proofs.YtpeldaogdeefeaaGreatW.PrintLast Go.Proofs.YtpeldaogdeefeaaGreatW.PrintMore Go.Proofs.YtpeldaogdeefeaaGreat.Base
set_option linter.unusedVariables false
set_option linter.unusedSimpArgs false
theorem names_row {w : World} {base : Nat} {v : Value} {ss : List (List UInt8)} (h : w.ownsRow base 9 1 v ss.length (ss.map encStr)) : ∃ A c, v = .slice A ss.length c ∧ ∀ i nm, ss[i]? = some nm → ∃ ad, A = some ad ∧ w.cell? (ad.add i) = some (.string ⟨nm.toArray⟩) := by
  obtain ⟨hn, ho⟩ := h
  rcases ho with ⟨rfl, h0⟩ | ⟨g, cap, cur, rfl, hb, hh, hnc, hcm, hcs, ht⟩
  · obtain rfl : ss = [] := List.eq_nil_of_length_eq_zero h0
    exact ⟨none, 0, rfl, fun i nm hi => by cases hi⟩
  · refine ⟨some ⟨g, 0, none⟩, cap, rfl, fun i nm hi => ⟨_, rfl, ?_⟩⟩
    have hil : i < ss.length := (List.getElem?_eq_some_iff.1 hi).1
    rw [add_plain, cell_of_row w g _ cur 9 (0, 0) hh, ← Array.getElem?_toList]
    have h1 : (cur.toList.take (ss.length * 1))[i]? = some (.string ⟨nm.toArray⟩) := by rw [ht, List.getElem?_map, hi]; rfl
    rw [List.getElem?_take_of_lt (by omega)] at h1
    exact h1
theorem docs_take (M : List (Bs × Bs)) (i : Nat) (h : i < M.length) : docs (M.take (i + 1)) = docs (M.take i) ++ [doc M[i]] := by
  unfold docs
  rw [List.take_succ_eq_append_getElem h, List.map_append]
  rfl
theorem docs_len (M : List (Bs × Bs)) : (docs M).length = M.length := List.length_map _
set_option maxRecDepth 100000 in
set_option maxHeartbeats 3200000 in
theorem docs_calls {w : World} {B U g cnt : Nat} {M : List (Bs × Bs)} (h : Shf w B U g cnt M) :
    Calls Tryz.prog 26 #[.pointer (some ⟨g, 0, none⟩)] w fun e w' => ∃ v, e = .returned v ∧ Kd.R k36 36 w' w.heap.size (fun _ => True) v (docs M) ∧ Below w.heap.size w w' := by
  have HS := Aside0.mk h
  have hu102 := Tryz.underlying102
  have hu98 := Tryz.underlying98
  have hu36 := Tryz.underlying36
  obtain ⟨bt, bf, nt, nf, Dt, Df, h1, h2, h3, h4, h5, h6, h7, h8, h9, h10, h11, h12⟩ := h.ex
  have HG := Aside0.mk h1
  have HT := Aside0.mk h7
  have HF := Aside0.mk h8
  have HDT := Aside0.mk h9
  have HDF := Aside0.mk h10
  have HFW : Aside0 (M.length ≤ 64) := ⟨h.few⟩
  have y0 : w.cell? ⟨g, 0, none⟩ = some (.map (some bt)) := (blk_cell h1 0).trans rfl
  clear h h1 h2 h3 h4 h5 h6 h7 h8 h9 h10 h11 h12
  go_enter Tryz.func26, Tryz.ntmps26
  go_wp2_with fail
  refine (keys68 bt w).mono ?_
  rintro e w1 ⟨rfl, rfl⟩
  go_wp2_with fail
  refine (sorted68 bt _ _ w HT.out HDT.out (by have := HFW.out; first | omega | (simp [marks]; omega))).mono ?_
  rintro e w2 ⟨v2, rfl, hrow, hb2⟩
  have hnl : (names M).length = M.length := by simp [names, marks]
  rw [show M.length = (names M).length by simp [names]] at hrow
  obtain ⟨An, cn, rfl, hnm⟩ := names_row hrow
  rw [hnl]
  have HNM := Aside0.mk hnm
  have HB2 := Aside0.mk hb2
  clear hrow hnm hb2 hnl y0
  go_wp2_with fail
  go_loopg [2, 13] M.length (fun kq vd vi w' => ∃ i : Nat, Aside0 (i + kq = M.length) ∧ vi = .int .i64 i ∧ Aside0 (Kd.R k36 36 w' w2.heap.size (fun _ => True) vd (docs (M.take i))) ∧ Aside0 (Below w2.heap.size w2 w'))
  case atStart => exact ⟨0, ⟨by omega⟩, rfl, ⟨Kd.R_nil _ _ _ _ _⟩, ⟨Below.refl _ _⟩⟩
  case round =>
    obtain ⟨i, HIK, rfl, HR, HBW⟩ := hrel
    by_cases hlt : i < M.length
    · have hd1 : decide ((i : Int) < (M.length : Int)) = true := decide_eq_true (by omega)
      have hd2 : decide (i < M.length) = true := decide_eq_true hlt
      have HLT := Aside0.mk hlt
      obtain ⟨ad, e, kc⟩ := HNM.out i M[i].1 (by
        rw [List.getElem?_eq_getElem (by simp [names, marks]; exact hlt)]
        simp [names, marks])
      subst e
      obtain ⟨p, hp⟩ : ∃ p, p = M[i] := ⟨_, rfl⟩
      rw [← hp] at kc
      have HP : Aside0 (∀ h : i < M.length, p = M[i]) := ⟨fun _ => hp⟩
      have HPM : Aside0 (p ∈ M) := ⟨hp ▸ List.getElem_mem hlt⟩
      have kc2 := (HBW.out.cell (World.block_lt_of_cell? w2 _ kc)).trans kc
      have hBw : Below w.heap.size w wr := below_step HB2.out HBW.out
      have y0 : wr.cell? ⟨g, 0, none⟩ = some (.map (some bt)) := (blk_cell (blk_below HG.out hBw) 0).trans rfl
      have hlk := look_str (tx := ⟨p.2.toArray⟩) (map_keep HT.out (hBw.block _ HT.out.lt)) ⟨p.1.toArray⟩ (by have := (HS.out.nm p HPM.out).2; have e := ba_size ⟨p.1.toArray⟩; unfold maxLen; simp at e ⊢; omega) (fun z => by simpa using HDT.out.at_ p HPM.out z)
      have q0 : ((i : Int) < (M.length : Int)) = True := eq_true (by omega)
      have p0 : ((0 : Int) ≤ (i : Int)) = True := eq_true (by omega)
      have hw1 : wrap64 ((i : Int) + 1) = ((i + 1 : Nat) : Int) := wrn i (by have := HFW.out; omega)
      clear kc hp hBw hlt
      go_wp2_with (first | ((with_reducible refine gate_builtin (b := .append) (xs := #[.tmp 17, .tmp 27]) rfl ?_); at_builtin; refine Kd.R_append k36 (w0 := w2) w2.heap.size rfl (.tmp 17) (.tmp 27) 22 36 (.agg #[(.string ⟨#[]⟩), (.string ⟨#[]⟩)]) 32 rfl Tryz.underlying22 info36 rfl (by decide) (by omega) _ (docs (M.take i)) (doc p) [.string ⟨p.1.toArray⟩, .string ⟨p.2.toArray⟩] (fun _ => True) (fun _ => False) rfl rfl (k36_mkM _ _ _ (doc p)) (fun _ hk => hk.elim) (fun _ _ => trivial) HR.out HBW.out HBW.out.size (by have := HFW.out; rw [docs_len, List.length_take]; omega) ?_; intro v9 w9 hr hb hg hat; have HR9 := Aside0.mk hr; have HB9 := Aside0.mk hb; clear hr hb hg hat))
      go_roundg (gk - 1)
      case measure => have := HIK.out; have := HLT.out; omega
      case rel => exact ⟨i + 1, ⟨by have := HIK.out; have := HLT.out; omega⟩, by rw [hw1], ⟨by rw [docs_take M i HLT.out, ← HP.out HLT.out]; exact HR9.out⟩, HB9⟩
    · have hd1 : decide ((i : Int) < (M.length : Int)) = false := decide_eq_false (by omega)
      have hd2 : decide (i < M.length) = false := decide_eq_false hlt
      have hi : i = M.length := by have := HIK.out; omega
      subst hi
      clear hlt
      go_wp2_with fail
      go_ret
      have hR := HR.out
      rw [List.take_length] at hR
      exact ⟨_, rfl, Kd.R_lower hR HB2.out.size, below_step HB2.out HBW.out⟩
set_option maxRecDepth 100000 in
set_option maxHeartbeats 3200000 in
theorem some_calls {w : World} {B U g cnt : Nat} {M : List (Bs × Bs)} (h : Shf w B U g cnt M) {bf0 : Nat} (hbf0 : w.cell? ⟨g, 3, none⟩ = some (.map (some bf0))) :
    Calls Tryz.prog 72 #[.pointer (some ⟨g, 0, none⟩), .map (some bf0)] w fun e w' => ∃ v, e = .returned v ∧ Kd.R k36 36 w' w.heap.size (fun _ => True) v (docs M) ∧ Below w.heap.size w w' := by
  have HS := Aside0.mk h
  have hu102 := Tryz.underlying102
  have hu98 := Tryz.underlying98
  have hu36 := Tryz.underlying36
  obtain ⟨bt, bf, nt, nf, Dt, Df, h1, h2, h3, h4, h5, h6, h7, h8, h9, h10, h11, h12⟩ := h.ex
  have hbf : bf = bf0 := by have h13 := (blk_cell h1 3).symm.trans hbf0; simpa using h13
  subst hbf
  have HG := Aside0.mk h1
  have HT := Aside0.mk h7
  have HF := Aside0.mk h8
  have HDT := Aside0.mk h9
  have HDF := Aside0.mk h10
  have HFW : Aside0 (M.length ≤ 64) := ⟨h.few⟩
  have y0 : w.cell? ⟨g, 0, none⟩ = some (.map (some bt)) := (blk_cell h1 0).trans rfl
  clear h h1 h2 h3 h4 h5 h6 h7 h8 h9 h10 h11 h12
  go_enter Tryz.func72, Tryz.ntmps72
  go_wp2_with fail
  refine (keys117 bf w).mono ?_
  rintro e w1 ⟨rfl, rfl⟩
  go_wp2_with fail
  refine (sorted117 bf _ _ w HF.out HDF.out (by have := HFW.out; first | omega | (simp [marks]; omega))).mono ?_
  rintro e w2 ⟨v2, rfl, hrow, hb2⟩
  have hnl : (names (marks M)).length = M.length := by simp [names, marks]
  rw [show (marks M).length = (names (marks M)).length by simp [names]] at hrow
  obtain ⟨An, cn, rfl, hnm⟩ := names_row hrow
  rw [hnl]
  have HNM := Aside0.mk hnm
  have HB2 := Aside0.mk hb2
  clear hrow hnm hb2 hnl y0
  go_wp2_with fail
  go_loopg [4, 11] M.length (fun kq vd vi w' => ∃ i : Nat, Aside0 (i + kq = M.length) ∧ vi = .int .i64 i ∧ Aside0 (Kd.R k36 36 w' w2.heap.size (fun _ => True) vd (docs (M.take i))) ∧ Aside0 (Below w2.heap.size w2 w'))
  case atStart => exact ⟨0, ⟨by omega⟩, rfl, ⟨Kd.R_nil _ _ _ _ _⟩, ⟨Below.refl _ _⟩⟩
  case round =>
    obtain ⟨i, HIK, rfl, HR, HBW⟩ := hrel
    by_cases hlt : i < M.length
    · have hd1 : decide ((i : Int) < (M.length : Int)) = true := decide_eq_true (by omega)
      have hd2 : decide (i < M.length) = true := decide_eq_true hlt
      have HLT := Aside0.mk hlt
      obtain ⟨ad, e, kc⟩ := HNM.out i M[i].1 (by
        rw [List.getElem?_eq_getElem (by simp [names, marks]; exact hlt)]
        simp [names, marks])
      subst e
      obtain ⟨p, hp⟩ : ∃ p, p = M[i] := ⟨_, rfl⟩
      rw [← hp] at kc
      have HP : Aside0 (∀ h : i < M.length, p = M[i]) := ⟨fun _ => hp⟩
      have HPM : Aside0 (p ∈ M) := ⟨hp ▸ List.getElem_mem hlt⟩
      have kc2 := (HBW.out.cell (World.block_lt_of_cell? w2 _ kc)).trans kc
      have hBw : Below w.heap.size w wr := below_step HB2.out HBW.out
      have y0 : wr.cell? ⟨g, 0, none⟩ = some (.map (some bt)) := (blk_cell (blk_below HG.out hBw) 0).trans rfl
      have hlk := look_str (tx := ⟨p.2.toArray⟩) (map_keep HT.out (hBw.block _ HT.out.lt)) ⟨p.1.toArray⟩ (by have := (HS.out.nm p HPM.out).2; have e := ba_size ⟨p.1.toArray⟩; unfold maxLen; simp at e ⊢; omega) (fun z => by simpa using HDT.out.at_ p HPM.out z)
      have q0 : ((i : Int) < (M.length : Int)) = True := eq_true (by omega)
      have p0 : ((0 : Int) ≤ (i : Int)) = True := eq_true (by omega)
      have hw1 : wrap64 ((i : Int) + 1) = ((i + 1 : Nat) : Int) := wrn i (by have := HFW.out; omega)
      clear kc hp hBw hlt
      go_wp2_with (first | ((with_reducible refine gate_builtin (b := .append) (xs := #[.tmp 15, .tmp 25]) rfl ?_); at_builtin; refine Kd.R_append k36 (w0 := w2) w2.heap.size rfl (.tmp 15) (.tmp 25) 22 36 (.agg #[(.string ⟨#[]⟩), (.string ⟨#[]⟩)]) 32 rfl Tryz.underlying22 info36 rfl (by decide) (by omega) _ (docs (M.take i)) (doc p) [.string ⟨p.1.toArray⟩, .string ⟨p.2.toArray⟩] (fun _ => True) (fun _ => False) rfl rfl (k36_mkM _ _ _ (doc p)) (fun _ hk => hk.elim) (fun _ _ => trivial) HR.out HBW.out HBW.out.size (by have := HFW.out; rw [docs_len, List.length_take]; omega) ?_; intro v9 w9 hr hb hg hat; have HR9 := Aside0.mk hr; have HB9 := Aside0.mk hb; clear hr hb hg hat))
      go_roundg (gk - 1)
      case measure => have := HIK.out; have := HLT.out; omega
      case rel => exact ⟨i + 1, ⟨by have := HIK.out; have := HLT.out; omega⟩, by rw [hw1], ⟨by rw [docs_take M i HLT.out, ← HP.out HLT.out]; exact HR9.out⟩, HB9⟩
    · have hd1 : decide ((i : Int) < (M.length : Int)) = false := decide_eq_false (by omega)
      have hd2 : decide (i < M.length) = false := decide_eq_false hlt
      have hi : i = M.length := by have := HIK.out; omega
      subst hi
      clear hlt
      go_wp2_with fail
      go_ret
      have hR := HR.out
      rw [List.take_length] at hR
      exact ⟨_, rfl, Kd.R_lower hR HB2.out.size, below_step HB2.out HBW.out⟩
end Go.Proofs.YtpeldaogdeefeaaGreat.M
