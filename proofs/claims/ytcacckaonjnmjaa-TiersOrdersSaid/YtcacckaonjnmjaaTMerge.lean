/- What the reference's Merge answers: the same as mergeOut. -/
import Derived.Test.YtcacckaonjnmjaaTPure
import Derived.Test.YtcacckaonjnmjaaTx26
namespace Go.Proofs.Ytcacckaonjnmjaa.T
open Go.RowKit Go.Proofs.YtcacckaonjnmjaaW.PrintWords Go.Proofs.YtcacckaonjnmjaaW.PrintLast Go.Proofs.YtcacckaonjnmjaaW.PrintMore
set_option linter.unusedVariables false
set_option linter.unusedSimpArgs false
def Big (l : List (List S104)) : Prop := l.length ≤ 1000000 ∧ l.flatten.length ≤ 1000000
theorem big_at {l : List (List S104)} (h : Big l) (i : Nat) (hi : i < l.length) : l[i].length ≤ 1000000 := by
  have := mem_len l l[i] (List.getElem_mem hi)
  have := h.2
  omega
/-- The check of one list. -/
theorem ref_l1 (l : List (List S104)) (h : Big l) (i : Nat) (hi : i < l.length) (v : List S104 × Int) (hok : riseB l[i] = true → Ev (fun k => lecternref12_Merge.l0 k l ((i + 1 : Nat) : Int)) v) (hbad : riseB l[i] = false → v = ([], 1)) :
    ∀ d j, j + 1 + d = l[i].length → riseB l[i] = riseB (l[i].drop j) → Ev (fun k => lecternref12_Merge.l1 k l (i : Int) ((j + 1 : Nat) : Int)) v
  | 0, j, hd, hr => by
    have hb := big_at h i hi
    have hl1 := h.1
    have e : l[i].drop j = [l[i][j]] := by
      rw [List.drop_eq_getElem_cons (by omega), List.drop_of_length_le (by omega)]
    have hr1 : riseB l[i] = true := by
      rw [hr, e]
      exact decide_eq_true (show riseP [l[i][j]] from List.pairwise_singleton _ _)
    refine Ev.step ((hok hr1).of_eq fun k => ?_)
    show lecternref12_Merge.l1 (k + 1) l (i : Int) ((j + 1 : Nat) : Int) = _
    rw [lecternref12_Merge.l1, if_pos (by omega), if_pos (by omega), rdL2_at l i hi, if_neg (by omega), wrn i (by omega)]
  | d + 1, j, hd, hr => by
    have hb := big_at h i hi
    have hl1 := h.1
    have e : l[i].drop j = l[i][j] :: l[i][j + 1] :: l[i].drop (j + 1 + 1) := by
      rw [List.drop_eq_getElem_cons (by omega), List.drop_eq_getElem_cons (i := j + 1) (by omega)]
    have e2 : l[i].drop (j + 1) = l[i][j + 1] :: l[i].drop (j + 1 + 1) := List.drop_eq_getElem_cons (by omega)
    by_cases hc : ltk l[i][j] l[i][j + 1] = true
    · have hr2 : riseB l[i] = riseB (l[i].drop (j + 1)) := by
        rw [hr]
        unfold riseB
        refine decide_eq_decide.2 ?_
        rw [e, riseP_cons2, ← e2]
        exact ⟨fun hh => hh.2, fun hh => ⟨hc, hh⟩⟩
      have ih := ref_l1 l h i hi v hok hbad d (j + 1) (by omega) hr2
      refine Ev.step (ih.of_eq fun k => ?_)
      show lecternref12_Merge.l1 (k + 1) l (i : Int) ((j + 1 : Nat) : Int) = _
      rw [lecternref12_Merge.l1, if_pos (by omega), if_pos (by omega), rdL2_at l i hi, if_pos (by omega), wrp j (by omega), if_pos (by omega), if_pos (by omega), if_pos (by omega), rd104_at _ j (by omega), rd104_at _ (j + 1) (by omega), less_ltk, if_pos hc, wrn (j + 1) (by omega)]
    · have hr1 : riseB l[i] = false := by
        rw [hr, e]
        unfold riseB
        refine decide_eq_false ?_
        rw [riseP_cons2]
        exact fun hh => hc hh.1
      rw [hbad hr1]
      refine Ev.step ((Ev.pure _).of_eq fun k => ?_)
      show lecternref12_Merge.l1 (k + 1) l (i : Int) ((j + 1 : Nat) : Int) = _
      rw [lecternref12_Merge.l1, if_pos (by omega), if_pos (by omega), rdL2_at l i hi, if_pos (by omega), wrp j (by omega), if_pos (by omega), if_pos (by omega), if_pos (by omega), rd104_at _ j (by omega), rd104_at _ (j + 1) (by omega), less_ltk, if_neg hc]
theorem ref_l1' (l : List (List S104)) (h : Big l) (i : Nat) (hi : i < l.length) (v : List S104 × Int) (hok : riseB l[i] = true → Ev (fun k => lecternref12_Merge.l0 k l ((i + 1 : Nat) : Int)) v) (hbad : riseB l[i] = false → v = ([], 1)) : Ev (fun k => lecternref12_Merge.l1 k l (i : Int) 1) v := by
  by_cases h0 : l[i].length = 0
  · have e : l[i] = [] := List.eq_nil_of_length_eq_zero h0
    have hl1 := h.1
    have hr1 : riseB l[i] = true := by
      rw [e]; exact decide_eq_true (show riseP [] from List.Pairwise.nil)
    refine Ev.step ((hok hr1).of_eq fun k => ?_)
    show lecternref12_Merge.l1 (k + 1) l (i : Int) 1 = _
    rw [lecternref12_Merge.l1, if_pos (by omega), if_pos (by omega), rdL2_at l i hi, if_neg (by omega), wrn i (by omega)]
  · exact ref_l1 l h i hi v hok hbad (l[i].length - 1) 0 (by omega) (by rw [List.drop_zero])
theorem ref_l0 (l : List (List S104)) (h : Big l) (v : List S104 × Int) (hok : l.all riseB = true → Ev (fun k => lecternref12_Merge.l2 k l ([] : List S104) 0) v) (hbad : l.all riseB = false → v = ([], 1)) :
    ∀ d i, i + d = l.length → (l.take i).all riseB = true → Ev (fun k => lecternref12_Merge.l0 k l (i : Int)) v
  | 0, i, hd, ha => by
    rw [List.take_of_length_le (by omega)] at ha
    refine Ev.step ((hok ha).of_eq fun k => ?_)
    show lecternref12_Merge.l0 (k + 1) l (i : Int) = _
    rw [lecternref12_Merge.l0, if_neg (by omega)]
  | d + 1, i, hd, ha => by
    have hi : i < l.length := by omega
    have ht : l.take (i + 1) = l.take i ++ [l[i]] := List.take_succ_eq_append_getElem hi
    refine Ev.step ((ref_l1' l h i hi v (fun hr => ref_l0 l h v hok hbad d (i + 1) (by omega) (by rw [ht, List.all_append, ha]; simp [hr])) (fun hr => hbad ?_)).of_eq fun k => ?_)
    · by_cases hh : l.all riseB = true
      · have := List.all_eq_true.1 hh _ (List.getElem_mem hi)
        rw [hr] at this; cases this
      · simpa using hh
    · show lecternref12_Merge.l0 (k + 1) l (i : Int) = _
      rw [lecternref12_Merge.l0, if_pos (by omega)]
/-- One document is set in. -/
theorem ref_ins (l : List (List S104)) (h : Big l) (i j : Nat) (hi : i < l.length) (hj : j < l[i].length) (out rest : List S104) (hout : riseP out) (hlen : out.length ≤ 1000000)
    (hnext : ∀ out', riseP out' → out'.Perm (out ++ [l[i][j]]) → Ev (fun k => lecternref12_Merge.l3 k l out' (i : Int) ((j + 1 : Nat) : Int)) (fin (out' ++ rest))) :
    ∀ d m, m + d = out.length → (∀ x ∈ out.take m, ltk x l[i][j] = true) → Ev (fun k => lecternref12_Merge.l4 k l out (i : Int) (j : Int) (m : Int)) (fin (out ++ (l[i][j] :: rest))) := by
  have hb := big_at h i hi
  have hl1 := h.1
  have hset : ∀ m, m ≤ out.length → (∀ x ∈ out.take m, ltk x l[i][j] = true) → (∀ hm : m < out.length, ltk l[i][j] out[m] = true) → Ev (fun k => lecternref12_Merge.j6 k l out (i : Int) (j : Int) (m : Int) false) (fin (out ++ (l[i][j] :: rest))) := by
    intro m hm h1 h2
    have hp : (out.take m ++ [l[i][j]] ++ out.drop m).Perm (out ++ [l[i][j]]) := by
      have e : out ++ [l[i][j]] = out.take m ++ (out.drop m ++ [l[i][j]]) := by rw [← List.append_assoc, List.take_append_drop]
      rw [e, List.append_assoc]
      exact List.Perm.append_left _ List.perm_append_comm
    have hn := hnext _ (rise_ins hout m l[i][j] h1 h2) hp
    have hpp : (out.take m ++ [l[i][j]] ++ out.drop m ++ rest).Perm (out ++ (l[i][j] :: rest)) := by
      have := hp.append_right rest
      rwa [List.append_assoc out, List.singleton_append] at this
    rw [fin_perm hpp] at hn
    have hc := copyDocs_is (out.take m) (by rw [List.length_take]; omega)
    have htl : (out.take m).length = m := by rw [List.length_take]; omega
    have hdl : (out.drop m).length = out.length - m := by rw [List.length_drop]
    refine Ev.step ((Ev.bind hc (g := fun k t => lecternref12_Merge.l3 k l (t ++ [l[i][j]] ++ out.drop m) (i : Int) ((j + 1 : Nat) : Int)) hn).of_eq fun k => ?_)
    show lecternref12_Merge.j6 (k + 1) l out (i : Int) (j : Int) (m : Int) false = _
    rw [lecternref12_Merge.j6, if_neg (by simp), if_pos (by omega), if_pos (by omega), Int.toNat_natCast]
    cases hcp : lecternref0_CopyDocs.f k (out.take m) with
    | none => rfl
    | some t =>
      have ht : t = out.take m := by
        obtain ⟨K, hK⟩ := hc
        have mono : ∀ n, lecternref0_CopyDocs.f (k + n) (out.take m) = some t := fun n => by
          induction n with
          | zero => exact hcp
          | succ n ih => exact lecternref0_CopyDocs.mono _ _ _ ih
        have h1 : lecternref0_CopyDocs.f (k + K) (out.take m) = some (out.take m) := hK (k + K) (by omega)
        rw [mono K] at h1
        exact Option.some.inj h1
      subst ht
      simp only [Option.bind_some]
      rw [if_pos (by omega), if_pos (by omega), if_pos (by omega), rdL2_at l i hi, if_pos (by omega), rd104_at _ j hj, eta104, if_pos (by rw [htl]; simp; omega), if_pos (by rw [List.length_append, htl, hdl]; simp; omega), wrn j (by omega)]
  intro d
  induction d with
  | zero =>
    intro m hm h1
    refine Ev.step (Ev.step ((hset m (by omega) h1 (fun hm2 => by omega)).of_eq fun k => ?_))
    show lecternref12_Merge.l4 (k + 1 + 1) l out (i : Int) (j : Int) (m : Int) = _
    rw [lecternref12_Merge.l4, if_neg (by omega), lecternref12_Merge.j5, if_neg (by simp), if_neg (by omega)]
  | succ d ih =>
    intro m hm h1
    have hml : m < out.length := by omega
    have ht : out.take (m + 1) = out.take m ++ [out[m]] := List.take_succ_eq_append_getElem hml
    by_cases hc : ltk out[m] l[i][j] = true
    · have ih2 := ih (m + 1) (by omega) (fun x hx => by
        rw [ht] at hx
        rcases List.mem_append.1 hx with hx | hx
        · exact h1 x hx
        · rw [List.mem_singleton.1 hx]; exact hc)
      refine Ev.step (Ev.step (ih2.of_eq fun k => ?_))
      show lecternref12_Merge.l4 (k + 1 + 1) l out (i : Int) (j : Int) (m : Int) = _
      rw [lecternref12_Merge.l4, if_pos (by omega), if_pos (by omega), if_pos (by omega), if_pos (by omega), if_pos (by omega), rdL2_at l i hi, if_pos (by omega), rd104_at _ j hj, rd104_at _ m hml, less_ltk, lecternref12_Merge.j5, if_pos hc, wrn m (by omega)]
    · have hcf : ltk out[m] l[i][j] = false := by simpa using hc
      have key : Ev (fun k => lecternref12_Merge.j6 k l out (i : Int) (j : Int) (m : Int) (out[m].f0.toList == l[i][j].f0.toList)) (fin (out ++ (l[i][j] :: rest))) := by
        cases he : (out[m].f0.toList == l[i][j].f0.toList) with
        | false => exact hset m (by omega) h1 (fun _ => ltk_tri hcf he)
        | true =>
          obtain ⟨e1, e2⟩ := ltk_same he
          have hp : (out ++ (l[i][j] :: rest)).Perm (out[m] :: l[i][j] :: (out.take m ++ out.drop (m + 1) ++ rest)) := by
            have e : out = out.take m ++ out[m] :: out.drop (m + 1) := by rw [← List.drop_eq_getElem_cons hml, List.take_append_drop]
            have p1 : out.Perm (out[m] :: (out.take m ++ out.drop (m + 1))) := by
              conv => lhs; rw [e]
              exact List.perm_middle
            have p2 := p1.append_right (l[i][j] :: rest)
            refine p2.trans ?_
            rw [List.cons_append]
            exact List.Perm.cons _ List.perm_middle
          rw [fin_dup hp e1 e2]
          refine Ev.step ((Ev.pure _).of_eq fun k => ?_)
          show lecternref12_Merge.j6 (k + 1) l out (i : Int) (j : Int) (m : Int) true = _
          rw [lecternref12_Merge.j6, if_pos rfl]
      refine Ev.step (Ev.step (key.of_eq fun k => ?_))
      show lecternref12_Merge.l4 (k + 1 + 1) l out (i : Int) (j : Int) (m : Int) = _
      rw [lecternref12_Merge.l4, if_pos (by omega), if_pos (by omega), if_pos (by omega), if_pos (by omega), if_pos (by omega), rdL2_at l i hi, if_pos (by omega), rd104_at _ j hj, rd104_at _ m hml, less_ltk, lecternref12_Merge.j5, if_neg hc, if_pos (by omega), if_pos (by omega), if_pos (by omega), if_pos (by omega), if_pos (by omega), rdL2_at l i hi, if_pos (by omega), rd104_at _ j hj, rd104_at _ m hml]
theorem ref_l3 (l : List (List S104)) (h : Big l) (i : Nat) (hi : i < l.length) (rest : List S104)
    (hnext : ∀ out', riseP out' → out'.length + rest.length = l.flatten.length → Ev (fun k => lecternref12_Merge.l2 k l out' ((i + 1 : Nat) : Int)) (fin (out' ++ rest))) :
    ∀ d j out, j + d = l[i].length → riseP out → out.length + d + rest.length = l.flatten.length → Ev (fun k => lecternref12_Merge.l3 k l out (i : Int) (j : Int)) (fin (out ++ (l[i].drop j ++ rest)))
  | 0, j, out, hd, ho, hl => by
    have hl1 := h.1
    have hb := big_at h i hi
    refine Ev.step (Ev.of_eq ?_ (g := fun k => lecternref12_Merge.l2 k l out ((i + 1 : Nat) : Int)) fun k => ?_)
    · rw [List.drop_of_length_le (by omega), List.nil_append]
      exact hnext out ho (by omega)
    · show lecternref12_Merge.l3 (k + 1) l out (i : Int) (j : Int) = _
      rw [lecternref12_Merge.l3, if_pos (by omega), if_pos (by omega), rdL2_at l i hi, if_neg (by omega), wrn i (by omega)]
  | d + 1, j, out, hd, ho, hl => by
    have hl1 := h.1
    have hl2 := h.2
    have hb := big_at h i hi
    have hj : j < l[i].length := by omega
    have e : l[i].drop j = l[i][j] :: l[i].drop (j + 1) := List.drop_eq_getElem_cons hj
    have key := ref_ins l h i j hi hj out (l[i].drop (j + 1) ++ rest) ho (by omega) (fun out' ho' hp => ref_l3 l h i hi rest hnext d (j + 1) out' (by omega) ho' (by rw [hp.length_eq, List.length_append, List.length_singleton]; omega)) out.length 0 (by omega) (fun x hx => by simp at hx)
    refine Ev.step (Ev.of_eq ?_ (g := fun k => lecternref12_Merge.l4 k l out (i : Int) (j : Int) 0) fun k => ?_)
    · rw [e, List.cons_append]
      exact key
    · show lecternref12_Merge.l3 (k + 1) l out (i : Int) (j : Int) = _
      rw [lecternref12_Merge.l3, if_pos (by omega), if_pos (by omega), rdL2_at l i hi, if_pos (by omega)]
theorem ref_l2 (l : List (List S104)) (h : Big l) : ∀ d i out, i + d = l.length → riseP out → out.length + (l.drop i).flatten.length = l.flatten.length → Ev (fun k => lecternref12_Merge.l2 k l out (i : Int)) (fin (out ++ (l.drop i).flatten))
  | 0, i, out, hd, ho, hl => by
    have hl1 := h.1
    refine Ev.step (Ev.of_eq ?_ (g := fun k => some (out, 0)) fun k => ?_)
    · rw [List.drop_of_length_le (by omega), List.flatten_nil, List.append_nil, fin_rise ho]
      exact Ev.pure _
    · show lecternref12_Merge.l2 (k + 1) l out (i : Int) = _
      rw [lecternref12_Merge.l2, if_neg (by omega)]
  | d + 1, i, out, hd, ho, hl => by
    have hl1 := h.1
    have hi : i < l.length := by omega
    have e : l.drop i = l[i] :: l.drop (i + 1) := List.drop_eq_getElem_cons hi
    rw [e, List.flatten_cons, List.length_append] at hl
    have key := ref_l3 l h i hi (l.drop (i + 1)).flatten (fun out' ho' hl' => ref_l2 l h d (i + 1) out' (by omega) ho' hl') l[i].length 0 out (by omega) ho (by omega)
    refine Ev.step (Ev.of_eq ?_ (g := fun k => lecternref12_Merge.l3 k l out (i : Int) 0) fun k => ?_)
    · rw [e, List.flatten_cons]
      rw [List.drop_zero] at key
      exact key
    · show lecternref12_Merge.l2 (k + 1) l out (i : Int) = _
      rw [lecternref12_Merge.l2, if_pos (by omega)]
theorem ref_is (l : List (List S104)) (h : Big l) : Ev (fun k => lecternref12_Merge.f k l) (mergeOut l) := by
  unfold lecternref12_Merge.f
  refine ref_l0 l h _ (fun hall => ?_) (fun hno => ?_) l.length 0 (by omega) (by simp)
  · have := ref_l2 l h l.length 0 [] (by omega) List.Pairwise.nil (by simp)
    unfold mergeOut
    rw [if_pos hall]
    exact this
  · unfold mergeOut
    rw [if_neg (by rw [hno]; simp)]
theorem prog_is (l : List (List S104)) (h : Big l) : tiers_Merge.f l = some (mergeOut l) := by
  unfold tiers_Merge.f
  exact if_pos h
end Go.Proofs.Ytcacckaonjnmjaa.T
