/- SessionOnce: the law's function returns true. -/
import Derived.Test.YtcacckaonjnmjaaSInv
import Derived.Test.YtcacckaonjnmjaaSx49
import Derived.Test.YtcacckaonjnmjaaSOpen25
namespace Go.Proofs.Ytcacckaonjnmjaa.S
open Go.RowKit Go.Proofs.YtcacckaonjnmjaaW.PrintWords Go.Proofs.YtcacckaonjnmjaaW.PrintLast Go.Proofs.YtcacckaonjnmjaaW.PrintMore Go.Proofs.Ytcacckaonjnmjaa.Opening
set_option linter.unusedVariables false
set_option linter.unusedSimpArgs false
theorem within_is (a : Int) (n : Nat) (h : 0 < n) (hn : n ≤ 1000000) : ∃ v : Nat, v < n ∧ lecternlaw0_Within.f a (n : Int) = some (v : Int) := by
  have e1 : IntKind.u64.wrap (n : Int) = (n : Int) := u64w _ (by omega) (by omega)
  have e2 : 0 ≤ IntKind.u64.wrap a := by rw [IntKind.wrap_u64]; omega
  have e3 : 0 ≤ Int.tmod (IntKind.u64.wrap a) (n : Int) := Int.tmod_nonneg _ e2
  have e4 : Int.tmod (IntKind.u64.wrap a) (n : Int) < (n : Int) := Int.tmod_lt_of_pos _ (by omega)
  unfold lecternlaw0_Within.f
  rw [e1, if_neg (by omega)]
  refine ⟨(Int.tmod (IntKind.u64.wrap a) (n : Int)).toNat, by omega, ?_⟩
  rw [wrb _ (by omega) (by omega), Int.toNat_of_nonneg e3]
theorem rd_int (l : List Int) (i : Nat) (h : i < l.length) : rd l (i : Int) = l[i] := by
  unfold rd
  rw [Int.toNat_natCast, List.getD_eq_getElem?_getD, List.getElem?_eq_getElem h, Option.getD_some]
theorem copyNumbers_l0 (l : List Int) (hl : l.length ≤ 1000000000) : ∀ d i, i + d = l.length → Ev (fun k => lecternref0_CopyNumbers.l0 k l (l.take i) (i : Int)) l
  | 0, i, hd => by
    refine Ev.step ((Ev.pure l).of_eq fun k => ?_)
    rw [lecternref0_CopyNumbers.l0, if_neg (by omega), List.take_of_length_le (by omega)]
  | d + 1, i, hd => by
    have ih := copyNumbers_l0 l hl d (i + 1) (by omega)
    have h1 : (l.take i).length ≤ l.length := by rw [List.length_take]; omega
    have h2 : l.take (i + 1) = l.take i ++ [l[i]] := List.take_succ_eq_append_getElem (by omega)
    refine Ev.step (ih.of_eq fun k => ?_)
    rw [lecternref0_CopyNumbers.l0, if_pos (by omega), if_pos (by omega), if_pos (by omega), wrn i (by omega), rd_int l i (by omega), ← h2]
theorem copyNumbers_is (l : List Int) (hl : l.length ≤ 1000000000) : Ev (fun k => lecternref0_CopyNumbers.f k l) l := copyNumbers_l0 l hl l.length 0 (by omega)
theorem once_j5 (L : List S33) (s us : List S88) (i : Nat) (hi : i ≤ 100) (hl : us.length = s.length) (ih : Ev (fun k => lawOnce.l0 k L s (us.map (·.f0)) ((i + 1 : Nat) : Int) ((i + 1 : Nat) : Int)) true) :
    Ev (fun k => lawOnce.j5 k L s (us.map (·.f0)) ((i + 1 : Nat) : Int) (i : Int)) true :=
  Ev.step (ih.of_eq fun k => by rw [lawOnce.j5, if_pos (by rw [List.length_map, hl]), wrn i (by omega)])
theorem map_fresh (us : List S88) (a : Int) : us.map (·.f0) ++ [a] = (us ++ [fresh88 a]).map (·.f0) := by rw [List.map_append]; rfl
theorem begin_gone {l : List S88} (h : mayP l) {c n : Int} (hn : numB n 1 = true) (hg : anyS l c = false) : Ev (fun k => session_Begin.f k l c n) (0, 0, [], false, 9) := by
  have := begin_may h c n
  unfold beginV at this
  rw [hn, hg] at this
  exact this
/-- A session is opened. -/
theorem once_open (L : List S33) (s us : List S88) (i : Nat) (hi : i < 40) (h : Inv s us (i : Int)) (b0 b1 b2 b3 b4 b5 : Int) (b6 : List S116)
    (ih : ∀ s us, Inv s us ((i + 1 : Nat) : Int) → Ev (fun k => lawOnce.l0 k L s (us.map (·.f0)) ((i + 1 : Nat) : Int) ((i + 1 : Nat) : Int)) true) :
    Ev (fun k => lawOnce.j2 k L s (us.map (·.f0)) ((i + 1 : Nat) : Int) (i : Int) true b0 b1 b2 b3 b4 b5 b6) true := by
  have hm := h.may (by omega)
  have hc := mayP_clr hm
  have hno : anyS s ((i + 1 : Nat) : Int) = false := any_no (fun x hx he => by have := (h.good x hx).1.2; omega)
  have hlen := h.perm.length_eq
  have h8 := h.len
  have ho := open_may hm ((i + 1 : Nat) : Int)
  unfold openV at ho
  rw [numB_of (by omega) (by omega), hno] at ho
  simp only [if_true, Bool.false_eq_true, if_false] at ho
  refine Ev.step ?_
  simp only [lawOnce.j2, if_true]
  refine Ev.bind ho ?_
  simp only [lecternlaw14_num.f, Option.bind_some, if_true]
  by_cases hf : s.length = 8
  · have hf2 : (((us.map (·.f0)).length : Nat) : Int) = 8 := by rw [List.length_map]; omega
    have hf3 : (0 : Int) < 8 := by decide
    have hf4 : (1 : Int) ≤ 8 := by decide
    simp only [hf2, hf3, hf4, if_true]
    obtain ⟨u, us', rfl⟩ : ∃ u us', us = u :: us' := by
      cases us with
      | nil => simp at hlen; omega
      | cons u us' => exact ⟨u, us', rfl⟩
    have hx := inv_full h (by omega) hf hc
    rw [show (i : Int) + 1 = ((i + 1 : Nat) : Int) by omega] at hx
    have hr : rd (List.map (fun x => x.f0) (u :: us')) 0 = u.f0 := rfl
    rw [hr]
    refine Ev.bind (begin_gone (hx.2.may (by omega)) (numB_of (by omega) (by omega)) hx.1) ?_
    simp only [Option.bind_some, if_true]
    have hd : List.drop (Int.toNat 1) (List.map (fun x : S88 => x.f0) (u :: us')) = us'.map (·.f0) := rfl
    have hlim : (us'.map (fun x : S88 => x.f0)).length < 17592186044416 := by rw [List.length_map]; rw [List.length_cons] at hlen; omega
    simp only [hd, hlim, if_true, map_fresh]
    exact once_j5 L _ _ i (by omega) hx.2.perm.length_eq (ih _ _ hx.2)
  · have hf2 : ¬ ((((us.map (·.f0)).length : Nat) : Int) = 8) := by rw [List.length_map]; omega
    have hlim : (us.map (fun x : S88 => x.f0)).length < 17592186044416 := by rw [List.length_map]; omega
    simp only [hf2, hlim, if_true, if_false, map_fresh]
    have hx := (inv_open h (by omega) (by omega) hc).2
    rw [show (i : Int) + 1 = ((i + 1 : Nat) : Int) by omega] at hx
    exact once_j5 L _ _ i (by omega) hx.perm.length_eq (ih _ _ hx)
/-- A request is made in the session that is the k-th in the order of use. -/
theorem once_done (L : List S33) (s us : List S88) (i : Nat) (hi : i < 40) (h : Inv s us (i : Int)) (hne : 0 < us.length) (b0 b1 b2 b3 b4 b5 : Int) (b6 : List S116)
    (ih : ∀ s us, Inv s us ((i + 1 : Nat) : Int) → Ev (fun k => lawOnce.l0 k L s (us.map (·.f0)) ((i + 1 : Nat) : Int) ((i + 1 : Nat) : Int)) true) :
    Ev (fun k => lawOnce.j2 k L s (us.map (·.f0)) ((i + 1 : Nat) : Int) (i : Int) false b0 b1 b2 b3 b4 b5 b6) true := by
  have hm := h.may (by omega)
  have hc := mayP_clr hm
  have hlen := h.perm.length_eq
  have h8 := h.len
  have hlm : (us.map (fun x : S88 => x.f0)).length = us.length := List.length_map _
  obtain ⟨k, hk, hkw⟩ := within_is b1 us.length hne (by omega)
  obtain ⟨u, hu⟩ : ∃ u, u ∈ us := ⟨us[0], List.getElem_mem _⟩
  have hi1 : 1 ≤ i := by
    have := (h.good u (h.perm.mem_iff.1 hu)).1
    omega
  refine Ev.step ?_
  have k0 : (0 : Int) ≤ (k : Int) := by omega
  have k1 : (k : Int) < ((us.length : Nat) : Int) := by omega
  simp only [lawOnce.j2, Bool.false_eq_true, if_false, hlm, hkw, Option.bind_some, k0, k1, if_true]
  have hrd : rd (us.map (fun x : S88 => x.f0)) (k : Int) = us[k].f0 := by rw [rd_int _ k (by rw [hlm]; exact hk), List.getElem_map]
  have hx := inv_done h (by omega) hc k hk
  rw [hrd]
  have hum := h.good us[k] (h.perm.mem_iff.1 (List.getElem_mem hk))
  generalize hcc : us[k].f0 = c at hx
  rw [show (i : Int) + 1 = ((i + 1 : Nat) : Int) by omega] at hx
  have hux : (us.map (fun x : S88 => x.f0)).eraseIdx k = (us.eraseIdx k).map (·.f0) := by rw [List.eraseIdx_eq_take_drop_succ, List.eraseIdx_eq_take_drop_succ, List.map_append, List.map_take, List.map_drop]
  generalize s.set (placeS s c) (yS c ((i + 1 : Nat) : Int)) = x at hx
  generalize hpp : placeS s c = p at hx
  have hmx := hx.inv.may (by omega)
  have hd := done_may hm c ((i + 1 : Nat) : Int) 0 ((i + 1 : Nat) : Int) [] ((i + 1 : Nat) : Int)
  unfold doneV at hd
  have hrp : replyB 0 ((i + 1 : Nat) : Int) [] = true := by unfold replyB; rw [numB_of (by omega) (by omega)]; rfl
  rw [numB_of (by omega) (by omega), hrp, hx.there, hx.x_is] at hd
  simp only [if_true] at hd
  refine Ev.bind hd ?_
  have b1' := begin_may hmx c ((i + 1 : Nat) : Int)
  have b2' := begin_may hmx c (wrap64 (((i + 1 : Nat) : Int) - 1))
  have b3' := begin_may hmx c (wrap64 (((i + 1 : Nat) : Int) + 1))
  rw [wrp i (by omega)] at b2'
  rw [wrn (i + 1) (by omega)] at b3'
  unfold beginV at b1' b2' b3'
  rw [hx.xplace, hx.x_rd, hx.xthere] at b1' b2' b3'
  rw [numB_of (by omega) (by omega), if_pos rfl, if_pos rfl, if_neg (show ¬ (((i + 1 : Nat) : Int) < (yS c ((i + 1 : Nat) : Int)).f1) by show ¬ (((i + 1 : Nat) : Int) < ((i + 1 : Nat) : Int)); omega), if_pos (show ((i + 1 : Nat) : Int) = (yS c ((i + 1 : Nat) : Int)).f1 from rfl)] at b1'
  rw [numB_of (by omega) (by omega), if_pos rfl, if_pos rfl, if_pos (show (i : Int) < (yS c ((i + 1 : Nat) : Int)).f1 by show (i : Int) < ((i + 1 : Nat) : Int); omega)] at b2'
  rw [numB_of (by omega) (by omega), if_pos rfl, if_pos rfl, if_neg (show ¬ (((i + 1 + 1 : Nat) : Int) < (yS c ((i + 1 : Nat) : Int)).f1) by show ¬ (((i + 1 + 1 : Nat) : Int) < ((i + 1 : Nat) : Int)); omega), if_neg (show ¬ (((i + 1 + 1 : Nat) : Int) = (yS c ((i + 1 : Nat) : Int)).f1) by show ¬ (((i + 1 + 1 : Nat) : Int) = ((i + 1 : Nat) : Int)); omega)] at b3'
  refine Ev.bind b1' ?_
  rw [wrp i (by omega), wrn (i + 1) (by omega)]
  refine Ev.bind b2' ?_
  refine Ev.bind b3' ?_
  simp only [lecternlaw14_num.f, Option.bind_some, if_true]
  refine Ev.bind (eqReply_is 0 ((i + 1 : Nat) : Int) [] (Nat.zero_le _)) ?_
  simp only [if_true]
  refine Ev.step ?_
  have l1 : (k : Int) ≤ (us.length : Int) := by omega
  have l2 : (0 : Int) ≤ ((k + 1 : Nat) : Int) := by omega
  have l3 : ((k + 1 : Nat) : Int) ≤ (us.length : Int) := by omega
  simp only [lawOnce.j3, Bool.false_eq_true, if_false, hlm, k0, l1, if_true, wrn k (by omega), l2, l3, Int.toNat_natCast, Option.bind_some]
  refine Ev.bind (copyNumbers_is _ (by rw [List.length_take, hlm]; omega)) ?_
  have g1 : ((us.map (fun x : S88 => x.f0)).take k).length + ((us.map (fun x : S88 => x.f0)).drop (k + 1)).length < 17592186044416 := by rw [List.length_take, List.length_drop, hlm]; omega
  have g2 : (us.map (fun x : S88 => x.f0)).take k ++ (us.map (fun x : S88 => x.f0)).drop (k + 1) = (us.eraseIdx k).map (·.f0) := by rw [← List.eraseIdx_eq_take_drop_succ, hux]
  have g3 : ((us.eraseIdx k).map (fun x : S88 => x.f0)).length + [c].length < 17592186044416 := by rw [List.length_map, List.length_eraseIdx_of_lt hk, List.length_singleton]; omega
  have g4 : (us.eraseIdx k).map (fun x : S88 => x.f0) ++ [c] = (us.eraseIdx k ++ [yS c ((i + 1 : Nat) : Int)]).map (·.f0) := by rw [List.map_append]; rfl
  simp only [g1, g2, if_true, g3, g4]
  obtain ⟨q, hq, hqw⟩ := within_is b2 5 (by decide) (by decide)
  rw [show ((5 : Nat) : Int) = 5 from rfl] at hqw
  simp only [hqw, Option.bind_some]
  by_cases hq0 : (q : Int) = 0
  · simp only [hq0, if_true]
    have hcl := close_may hmx c
    unfold closeV at hcl
    rw [hx.xthere, hx.xplace, if_pos rfl] at hcl
    refine Ev.bind hcl ?_
    have hm2 := hx.closed.may (by omega)
    refine Ev.bind (begin_gone hm2 (numB_of (by rw [wrn (i + 1) (by omega)]; omega) (by rw [wrn (i + 1) (by omega)]; omega)) hx.gone) ?_
    simp only [if_true, Option.bind_some]
    refine Ev.step ?_
    have e1 : (((us.eraseIdx k ++ [yS c ((i + 1 : Nat) : Int)]).map (fun x : S88 => x.f0)).length : Int) = ((us.eraseIdx k).length + 1 : Nat) := by rw [List.length_map, List.length_append, List.length_singleton]
    have e2 : wrap64 ((((us.eraseIdx k).length + 1 : Nat) : Int) - 1) = (((us.eraseIdx k).length : Nat) : Int) := wrp _ (by rw [List.length_eraseIdx_of_lt hk]; omega)
    have e3 : ((us.eraseIdx k ++ [yS c ((i + 1 : Nat) : Int)]).map (fun x : S88 => x.f0)).take (us.eraseIdx k).length = (us.eraseIdx k).map (·.f0) := by rw [List.map_append]; exact List.take_left' (List.length_map _)
    have e4 : (0 : Int) ≤ (((us.eraseIdx k).length : Nat) : Int) := by omega
    have e5 : (((us.eraseIdx k).length : Nat) : Int) ≤ (((us.eraseIdx k).length + 1 : Nat) : Int) := by omega
    simp only [lawOnce.j4, bne_self_eq_false, Bool.false_eq_true, if_false, e1, e2, e4, e5, if_true, Int.toNat_natCast, e3]
    exact once_j5 L _ _ i (by omega) hx.closed.perm.length_eq (ih _ _ hx.closed)
  · simp only [hq0, if_false]
    exact once_j5 L _ _ i (by omega) hx.inv.perm.length_eq (ih _ _ hx.inv)
theorem once_l0 (L : List S33) (hL : L.length ≤ 1000000000000000) : ∀ (d i : Nat), i + d = 40 → ∀ s us, Inv s us (i : Int) → Ev (fun k => lawOnce.l0 k L s (us.map (·.f0)) (i : Int) (i : Int)) true
  | 0, i, hd => fun s us h => by
    have done : Ev (fun k => lawOnce.j1 k L s (us.map (·.f0)) (i : Int) (i : Int) false) true := by
      refine Ev.step (Ev.of_eq (g := fun k => (lecternlaw14_wakes.f k).bind fun t => some t) (Ev.bind (g := fun _ t => some t) wakes_is (Ev.pure _)) (fun k => ?_))
      rw [lawOnce.j1, if_neg (by decide)]
    refine Ev.step (done.of_eq fun k => ?_)
    rw [lawOnce.l0, decide_eq_false (by omega)]
    split <;> rfl
  | d + 1, i, hd => fun s us h => by
    have ih := once_l0 L hL d (i + 1) (by omega)
    by_cases hi : (i : Int) < (L.length : Int)
    · refine Ev.step ?_
      refine Ev.of_eq (g := fun k => lawOnce.j1 k L s (us.map (·.f0)) (i : Int) (i : Int) true) (Ev.step ?_) (fun k => by rw [lawOnce.l0, if_pos hi, decide_eq_true (by omega)])
      have i0 : (0 : Int) ≤ (i : Int) := by omega
      obtain ⟨v, hv, hvw⟩ := within_is (rd_T33 L (i : Int)).f0 2 (by decide) (by decide)
      rw [show ((2 : Nat) : Int) = 2 from rfl] at hvw
      simp only [lawOnce.j1, if_true, i0, hi, hvw, Option.bind_some, wrn i (by omega)]
      by_cases hv0 : (v : Int) = 0
      · simp only [hv0, if_true]
        exact once_open L s us i (by omega) h _ _ _ _ _ _ _ ih
      · simp only [hv0, if_false]
        cases hu : us with
        | nil =>
          have := once_open L s us i (by omega) h (rd_T33 L (i : Int)).f0 (rd_T33 L (i : Int)).f1 (rd_T33 L (i : Int)).f2 (rd_T33 L (i : Int)).f3 (rd_T33 L (i : Int)).f4.f0 (rd_T33 L (i : Int)).f4.f1 (rd_T33 L (i : Int)).f4.f2 ih
          rw [hu] at this
          exact this
        | cons u us' =>
          rw [hu] at h
          have hb : (((((u :: us').map (fun x : S88 => x.f0)).length : Nat) : Int) == 0) = false := by rw [beq_eq_false_iff_ne, List.length_map, List.length_cons]; omega
          rw [hb]
          exact once_done L s (u :: us') i (by omega) h (Nat.succ_pos _) _ _ _ _ _ _ _ ih
    · have done : Ev (fun k => lawOnce.j1 k L s (us.map (·.f0)) (i : Int) (i : Int) false) true := by
        refine Ev.step (Ev.of_eq (g := fun k => (lecternlaw14_wakes.f k).bind fun t => some t) (Ev.bind (g := fun _ t => some t) wakes_is (Ev.pure _)) (fun k => ?_))
        rw [lawOnce.j1, if_neg (by decide)]
      exact Ev.step (done.of_eq fun k => by rw [lawOnce.l0, if_neg hi])
theorem once_is (L : List S33) (hL : L.length ≤ 1000000000000000) : Ev (fun k => lawOnce.f k L) true :=
  once_l0 L hL 40 0 (by omega) [] [] ⟨List.Perm.refl _, List.Pairwise.nil, List.Pairwise.nil, Nat.zero_le _, fun x hx => absurd hx List.not_mem_nil⟩
def ok23 (l : List S33) : Prop := l.length * 72 ≤ 140737488351232 ∧ ∀ y33 ∈ l, ok33 y33
theorem opens_23 : Opens Try.prog 23 (Kd.slice 33 k33) ok23 := opens_slice Try.underlying23 (by kernel_rfl) (by kernel_rfl) opens_33
theorem once_walk (A0 : Option Addr) (c0 : Nat) (l : List S33) (w : World) (hC : Kd.C k33 w A0 l.length l) (hc : l.length ≤ c0) (ok : ok23 l) :
    Calls Try.prog 7 #[.slice A0 l.length c0] w fun e w' => e = .returned (.bool true) ∧ Below w.heap.size w w' := by
  obtain ⟨k, h⟩ := once_is l (by have := ok.1; omega)
  exact lawOnce.calls k A0 c0 l true w hC hc (h k (Nat.le_refl _))
end Go.Proofs.Ytcacckaonjnmjaa.S
