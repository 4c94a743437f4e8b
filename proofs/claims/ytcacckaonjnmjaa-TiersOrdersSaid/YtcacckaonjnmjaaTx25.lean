-- Written by a program: the kit's printer with changes of this session (NOTES.md).
import Derived.Test.YtcacckaonjnmjaaTx0
import Derived.Test.YtcacckaonjnmjaaTx5
import Derived.Test.YtcacckaonjnmjaaTSort
namespace Go.Proofs.Ytcacckaonjnmjaa.T
open Go.RowKit Go.Proofs.YtcacckaonjnmjaaW.PrintWords Go.Proofs.YtcacckaonjnmjaaW.PrintLast Go.Proofs.YtcacckaonjnmjaaW.PrintMore
attribute [local go_sem] max2_int min2_int max_two min_two max_three min_three max_four min_four   -- for this text's walks alone
set_option linter.unusedVariables false
set_option linter.unusedSimpArgs false

/-! ### tiers_Merge: function 37 -/
/-- Do names rise? -/
def riseP (l : List S104) : Prop := l.Pairwise (fun a b => ltk a b = true)
instance (l : List S104) : Decidable (riseP l) := by unfold riseP; infer_instance
def riseB (l : List S104) : Bool := decide (riseP l)
def sortK (l : List S104) : List S104 := l.mergeSort (fun a b => !(ltk b a))
theorem riseP_cons2 (a b : S104) (l : List S104) : riseP (a :: b :: l) ↔ ltk a b = true ∧ riseP (b :: l) := by
  unfold riseP
  constructor
  · intro h
    have h1 := List.pairwise_cons.1 h
    exact ⟨h1.1 b List.mem_cons_self, h1.2⟩
  · rintro ⟨h1, h2⟩
    refine List.pairwise_cons.2 ⟨fun c hc => ?_, h2⟩
    rcases List.mem_cons.1 hc with rfl | hc
    · exact h1
    · exact ltk_trans h1 ((List.pairwise_cons.1 h2).1 c hc)
theorem rising_wrap (n : Int) (h : -9223372036854775808 ≤ n) (h1 : n ≤ 9223372036854775807) : wrap64 n = n := by unfold wrap64; omega
theorem rd104_at (l : List S104) (i : Nat) (h : i < l.length) : rd_T104 l (i : Int) = l[i] := by
  unfold rd_T104
  rw [Int.toNat_natCast, List.getD_eq_getElem?_getD, List.getElem?_eq_getElem h, Option.getD_some]
theorem less_ltk (x y : S104) : Op.bytesLess (x.f0).toList (y.f0).toList = ltk x y := by
  rw [Go.Proofs.bytesLess_eq, ByteArray.toList_eq, ByteArray.toList_eq]
  rfl
theorem rising_l0 (l : List S104) (hl : l.length ≤ 1000000000) (d : Nat) : ∀ (k i : Nat), i + 1 + d = l.length → d < k → tiers_rising.l0 k l ((i + 1 : Nat) : Int) = some (riseB (l.drop i)) := by
  induction d with
  | zero =>
    intro k i hd hk
    obtain ⟨k, rfl⟩ : ∃ n, k = n + 1 := ⟨k - 1, by omega⟩
    unfold tiers_rising.l0
    rw [if_neg (by omega)]
    have e : l.drop i = [l[i]] := by
      rw [List.drop_eq_getElem_cons (by omega), List.drop_of_length_le (by omega)]
    rw [e]
    exact congrArg some (decide_eq_true (show riseP [l[i]] from List.pairwise_singleton _ _)).symm
  | succ d ih =>
    intro k i hd hk
    obtain ⟨k, rfl⟩ : ∃ n, k = n + 1 := ⟨k - 1, by omega⟩
    have w1 : wrap64 (((i + 1 : Nat) : Int) - 1) = (i : Int) := by rw [rising_wrap _ (by omega) (by omega)]; omega
    have w2 : wrap64 (((i + 1 : Nat) : Int) + 1) = ((i + 1 + 1 : Nat) : Int) := by rw [rising_wrap _ (by omega) (by omega)]; omega
    have e : l.drop i = l[i] :: l[i + 1] :: l.drop (i + 1 + 1) := by
      rw [List.drop_eq_getElem_cons (by omega), List.drop_eq_getElem_cons (i := i + 1) (by omega)]
    have e2 : l.drop (i + 1) = l[i + 1] :: l.drop (i + 1 + 1) := List.drop_eq_getElem_cons (by omega)
    have i2 := ih k (i + 1) (by omega) (by omega)
    unfold tiers_rising.l0
    rw [if_pos (by omega), w1, w2, if_pos (by omega), if_pos (by omega), if_pos (by omega), rd104_at l i (by omega), rd104_at l (i + 1) (by omega), less_ltk]
    by_cases h : ltk l[i] l[i + 1] = true
    · rw [if_pos h, i2]
      congr 1
      unfold riseB
      refine decide_eq_decide.2 ?_
      rw [e, riseP_cons2, ← e2]
      exact ⟨fun hh => ⟨h, hh⟩, fun hh => hh.2⟩
    · rw [if_neg h]
      congr 1
      unfold riseB
      refine (decide_eq_false ?_).symm
      rw [e, riseP_cons2]
      exact fun hh => h hh.1
theorem rising_is (l : List S104) (hl : l.length ≤ 1000000000) (k : Nat) (hk : l.length + 1 ≤ k) : tiers_rising.f k l = some (riseB l) := by
  unfold tiers_rising.f
  by_cases h : l.length = 0
  · obtain ⟨k, rfl⟩ : ∃ n, k = n + 1 := ⟨k - 1, by omega⟩
    have : l = [] := List.eq_nil_of_length_eq_zero h
    subst this
    unfold tiers_rising.l0
    rw [if_neg (by simp)]
    exact congrArg some (decide_eq_true (show riseP [] from List.Pairwise.nil)).symm
  · have := rising_l0 l hl (l.length - 1) k 0 (by omega) (by omega)
    rw [List.drop_zero] at this
    exact this
/-- What tiers.Merge tells: documents, and an error or none. -/
def mergeOut (l : List (List S104)) : List S104 × Int :=
  if l.all riseB = true then (if riseB (sortK l.flatten) = true then (sortK l.flatten, 0) else ([], 4)) else ([], 1)
def tiers_Merge.f (l0 : List (List S104)) : Option (List S104 × Int) := if l0.length ≤ 1000000 ∧ l0.flatten.length ≤ 1000000 then some (mergeOut l0) else none
theorem sortK_pair (l : List S104) : (sortK l).Pairwise (fun a b => ltk b a = false) := by
  have h := List.pairwise_mergeSort (le := fun a b : S104 => !(ltk b a)) (fun a b c h1 h2 => by
    simp only [Bool.not_eq_true'] at *
    exact ltk_ntrans h2 h1) (fun a b => by
    by_cases h : ltk b a = true
    · have : ltk a b = false := by
        by_cases h2 : ltk a b = true
        · have := ltk_trans h h2; rw [ltk_irrefl] at this; cases this
        · simpa using h2
      simp [this]
    · simp [h]) l
  exact h.imp (fun h => by simpa using h)
/-- Two sorted rows of the same documents: one rises where the other does, and then they are the same. -/
theorem sorted_same {xs ys : List S104} (hp : ys.Perm xs) (h1 : ys.Pairwise (fun a b => ltk b a = false)) : riseB ys = riseB (sortK xs) ∧ (riseB ys = true → ys = sortK xs) := by
  have hs := sortK_pair xs
  have hq : (sortK xs).Perm ys := (List.mergeSort_perm xs _).trans hp.symm
  have key : ∀ {a b : List S104}, a.Perm b → riseP a → b.Pairwise (fun x y => ltk y x = false) → b = a := fun {a b} hab ha hb => by
    have ha2 : a.Pairwise (fun x y => ltk y x = false) := ha.imp (fun {x y} h => by
      by_cases h2 : ltk y x = true
      · have := ltk_trans h h2; rw [ltk_irrefl] at this; cases this
      · simpa using h2)
    have hnd : ∀ x y : S104, x ∈ a → y ∈ a → ltk x y = false → ltk y x = false → x = y := fun x y hx hy e1 e2 => by
      obtain ⟨i, hi, rfl⟩ := List.getElem_of_mem hx
      obtain ⟨j, hj, rfl⟩ := List.getElem_of_mem hy
      rcases Nat.lt_trichotomy i j with h | rfl | h
      · have := List.pairwise_iff_getElem.1 ha i j hi hj h; rw [e1] at this; cases this
      · rfl
      · have := List.pairwise_iff_getElem.1 ha j i hj hi h; rw [e2] at this; cases this
    exact List.Perm.eq_of_pairwise (fun x y hx hy e1 e2 => hnd x y (hab.mem_iff.2 hx) hy e2 e1) hb ha2 hab.symm
  by_cases h : riseP ys
  · have e := key hq.symm h hs
    refine ⟨by rw [e], fun _ => e.symm⟩
  · by_cases h2 : riseP (sortK xs)
    · have e := key hq h2 h1
      exact absurd (e ▸ h2) h
    · refine ⟨by unfold riseB; rw [decide_eq_false h, decide_eq_false h2], fun h3 => absurd (of_decide_eq_true h3) h⟩
theorem flatten_take_len (l : List (List S104)) (i : Nat) : (l.take i).flatten.length ≤ l.flatten.length := by
  conv => rhs; rw [← List.take_append_drop i l, List.flatten_append, List.length_append]
  omega
theorem mem_len (l : List (List S104)) (d : List S104) (h : d ∈ l) : d.length ≤ l.flatten.length := by
  obtain ⟨a, b, rfl⟩ := List.append_of_mem h
  rw [List.flatten_append, List.flatten_cons, List.length_append, List.length_append]
  omega
theorem rdL2_at (l : List (List S104)) (i : Nat) (h : i < l.length) : rd_L2 l (i : Int) = l[i] := by
  unfold rd_L2
  rw [Int.toNat_natCast, List.getD_eq_getElem?_getD, List.getElem?_eq_getElem h, Option.getD_some]
/-- A round of the loop is over. -/
def MergeI (l : List (List S104)) (w : World) (k : Nat) (v4 v9 : Value) (w' : World) : Prop :=
  ∃ i : Nat, i + k = l.length ∧ v9 = .int .i64 i ∧ Kd.R k104 104 w' w.heap.size (fun _ => True) v4 (l.take i).flatten ∧ Below w.heap.size w w' ∧ (l.take i).all riseB = true
set_option maxHeartbeats 4000000 in
set_option maxRecDepth 100000 in
theorem tiers_Merge.calls (A0 : Option Addr) (c0 : Nat) (l0 : List (List S104)) (r1 : List S104) (r2 : Int) (w : World) (hr0 : Kd.C (Kd.slice 104 k104) w A0 l0.length l0) (hc0 : l0.length ≤ c0) (h : tiers_Merge.f l0 = some (r1, r2)) :
    Calls Try.prog 37 #[.slice A0 l0.length c0] w fun e w' => ∃ v0_ : Value, e = .returned (.tuple #[v0_, .int .i64 r2]) ∧ Kd.R k104 104 w' w.heap.size (fun _ => True) v0_ r1 ∧ Below w.heap.size w w' := by
  unfold tiers_Merge.f at h
  by_cases hsz : l0.length ≤ 1000000 ∧ l0.flatten.length ≤ 1000000
  · rw [if_pos hsz] at h
    obtain ⟨hs1, hs2⟩ := hsz
    have HM := Aside0.mk (Option.some.inj h)
    have HR0 := Aside0.mk hr0
    have HC0 := Aside0.mk hc0
    have HS2 := Aside0.mk hs2
    clear h hr0 hc0 hs2
    go_enter Try.func37, Try.ntmps37
    go_wp2_with fail
    go_loopg [4, 6, 9] l0.length (fun kq v4 v6 v9 w' => MergeI l0 w kq v4 v9 w')
    case atStart => exact ⟨0, by omega, rfl, by rw [List.take_zero]; exact Kd.R_nil _ _ _ _ _, Below.refl _ _, rfl⟩
    case round =>
      obtain ⟨i, hik, rfl, hr, hb, hall⟩ := hrel
      obtain ⟨A4, c4, rfl, hc4, hC4⟩ := Kd.R_reads hr
      have HR := Aside0.mk hr
      have HB := Aside0.mk hb
      have HALL := Aside0.mk hall
      have HC4 := Aside0.mk hC4
      have HCC4 := Aside0.mk hc4
      clear hr hb hall hC4 hc4
      by_cases hlt : i < l0.length
      · obtain ⟨ad, Ai, ci, hA, hcell, hci, hCi⟩ := at_L2 (Kd.C_below HR0.out HB.out) (i : Int) (by omega) (by omega)
        rw [rdL2_at l0 i hlt, Int.toNat_natCast] at hcell
        rw [rdL2_at l0 i hlt] at hci hCi
        have hmem := mem_len l0 l0[i] (List.getElem_mem hlt)
        have hi1 : (0 : Int) ≤ (i : Int) := by omega
        have hi2 : (i : Int) < (l0.length : Int) := by omega
        have ht : l0.take (i + 1) = l0.take i ++ [l0[i]] := List.take_succ_eq_append_getElem hlt
        have HT : Aside0 ((l0.take (i + 1)).flatten = (l0.take i).flatten ++ l0[i]) := ⟨by rw [ht, List.flatten_append]; simp⟩
        have HTA : Aside0 ((l0.take (i + 1)).all riseB = ((l0.take i).all riseB && riseB l0[i])) := ⟨by rw [ht, List.all_append]; simp⟩
        have HRI : Aside0 (tiers_rising.f (l0[i].length + 1) l0[i] = some (riseB l0[i])) := ⟨rising_is _ (by have := HS2.out; omega) _ (Nat.le_refl _)⟩
        have HLEN : Aside0 (((l0.take i).flatten.length + l0[i].length) * 32 ≤ 140737488355328) := ⟨by have := flatten_take_len l0 i; have := HS2.out; omega⟩
        have HMEM : Aside0 (l0[i] ∈ l0) := ⟨List.getElem_mem hlt⟩
        clear ht
        generalize l0[i] = d at *
        generalize hacc : (l0.take i).flatten = acc at *
        clear hacc
        have HCI := Aside0.mk hCi
        have HCCI := Aside0.mk hci
        subst hA
        clear hCi hci hmem
        cases hrb : riseB d with
        | true =>
          have HRB := Aside0.mk hrb
          rw [hrb] at HRI
          clear hrb
          go_wp2_with (first
            | (go_at_call 73; refine (tiers_rising.calls _ Ai ci d true _ (by exact HCI.out) HCCI.out HRI.out).mono ?_; rintro e w' ⟨rfl, ⟨n1, rfl⟩⟩)
            | ((with_reducible refine gate_builtin (b := .append) (xs := #[.tmp 16, .tmp 17]) rfl ?_); at_builtin; refine Kd.R_append_rows k104 (w0 := w) w.heap.size rfl (.tmp 16) (.tmp 17) 63 104 (.agg #[(.string ⟨#[]⟩), (.string ⟨#[]⟩)]) 32 rfl Try.underlying63 info104 rfl (by decide) (by omega) _ acc d _ _ _ (fun _ => True) (fun _ => False) rfl rfl (by exact HR.out) (by exact HCI.out) (fun _ _ h => h) (fun _ h => h.elim) (fun _ _ => trivial) (by exact pw_below_drewN HB.out _) (by exact HB.out.size) HLEN.out ?_; intro v7 w7 ho7 hb7 hg7 hat7; have HO7 := Aside0.mk ho7; have HB7 := Aside0.mk hb7; clear ho7 hb7 hg7 hat7))
          go_roundg (gk - 1)
          case measure => omega
          case rel =>
            refine ⟨i + 1, by omega, by go_num, ?_, HB7.out, ?_⟩
            · rw [HT.out]
              exact HO7.out
            · rw [HTA.out, HALL.out, Bool.true_and]
              exact HRB.out
        | false =>
          have HRB := Aside0.mk hrb
          rw [hrb] at HRI
          clear hrb
          go_wp2_with ((go_at_call 73; refine (tiers_rising.calls _ Ai ci d false _ (by exact HCI.out) HCCI.out HRI.out).mono ?_; rintro e w' ⟨rfl, ⟨n1, rfl⟩⟩))
          go_ret2
          have hno : ¬ (l0.all riseB = true) := fun hh => by
            have h1 := List.all_eq_true.1 hh d HMEM.out
            rw [HRB.out] at h1
            cases h1
          have hm := HM.out
          unfold mergeOut at hm
          rw [if_neg hno] at hm
          obtain ⟨rfl, rfl⟩ := Prod.mk.inj hm
          exact ⟨_, rfl, Kd.R_nil _ _ _ _ _, pw_below_drewN HB.out _⟩
      · have hil : i = l0.length := by omega
        have hacc : (l0.take i).flatten = l0.flatten := by rw [hil, List.take_length]
        rw [hacc] at HR HC4 HCC4 ⊢
        rw [show l0.take i = l0 from by rw [hil, List.take_length]] at HALL
        have HLEN : Aside0 (l0.flatten.length ≤ 1000000000) := ⟨by have := HS2.out; omega⟩
        have HM2 : Aside0 ((if riseB (sortK l0.flatten) = true then (sortK l0.flatten, (0 : Int)) else ([], 4)) = (r1, r2)) := ⟨by have hm := HM.out; unfold mergeOut at hm; rw [if_pos HALL.out] at hm; exact hm⟩
        clear hil
        generalize l0.flatten = acc at *
        clear hacc
        go_wp2_with (go_at_call 74; refine (sort_calls (xs := acc) (by exact HR.out) HLEN.out).mono ?_; rintro e w2 ⟨rfl, ys, hp, hsrt, hr2, hg2⟩)
        obtain ⟨A5, c5, he5, hc5, hC5⟩ := Kd.R_reads hr2
        have hb2 : Below w.heap.size w w2 := pw_below_grown HB.out _ HB.out.size hg2 (fun kk hk => by obtain ⟨inner, ho⟩ := Kd.R_own HR.out; exact own_base ho kk hk)
        obtain ⟨hs1, hs2⟩ := sorted_same hp hsrt
        have hlen : acc.length = ys.length := hp.length_eq.symm
        have HS := Aside0.mk hs1
        have HSS := Aside0.mk hs2
        have HR2 := Aside0.mk hr2
        have HB2 := Aside0.mk hb2
        injection he5 with he51 he52 he53
        subst he51 he53
        have HC5 := Aside0.mk hC5
        have HCC5 := Aside0.mk hc5
        have HRI : Aside0 (tiers_rising.f (ys.length + 1) ys = some (riseB ys)) := ⟨rising_is _ (by have := HLEN.out; omega) _ (Nat.le_refl _)⟩
        clear hp hsrt hr2 hg2 hb2 hs1 hs2 hC5 hc5 he52
        rw [hlen] at *
        cases hrb : riseB ys with
        | true =>
          rw [hrb] at HS HSS HRI
          go_wp2_with (go_at_call 73; refine (tiers_rising.calls _ _ _ ys true _ (by exact HC5.out) HCC5.out HRI.out).mono ?_; rintro e w' ⟨rfl, ⟨n1, rfl⟩⟩)
          go_ret2
          have hm := HM2.out
          rw [if_pos HS.out.symm] at hm
          obtain ⟨rfl, rfl⟩ := Prod.mk.inj hm
          refine ⟨_, rfl, ?_, ?_⟩
          · rw [← HSS.out (by trivial)]
            exact Kd.R_drewN HR2.out _
          · exact pw_below_drewN HB2.out _
        | false =>
          rw [hrb] at HS HSS HRI
          go_wp2_with (go_at_call 73; refine (tiers_rising.calls _ _ _ ys false _ (by exact HC5.out) HCC5.out HRI.out).mono ?_; rintro e w' ⟨rfl, ⟨n1, rfl⟩⟩)
          go_ret2
          have hm := HM2.out
          rw [if_neg (by rw [← HS.out]; exact Bool.false_ne_true)] at hm
          obtain ⟨rfl, rfl⟩ := Prod.mk.inj hm
          exact ⟨_, rfl, Kd.R_nil _ _ _ _ _, pw_below_drewN HB2.out _⟩
  · rw [if_neg hsz] at h
    cases h

end Go.Proofs.Ytcacckaonjnmjaa.T
