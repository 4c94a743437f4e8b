/- Sessions in plain Lean: what holds of them while requests are made one by one (SessionOnce). -/
import Derived.Test.YtcacckaonjnmjaaSOne
namespace Go.Proofs.Ytcacckaonjnmjaa.S
open Go.RowKit Go.Proofs.YtcacckaonjnmjaaW.PrintWords Go.Proofs.YtcacckaonjnmjaaW.PrintLast Go.Proofs.YtcacckaonjnmjaaW.PrintMore
set_option linter.unusedVariables false
set_option linter.unusedSimpArgs false
def good (x : S88) (now : Int) : Prop := (1 ≤ x.f0 ∧ x.f0 ≤ now) ∧ (0 ≤ x.f1 ∧ x.f1 ≤ now) ∧ (0 ≤ x.f3 ∧ x.f3 ≤ now) ∧ x.f2.f0 = 0 ∧ (0 ≤ x.f2.f1 ∧ x.f2.f1 ≤ now) ∧ x.f2.f2 = []
theorem good.later {x : S88} {n m : Int} (h : good x n) (hm : n ≤ m) : good x m := by
  obtain ⟨⟨a, b⟩, ⟨c, d⟩, ⟨e, f⟩, g, ⟨i, j⟩, k⟩ := h
  exact ⟨⟨a, by omega⟩, ⟨c, by omega⟩, ⟨e, by omega⟩, g, ⟨i, by omega⟩, k⟩
theorem numB_of {n m : Int} (h : m ≤ n) (h2 : n ≤ 1000) : numB n m = true := decide_eq_true ⟨h, by omega⟩
theorem mayP_of {s : List S88} {now : Int} (hn : now ≤ 1000) (hr : riseS s) (hl : s.length ≤ 8) (hg : ∀ x ∈ s, good x now) : mayP s := by
  refine ⟨fun j _ hj => ?_, hl⟩
  obtain ⟨⟨a, b⟩, ⟨c, d⟩, ⟨e, f⟩, g, ⟨i, k⟩, m⟩ := hg s[j] (List.getElem_mem hj)
  unfold stepB
  rw [rd88_at s j hj, numB_of a (by omega), numB_of c (by omega), numB_of e (by omega)]
  simp only [Bool.true_and, Bool.and_eq_true, Bool.or_eq_true, decide_eq_true_eq]
  refine ⟨?_, ?_⟩
  · unfold replyB
    rw [g, m, numB_of i (by omega)]
    rfl
  · cases j with
    | zero => exact .inl rfl
    | succ j =>
      rw [Nat.add_sub_cancel, rd88_at s j (by omega)]
      exact .inr (List.pairwise_iff_getElem.1 hr j (j + 1) (by omega) hj (by omega))
/-- us: the sessions in the order in which they were used. -/
structure Inv (s us : List S88) (now : Int) : Prop where
  perm : us.Perm s
  used : us.Pairwise (fun a b => a.f3 < b.f3)
  rise : riseS s
  len : s.length ≤ 8
  good : ∀ x ∈ s, good x now
theorem Inv.may {s us : List S88} {now : Int} (h : Inv s us now) (hn : now ≤ 1000) : mayP s := mayP_of hn h.rise h.len h.good
theorem inj_rise {s : List S88} (hr : riseS s) {x y : S88} (hx : x ∈ s) (hy : y ∈ s) (h : x.f0 = y.f0) : x = y := by
  obtain ⟨i, hi, rfl⟩ := List.getElem_of_mem hx
  obtain ⟨j, hj, rfl⟩ := List.getElem_of_mem hy
  rcases Nat.lt_trichotomy i j with h1 | h1 | h1
  · have := List.pairwise_iff_getElem.1 hr i j hi hj h1; omega
  · subst h1; rfl
  · have := List.pairwise_iff_getElem.1 hr j i hj hi h1; omega
theorem nodup_rise {s : List S88} (hr : riseS s) : s.Nodup := List.Pairwise.imp (fun {a b} h he => by rw [he] at h; exact absurd h (by omega)) hr
theorem any_mem {s : List S88} {a : Int} : anyS s a = true ↔ ∃ x ∈ s, x.f0 = a := by
  unfold anyS
  rw [List.any_eq_true]
  exact ⟨fun ⟨x, hx, h⟩ => ⟨x, hx, beq_iff_eq.1 h⟩, fun ⟨x, hx, h⟩ => ⟨x, hx, beq_iff_eq.2 h⟩⟩
theorem any_no {s : List S88} {a : Int} (h : ∀ x ∈ s, x.f0 ≠ a) : anyS s a = false := by
  rw [Bool.eq_false_iff]
  intro ha
  obtain ⟨x, hx, he⟩ := any_mem.1 ha
  exact h x hx he
/-! ### a session is opened -/
theorem openTo_end {s : List S88} {a : Int} (h : ∀ x ∈ openCut s, x.f0 < a) : openTo s a = openCut s ++ [fresh88 a] := by
  have : (openCut s).countP (fun x => decide (x.f0 < a)) = (openCut s).length := List.countP_eq_length.2 (fun x hx => decide_eq_true (h x hx))
  unfold openTo
  rw [this, List.take_length, List.drop_length, List.append_nil]
theorem rise_end {s : List S88} {a : Int} (hr : riseS s) (h : ∀ x ∈ s, x.f0 < a) : riseS (s ++ [fresh88 a]) :=
  List.pairwise_append.2 ⟨hr, List.pairwise_singleton _ _, fun x hx y hy => by rw [List.mem_singleton.1 hy]; exact h x hx⟩
theorem good_fresh {a : Int} (h : 1 ≤ a) : good (fresh88 a) a := ⟨⟨h, Int.le_refl _⟩, ⟨Int.le_refl _, by show (0 : Int) ≤ a; omega⟩, ⟨by show (0 : Int) ≤ a; omega, Int.le_refl _⟩, rfl, ⟨Int.le_refl _, by show (0 : Int) ≤ a; omega⟩, rfl⟩
theorem inv_open {s us : List S88} {now : Int} (h : Inv s us now) (h0 : 0 ≤ now) (hl : s.length < 8) (hc : s.map clr = s) : openTo s (now + 1) = s ++ [fresh88 (now + 1)] ∧ Inv (openTo s (now + 1)) (us ++ [fresh88 (now + 1)]) (now + 1) := by
  have hcut : openCut s = s := by unfold openCut; rw [if_neg (by omega), hc]
  have hlt : ∀ x ∈ s, x.f0 < now + 1 := fun x hx => by have := (h.good x hx).1.2; omega
  have e := openTo_end (s := s) (a := now + 1) (by rw [hcut]; exact hlt)
  rw [hcut] at e
  refine ⟨e, ?_⟩
  rw [e]
  exact ⟨h.perm.append_right _, List.pairwise_append.2 ⟨h.used, List.pairwise_singleton _ _, fun x hx y hy => by
      rw [List.mem_singleton.1 hy]
      have := (h.good x (h.perm.mem_iff.1 hx)).2.2.1.2
      show x.f3 < now + 1
      omega⟩, rise_end h.rise hlt, by rw [List.length_append, List.length_singleton]; omega, fun x hx => by
      rcases List.mem_append.1 hx with hx | hx
      · exact (h.good x hx).later (by omega)
      · rw [List.mem_singleton.1 hx]; exact good_fresh (by omega)⟩
theorem leastTo_min (l : List S88) : ∀ i, i ≤ l.length → ∀ j, j < i → (rd_T88 l (leastTo l i : Int)).f3 ≤ (rd_T88 l (j : Int)).f3
  | 0, _, j, hj => absurd hj (Nat.not_lt_zero j)
  | i + 1, hi, j, hj => by
    have ih := leastTo_min l i (by omega)
    rw [show leastTo l (i + 1) = if (rd_T88 l (i : Int)).f3 < (rd_T88 l (leastTo l i : Int)).f3 then i else leastTo l i from rfl]
    split
    · rename_i hc
      rcases Nat.lt_succ_iff_lt_or_eq.1 hj with h1 | rfl
      · have := ih j h1; omega
      · omega
    · rename_i hc
      rcases Nat.lt_succ_iff_lt_or_eq.1 hj with h1 | rfl
      · exact ih j h1
      · omega
theorem perm_cons_erase {l : List S88} {i : Nat} (h : i < l.length) : (l[i] :: l.eraseIdx i).Perm l := by
  rw [List.eraseIdx_eq_take_drop_succ]
  have e : l.take i ++ l[i] :: l.drop (i + 1) = l := by rw [← List.drop_eq_getElem_cons h, List.take_append_drop]
  exact List.Perm.trans List.perm_middle.symm (List.Perm.of_eq e)
theorem inv_full {s us : List S88} {u : S88} {now : Int} (h : Inv s (u :: us) now) (h0 : 0 ≤ now) (hl : s.length = 8) (hc : s.map clr = s) : anyS (openTo s (now + 1)) u.f0 = false ∧ Inv (openTo s (now + 1)) (us ++ [fresh88 (now + 1)]) (now + 1) := by
  have hk : leastTo s s.length < s.length := by
    have : leastTo s (s.length - 1 + 1) ≤ s.length - 1 := by
      have := leastTo_le s (s.length - 1)
      rw [show leastTo s (s.length - 1 + 1) = if (rd_T88 s ((s.length - 1 : Nat) : Int)).f3 < (rd_T88 s (leastTo s (s.length - 1) : Int)).f3 then s.length - 1 else leastTo s (s.length - 1) from rfl]
      split
      · exact Nat.le_refl _
      · exact this
    rw [show s.length - 1 + 1 = s.length by omega] at this
    omega
  have hus : u ∈ s := h.perm.mem_iff.1 List.mem_cons_self
  have hmin := leastTo_min s s.length (Nat.le_refl _)
  obtain ⟨k, hkd⟩ : ∃ k, k = leastTo s s.length := ⟨_, rfl⟩
  have hcut : openCut s = s.eraseIdx k := by unfold openCut; rw [if_pos hl, hc, hc, ← hkd]
  rw [← hkd] at hk hmin
  clear hkd
  have hsk : s[k] = u := by
    obtain ⟨j, hj, hju⟩ := List.getElem_of_mem hus
    have h1 := hmin j hj
    rw [rd88_at s k hk, rd88_at s j hj, hju] at h1
    have h2 : s[k] ∈ u :: us := h.perm.mem_iff.2 (List.getElem_mem hk)
    rcases List.mem_cons.1 h2 with h2 | h2
    · exact h2
    · have := (List.pairwise_cons.1 h.used).1 _ h2
      omega
  have hp : (u :: s.eraseIdx k).Perm s := by rw [← hsk]; exact perm_cons_erase hk
  have hpu : us.Perm (s.eraseIdx k) := (List.perm_cons u).1 (h.perm.trans hp.symm)
  have hsub : ∀ x ∈ s.eraseIdx k, x ∈ s := fun x hx => List.mem_of_mem_eraseIdx hx
  have hlt : ∀ x ∈ s.eraseIdx k, x.f0 < now + 1 := fun x hx => by have := (h.good x (hsub x hx)).1.2; omega
  have e := openTo_end (s := s) (a := now + 1) (by rw [hcut]; exact hlt)
  rw [hcut] at e
  have hrise : riseS (s.eraseIdx k) := List.Pairwise.sublist (List.eraseIdx_sublist _ _) h.rise
  have hnd : (u :: s.eraseIdx k).Nodup := hp.symm.nodup_iff.1 (nodup_rise h.rise)
  rw [e]
  refine ⟨any_no (fun x hx he => ?_), ?_⟩
  · rcases List.mem_append.1 hx with hx | hx
    · have := inj_rise h.rise (hsub x hx) hus he
      subst this
      exact (List.nodup_cons.1 hnd).1 hx
    · rw [List.mem_singleton.1 hx] at he
      have he : now + 1 = u.f0 := he
      have := (h.good u hus).1.2
      omega
  · exact ⟨hpu.append_right _, List.pairwise_append.2 ⟨(List.pairwise_cons.1 h.used).2, List.pairwise_singleton _ _, fun x hx y hy => by
      rw [List.mem_singleton.1 hy]
      have := (h.good x (hsub x (hpu.mem_iff.1 hx))).2.2.1.2
      show x.f3 < now + 1
      omega⟩, rise_end hrise hlt, by rw [List.length_append, List.length_singleton, List.length_eraseIdx_of_lt hk]; omega, fun x hx => by
      rcases List.mem_append.1 hx with hx | hx
      · exact (h.good x (hsub x hx)).later (by omega)
      · rw [List.mem_singleton.1 hx]; exact good_fresh (by omega)⟩
/-! ### a request is done -/
theorem place_map (l : List S88) (a : Int) : placeS l a = (l.map (·.f0)).countP (fun n => decide (n < a)) := by
  unfold placeS
  rw [List.countP_map]
  rfl
theorem any_map (l : List S88) (a : Int) : anyS l a = (l.map (·.f0)).any (fun n => n == a) := by
  unfold anyS
  rw [List.any_map]
  rfl
def yS (c now : Int) : S88 := ⟨c, now, ⟨0, now, []⟩, now⟩
/-- What is known behind Done of the k-th used session. -/
structure AtK (s us x : List S88) (k p : Nat) (c now : Int) : Prop where
  plt : p < s.length
  at_ : ∀ h : p < s.length, s[p].f0 = c
  place : placeS s c = p
  there : anyS s c = true
  x_is : doneTo s c now 0 now now = x
  x_rd : rd_T88 x (p : Int) = yS c now
  xplace : placeS x c = p
  xthere : anyS x c = true
  inv : Inv x (us.eraseIdx k ++ [yS c now]) now
  closed : Inv (x.eraseIdx p) (us.eraseIdx k) now
  gone : anyS (x.eraseIdx p) c = false
theorem inv_done {s us : List S88} {now : Int} (h : Inv s us now) (h0 : 0 ≤ now) (hc : s.map clr = s) (k : Nat) (hk : k < us.length) : AtK s us (s.set (placeS s us[k].f0) (yS us[k].f0 (now + 1))) k (placeS s us[k].f0) us[k].f0 (now + 1) := by
  have hm : us[k] ∈ s := h.perm.mem_iff.1 (List.getElem_mem hk)
  have hth : anyS s us[k].f0 = true := any_mem.2 ⟨_, hm, rfl⟩
  have hai := any_iff h.rise us[k].f0
  rw [show (s.any fun x => x.f0 == us[k].f0) = true from hth] at hai
  have hai := of_decide_eq_true hai.symm
  have hlenus : us.length = s.length := h.perm.length_eq
  obtain ⟨c, hcd⟩ : ∃ c, c = us[k].f0 := ⟨_, rfl⟩
  rw [← hcd] at hth hai ⊢
  obtain ⟨p, hpd⟩ : ∃ p, p = placeS s c := ⟨_, rfl⟩
  rw [← hpd] at hai ⊢
  obtain ⟨hp, hpc⟩ := hai
  rw [rd88_at s p hp] at hpc
  have hspu : s[p] = us[k] := inj_rise h.rise (List.getElem_mem hp) hm (hpc.trans hcd)
  have hsk : (s[p] :: s.eraseIdx p).Perm s := perm_cons_erase hp
  have huk : (us[k] :: us.eraseIdx k).Perm us := perm_cons_erase hk
  have hpe : (us.eraseIdx k).Perm (s.eraseIdx p) := by
    rw [hspu] at hsk
    exact (List.perm_cons us[k]).1 (huk.trans (h.perm.trans hsk.symm))
  have hmap : (s.set p (yS c (now + 1))).map (·.f0) = s.map (·.f0) := by
    rw [List.map_set]
    show (s.map (·.f0)).set p c = s.map (·.f0)
    refine List.ext_getElem (by rw [List.length_set]) (fun i h1 h2 => ?_)
    rw [List.getElem_set]
    split
    · rename_i he; subst he; rw [List.getElem_map, hpc]
    · rfl
  have hrx : riseS (s.set p (yS c (now + 1))) := by
    have h1 : (s.map (·.f0)).Pairwise (· < ·) := List.pairwise_map.2 h.rise
    rw [← hmap] at h1
    exact List.pairwise_map.1 h1
  have hpx : p < (s.set p (yS c (now + 1))).length := by rw [List.length_set]; exact hp
  have hgm := h.good _ hm
  have hc1 : 1 ≤ c := by rw [hcd]; exact hgm.1.1
  have hc2 : c ≤ now := by rw [hcd]; exact hgm.1.2
  have hgy : good (yS c (now + 1)) (now + 1) := ⟨⟨hc1, by show c ≤ now + 1; omega⟩, ⟨by show (0 : Int) ≤ now + 1; omega, Int.le_refl _⟩, ⟨by show (0 : Int) ≤ now + 1; omega, Int.le_refl _⟩, rfl, ⟨by show (0 : Int) ≤ now + 1; omega, Int.le_refl _⟩, rfl⟩
  have hpl : placeS (s.set p (yS c (now + 1))) c = p := by rw [place_map, hmap, ← place_map, ← hpd]
  have hset : (s.set p (yS c (now + 1))).eraseIdx p = s.eraseIdx p := List.eraseIdx_set_eq
  have hgoodx : ∀ x ∈ s.set p (yS c (now + 1)), good x (now + 1) := fun x hx => by
    rcases List.mem_or_eq_of_mem_set hx with hx | rfl
    · exact (h.good x hx).later (by omega)
    · exact hgy
  have hsx : (s.set p (yS c (now + 1)))[p] = yS c (now + 1) := List.getElem_set_self _
  have hxp : (yS c (now + 1) :: s.eraseIdx p).Perm (s.set p (yS c (now + 1))) := by
    have := perm_cons_erase hpx
    rw [hsx, hset] at this
    exact this
  have hued : ∀ x ∈ us.eraseIdx k, x ∈ s := fun x hx => List.mem_of_mem_eraseIdx (hpe.mem_iff.1 hx)
  refine ⟨hp, fun _ => hpc, hpd.symm, hth, ?_, ?_, hpl, ?_, ?_, ?_, ?_⟩
  · unfold doneTo
    rw [hc, ← hpd, rd88_at s p hp]
    unfold putS yS
    rw [hpc]
  · rw [rd88_at _ p hpx, hsx]
  · rw [any_map, hmap, ← any_map]; exact hth
  · exact ⟨(List.perm_append_singleton _ _).trans (((List.perm_cons _).2 hpe).trans hxp), List.pairwise_append.2 ⟨List.Pairwise.sublist (List.eraseIdx_sublist _ _) h.used, List.pairwise_singleton _ _, fun x hx y hy => by
      rw [List.mem_singleton.1 hy]
      have := (h.good x (hued x hx)).2.2.1.2
      show x.f3 < now + 1
      omega⟩, hrx, by rw [List.length_set]; exact h.len, hgoodx⟩
  · rw [hset]
    exact ⟨hpe, List.Pairwise.sublist (List.eraseIdx_sublist _ _) h.used, List.Pairwise.sublist (List.eraseIdx_sublist _ _) h.rise, Nat.le_trans (List.eraseIdx_sublist _ _).length_le h.len, fun x hx => (h.good x (List.mem_of_mem_eraseIdx hx)).later (by omega)⟩
  · rw [hset]
    refine any_no (fun x hx he => ?_)
    have := inj_rise h.rise (List.mem_of_mem_eraseIdx hx) (List.getElem_mem hp) (he.trans hpc.symm)
    subst this
    exact (List.nodup_cons.1 (hsk.symm.nodup_iff.1 (nodup_rise h.rise))).1 hx
end Go.Proofs.Ytcacckaonjnmjaa.S
