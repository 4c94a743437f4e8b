/- TiersOrders: the walk. -/
import Derived.Test.YtcacckaonjnmjaaTOrd
import Derived.Test.YtcacckaonjnmjaaTWalk
import Derived.Test.YtcacckaonjnmjaaWNEv
namespace Go.Proofs.Ytcacckaonjnmjaa.T
open Go.RowKit Go.Proofs.YtcacckaonjnmjaaW.PrintWords Go.Proofs.YtcacckaonjnmjaaW.PrintLast Go.Proofs.YtcacckaonjnmjaaW.PrintMore
set_option linter.unusedVariables false
set_option linter.unusedSimpArgs false
theorem heavy_l0' (l : List (List S104)) (ns : List Int) (hok : ListsOk l ns) : ∀ d i (n : Int), i + d = l.length → ((l.take i).flatten.length : Int) + ns.length ≤ n → n ≤ 2000000000000000 →
    ∃ b, Ev (fun k => lecternlaw12_heavy.l0 k n (i : Int) l ns) b ∧ (b = false → l.length ≤ 60 ∧ l.flatten.length ≤ 5000 ∧ ns.length ≤ 5000)
  | 0, i, n, hd, h1, h2 => by
    rw [List.take_of_length_le (by omega)] at h1
    by_cases hn : n > 5000
    · refine ⟨true, Ev.step (Ev.step ((Ev.pure true).of_eq fun k => ?_)), fun h => by cases h⟩
      show lecternlaw12_heavy.l0 (k + 1 + 1) n (i : Int) l ns = _
      rw [lecternlaw12_heavy.l0, if_neg (by omega), lecternlaw12_heavy.j1, if_neg (by simp), if_pos hn]
    · refine ⟨decide ((l.length : Int) > 60), Ev.step (Ev.step ((Ev.pure _).of_eq fun k => ?_)), fun h => ?_⟩
      · show lecternlaw12_heavy.l0 (k + 1 + 1) n (i : Int) l ns = _
        rw [lecternlaw12_heavy.l0, if_neg (by omega), lecternlaw12_heavy.j1, if_neg (by simp), if_neg hn]
      · have := of_decide_eq_false h
        omega
  | d + 1, i, n, hd, h1, h2 => by
    have hlen := hok.1
    by_cases hn : n < 10000
    · have hi : i < l.length := by omega
      obtain ⟨a1, a2⟩ := hok.2.1 l[i] (List.getElem_mem hi)
      obtain ⟨t, h3, h4, h5⟩ := weight_is l[i] a1 a2
      have ht : l.take (i + 1) = l.take i ++ [l[i]] := List.take_succ_eq_append_getElem hi
      have e1 : wrap64 (n + t) = n + t := rising_wrap _ (by omega) (by omega)
      have e3 : wrap64 ((i : Int) + 1) = ((i + 1 : Nat) : Int) := by rw [rising_wrap _ (by omega) (by omega)]; omega
      obtain ⟨b, h6, h7⟩ := heavy_l0' l ns hok d (i + 1) (n + t) (by omega) (by
        rw [ht, List.flatten_append, List.length_append, List.flatten_cons, List.flatten_nil, List.append_nil]
        omega) (by omega)
      refine ⟨b, Ev.step (Ev.step ((Ev.bind h3 (g := fun k t => lecternlaw12_heavy.l0 k (wrap64 (n + t)) ((i + 1 : Nat) : Int) l ns) (by rw [e1]; exact h6)).of_eq fun k => ?_)), h7⟩
      show lecternlaw12_heavy.l0 (k + 1 + 1) n (i : Int) l ns = _
      rw [lecternlaw12_heavy.l0, if_pos (by omega), lecternlaw12_heavy.j1, if_pos (decide_eq_true hn), if_pos (by omega), if_pos (by omega), rdL2_at l i hi, e3]
    · refine ⟨true, Ev.step (Ev.step ((Ev.pure true).of_eq fun k => ?_)), fun h => by cases h⟩
      show lecternlaw12_heavy.l0 (k + 1 + 1) n (i : Int) l ns = _
      rw [lecternlaw12_heavy.l0, if_pos (by omega), lecternlaw12_heavy.j1, if_neg (by simpa using hn), if_pos (by omega)]
theorem heavy_is' (l : List (List S104)) (ns : List Int) (hok : ListsOk l ns) : ∃ b, Ev (fun k => lecternlaw12_heavy.f k l ns) b ∧ (b = false → l.length ≤ 60 ∧ l.flatten.length ≤ 5000 ∧ ns.length ≤ 5000) :=
  heavy_l0' l ns hok l.length 0 _ (by omega) (by simp) (by have := hok.2.2; omega)
/-- The law's argument lies in a box of its own. -/
structure OB (w W : World) (gb : Nat) (cs : Array Value) : Prop where
  box : W.heap[gb]? = some (.cells cs 61 (0, 0))
  below : Below w.heap.size w W
  ge : w.heap.size ≤ gb
theorem OB.under {w W W2 : World} {gb : Nat} {cs : Array Value} (h : OB w W gb cs) (hb : Below W.heap.size W W2) : OB w W2 gb cs := ⟨blk_below h.box hb, below_step h.below hb, h.ge⟩
theorem OB.drewN {w W : World} {gb : Nat} {cs : Array Value} (h : OB w W gb cs) (n : Nat) : OB w (W.drewN n) gb cs := h.under (pw_below_drewN (Below.refl _ _) n)
theorem OB.alloc {w W : World} {gb : Nat} {cs : Array Value} (h : OB w W gb cs) (o : Obj) : OB w (W.alloc o) gb cs := h.under (below_alloc (Below.refl _ _) o)
theorem OB.cell {w W : World} {gb : Nat} {cs : Array Value} (h : OB w W gb cs) (i : Nat) : W.cell? ⟨gb, i, none⟩ = cs[i]? := blk_cell h.box i
/-- What the call's own row of two rows reads as. -/
theorem two_C {W : World} {B : Nat} {ok : Nat → Prop} {v : Value} {xs ys : List S104} {A : Option Addr} {c : Nat} (h : Kd.R k104 104 W B ok v xs) (hA : Kd.C k104 W A ys.length ys) (hc : ys.length ≤ c) :
    Kd.C (Kd.slice 104 k104) (W.alloc (.cells #[v, .slice A ys.length c] 63 (0, 0))) (some ⟨W.heap.size, 0, none⟩) 2 [xs, ys] := by
  have hb := below_alloc (Below.refl W.heap.size W) (.cells #[v, .slice A ys.length c] 63 (0, 0))
  obtain ⟨A7, c7, rfl, hl7, hC7⟩ := Kd.R_reads h
  refine ⟨rfl, by decide, fun _ => ⟨⟨W.heap.size, 0, none⟩, rfl, fun j p hj => ?_⟩⟩
  have hcell : ∀ i : Nat, (W.alloc (.cells #[.slice A7 xs.length c7, .slice A ys.length c] 63 (0, 0))).cell? ⟨W.heap.size, i, none⟩ = (#[Value.slice A7 xs.length c7, .slice A ys.length c])[i]? := fun i => blk_cell (blk_new W _) i
  match j, hj with
  | 0, hj =>
    simp at hj
    subst hj
    refine ⟨[.slice A7 xs.length c7], rfl, ⟨A7, c7, rfl, hl7, Kd.C_below hC7 hb⟩, fun j u hu => ?_⟩
    match j, hu with
    | 0, hu =>
      simp at hu
      subst hu
      rw [add_plain]
      exact (hcell 0).trans rfl
    | j + 1, hu => simp at hu
  | 1, hj =>
    simp at hj
    subst hj
    refine ⟨[.slice A ys.length c], rfl, ⟨A, c, rfl, hc, Kd.C_below hA hb⟩, fun j u hu => ?_⟩
    match j, hu with
    | 0, hu =>
      simp at hu
      subst hu
      rw [add_plain]
      exact (hcell 1).trans rfl
    | j + 1, hu => simp at hu
  | j + 2, hj => simp at hj
theorem heap104 : Kd.Heap k104 := Kd.heap_iso _ (Kd.heap_pair Kd.heap_string Kd.heap_string)
/-- An element that came in: what it leads to is elder. -/
theorem came_in {w W : World} {A : Option Addr} {c : Nat} {ys : List S104} (hA : Kd.C k104 w A ys.length ys) (hc : ys.length ≤ c) (hb : Below w.heap.size w W) : Kd.FK (Kd.slice 104 k104) W (fun k => k < w.heap.size) ys [.slice A ys.length c] := fun W' hW => by
  exact ⟨A, c, rfl, hc, heap104.C (fun k hlt => (hW k hlt (Nat.lt_of_lt_of_le hlt hb.size)).trans (hb.block k hlt)) hA⟩

theorem planned_none {l : List Int} {r1 : Int} {r2 : Bool} (h : Planned l r1 r2) (hn : ∀ j, j + 4 ≤ l.length → ¬ Four l j) : r1 = 0 ∧ r2 = false := by
  rcases h with ⟨_, i, _, h4, hf, _⟩ | ⟨h1, h2, _⟩
  · exact absurd hf (hn i h4)
  · exact ⟨h2, h1⟩
theorem planned_at {l : List Int} {r1 : Int} {r2 : Bool} (h : Planned l r1 r2) (i : Nat) (hi : i + 4 ≤ l.length) (hf : Four l i) (hn : ∀ j, j < i → ¬ Four l j) : r1 = (i : Int) ∧ r2 = true := by
  rcases h with ⟨h1, i', h2, h4, hf', hn'⟩ | ⟨_, _, h3⟩
  · rcases Nat.lt_trichotomy i i' with h | h | h
    · exact absurd hf (hn' i h)
    · exact ⟨by rw [h2, h], h1⟩
    · exact absurd hf' (hn i' h)
  · exact absurd hf (h3 i hi)

theorem OB.grown {w W W1 : World} {gb : Nat} {cs : Array Value} (h : OB w W gb cs) (hb : Below w.heap.size w W1) {row : Option Nat} (hg : W.grownBy W1 row) (hne : some gb ≠ row) : OB w W1 gb cs := ⟨blk_grown h.box hg hne, hb, h.ge⟩
theorem sortK_nil : sortK ([] : List (List S104)).flatten = [] := by unfold sortK; simp
theorem ne_typed {W : World} {b b' : Nat} {ok ok' : Nat → Prop} {v v3 : Value} {xs : List (List S104)} {ys : List S104} (h : Kd.N (Kd.slice 104 k104) 63 W b ok v xs) (h3 : Kd.R k104 104 W b' ok' v3 ys) : ∀ k, v.ownBlock = some k → some k ≠ v3.ownBlock := fun k hk => by
  obtain ⟨cells, hb⟩ := Kd.N_typed h k hk
  exact Kd.R_ne h3 hb (by decide)

set_option maxHeartbeats 8000000 in
set_option maxRecDepth 100000 in
theorem orders_calls (A0 : Option Addr) (c0 : Nat) (l0 : List (List S104)) (A1 : Option Addr) (c1 : Nat) (l1 : List Int) (w : World) (hr0 : Kd.C (Kd.slice 104 k104) w A0 l0.length l0) (hc0 : l0.length ≤ c0) (hr1 : Kd.C (Kd.int .i64) w A1 l1.length l1) (hc1 : l1.length ≤ c1) (hok : ListsOk l0 l1) :
    Calls Try.prog 10 #[.agg #[.slice A0 l0.length c0, .slice A1 l1.length c1]] w fun e w' => e = .returned (.bool true) ∧ Below w.heap.size w w' := by
  have hu61 := Try.underlying61
  obtain ⟨b, ⟨kh, hh⟩, hlight⟩ := heavy_is' l0 l1 hok
  have hh := hh kh (Nat.le_refl _)
  have HR0 := Aside0.mk hr0
  have HC0 := Aside0.mk hc0
  have HR1 := Aside0.mk hr1
  have HC1 := Aside0.mk hc1
  clear hr0 hc0 hr1 hc1
  cases b with
  | true =>
    have HH := Aside0.mk hh
    clear hh hlight
    go_enter Try.func10, Try.ntmps10
    go_wp2_with (first | ((with_reducible refine gate_dst (N := 1) rfl ?_); refine box_event ?hg (N := 1) ?hd (cs := #[.slice A0 l0.length c0, .slice A1 l1.length c1]) (t := 61) ?hr ?_; (case hd => rfl); (case hg => rfl); (case hr => first | (go_simp; done) | (go_simp; rfl)); intro gb hg w4 hbox hb; have HO := Aside0.mk (OB.mk hbox hb (by rw [hg]; exact Nat.le_refl _)); have hcz0 : w4.cell? ⟨gb, 0, none⟩ = some (.slice A0 l0.length c0) := (HO.out.cell 0).trans rfl; have hcz1 : w4.cell? ⟨gb, 1, none⟩ = some (.slice A1 l1.length c1) := (HO.out.cell 1).trans rfl; clear hb hbox hg) | (go_at_call 35; refine (lecternlaw12_heavy.calls kh A0 c0 l0 A1 c1 l1 true _ (Kd.C_below HR0.out HO.out.below) HC0.out (Kd.C_below HR1.out HO.out.below) HC1.out HH.out).mono ?_; rintro e w5 ⟨rfl, hb⟩; have HO2 := Aside0.mk (HO.out.under hb); clear hb; clear HO hcz0 hcz1; have HO := HO2; clear HO2; have hcz0 : w5.cell? ⟨gb, 0, none⟩ = some (.slice A0 l0.length c0) := (HO.out.cell 0).trans rfl; have hcz1 : w5.cell? ⟨gb, 1, none⟩ = some (.slice A1 l1.length c1) := (HO.out.cell 1).trans rfl))
    go_ret
    exact ⟨rfl, HO.out.below⟩
  | false =>
    obtain ⟨hs1, hs2, hs3⟩ := hlight rfl
    have HH := Aside0.mk hh
    have hbig : Big l0 := ⟨by omega, by omega⟩
    obtain ⟨y3, er, hm⟩ : ∃ a b, mergeOut l0 = (a, b) := ⟨_, _, rfl⟩
    have HP : Aside0 (tiers_Merge.f l0 = some (y3, er)) := ⟨(prog_is l0 hbig).trans (congrArg some hm)⟩
    have HM := Aside0.mk hm
    have HBIG := Aside0.mk hbig
    have HS := Aside0.mk (And.intro hs1 (And.intro hs2 hs3))
    clear hh hlight hm hbig hs1 hs2
    obtain ⟨r1, r2, ⟨kp, hpl⟩, hplan⟩ := plan_is l1 (by omega)
    have HPL := Aside0.mk (hpl kp (Nat.le_refl _))
    have HPLAN := Aside0.mk hplan
    obtain ⟨kw, hwk⟩ := wakes_is
    have HWK : Aside0 (lecternlaw12_wakes.f kw = some true) := ⟨hwk kw (Nat.le_refl _)⟩
    clear hpl hplan hwk hs3
    by_cases her : er = 0
    · subst her
      go_enter Try.func10, Try.ntmps10
      go_wp2_with (first | ((with_reducible refine gate_dst (N := 1) rfl ?_); refine box_event ?hg (N := 1) ?hd (cs := #[.slice A0 l0.length c0, .slice A1 l1.length c1]) (t := 61) ?hr ?_; (case hd => rfl); (case hg => rfl); (case hr => first | (go_simp; done) | (go_simp; rfl)); intro gb hg w4 hbox hb; have HO := Aside0.mk (OB.mk hbox hb (by rw [hg]; exact Nat.le_refl _)); have hcz0 : w4.cell? ⟨gb, 0, none⟩ = some (.slice A0 l0.length c0) := (HO.out.cell 0).trans rfl; have hcz1 : w4.cell? ⟨gb, 1, none⟩ = some (.slice A1 l1.length c1) := (HO.out.cell 1).trans rfl; clear hb hbox hg) | (go_at_call 35; refine (lecternlaw12_heavy.calls kh A0 c0 l0 A1 c1 l1 false _ (Kd.C_below HR0.out HO.out.below) HC0.out (Kd.C_below HR1.out HO.out.below) HC1.out HH.out).mono ?_; rintro e w5 ⟨rfl, hb⟩; have HO2 := Aside0.mk (HO.out.under hb); clear hb; clear HO hcz0 hcz1; have HO := HO2; clear HO2; have hcz0 : w5.cell? ⟨gb, 0, none⟩ = some (.slice A0 l0.length c0) := (HO.out.cell 0).trans rfl; have hcz1 : w5.cell? ⟨gb, 1, none⟩ = some (.slice A1 l1.length c1) := (HO.out.cell 1).trans rfl) | (go_at_call 37; refine (tiers_Merge.calls A0 c0 l0 y3 0 _ (by repeat (first | exact (Kd.C_below HR0.out HO.out.below) | refine Kd.C_alloc ?_ _ | refine Kd.C_drewN ?_ _)) HC0.out HP.out).mono ?_; rintro e w6 ⟨v3, rfl, hr3, hb⟩; obtain ⟨A3, c3, rfl, hc3, hA3⟩ := Kd.R_reads hr3; clear hc3 hA3; have HO2 := Aside0.mk (OB.under (by repeat (first | exact HO.out | refine OB.drewN ?_ _ | refine OB.alloc ?_ _)) hb); have HR3 := Aside0.mk (Kd.R_lower hr3 (OB.below (by repeat (first | exact HO.out | refine OB.drewN ?_ _ | refine OB.alloc ?_ _))).size); clear hb hr3; clear HO hcz0 hcz1; have HO := HO2; clear HO2; have hcz0 : w6.cell? ⟨gb, 0, none⟩ = some (.slice A0 l0.length c0) := (HO.out.cell 0).trans rfl; have hcz1 : w6.cell? ⟨gb, 1, none⟩ = some (.slice A1 l1.length c1) := (HO.out.cell 1).trans rfl) | (go_at_call 39; refine (lecternlaw12_num.calls 0 0 _ rfl).mono ?_; rintro e w7 ⟨rfl, ⟨n_, rfl⟩⟩) | (go_at_call 43; refine (tiers_Plan.calls kp A1 c1 l1 r1 r2 _ (by repeat (first | exact (Kd.C_below HR1.out HO.out.below) | refine Kd.C_alloc ?_ _ | refine Kd.C_drewN ?_ _)) HC1.out HPL.out).mono ?_; rintro e w8 ⟨rfl, ⟨n8, rfl⟩⟩))

      go_loopg [5, 6, 7, 8, 9, 10] l0.length (fun kq v5 v6 v7 v8 v9 v10 w' => ∃ i n : Nat, Aside0 (i + kq = l0.length) ∧ Aside0 (n = (l0.take i).flatten.length) ∧ v8 = .int .i64 i ∧ v6 = .int .i64 n ∧ Aside0 (Kd.N (Kd.slice 104 k104) 63 w' w.heap.size (fun _ => True) v5 (l0.reverse.take i)) ∧ Aside0 (Kd.R k104 104 w' w.heap.size (fun _ => True) v7 (sortK (l0.take i).flatten)) ∧ Aside0 (Kd.R k104 104 w' w.heap.size (fun _ => True) (.slice A3 y3.length c3) y3) ∧ Aside0 (OB w w' gb #[.slice A0 l0.length c0, .slice A1 l1.length c1]))
      case atStart => exact ⟨0, 0, ⟨by omega⟩, ⟨by simp⟩, rfl, rfl, ⟨by rw [List.take_zero]; exact Kd.N_nil _ _ _ _ _⟩, ⟨by rw [List.take_zero, sortK_nil]; exact Kd.R_nil _ _ _ _ _⟩, ⟨(by repeat (first | exact HR3.out | refine Kd.R_drewN ?_ _))⟩, ⟨(by repeat (first | exact HO.out | refine OB.drewN ?_ _ | refine OB.alloc ?_ _))⟩⟩
      case round =>
        clear HO hcz0 hcz1 HR3
        obtain ⟨i, n, HIK, HNN, rfl, rfl, HN, HR7, HR3, HO⟩ := hrel
        have hcz0 : wr.cell? ⟨gb, 0, none⟩ = some (.slice A0 l0.length c0) := (HO.out.cell 0).trans rfl
        have hcz1 : wr.cell? ⟨gb, 1, none⟩ = some (.slice A1 l1.length c1) := (HO.out.cell 1).trans rfl
        by_cases hlt : i < l0.length
        · have clt : decide ((i : Int) < (l0.length : Int)) = true := decide_eq_true (by omega)
          have HLT := Aside0.mk hlt
          have h60 := HS.out.1
          obtain ⟨l9, hl9⟩ : ∃ x : Int, x = (l0.length : Int) - 1 := ⟨_, rfl⟩
          have e1 : wrap64 ((l0.length : Int) - 1) = l9 := by rw [hl9]; exact rising_wrap _ (by omega) (by omega)
          have e1w : IntKind.i64.wrap ((l0.length : Int) - 1) = l9 := (i64_w _).trans e1
          obtain ⟨rj, hrj⟩ : ∃ x : Nat, x = l0.length - 1 - i := ⟨_, rfl⟩
          have e2 : wrap64 (l9 - (i : Int)) = (rj : Int) := by rw [rising_wrap _ (by omega) (by omega)]; omega
          have e2w : IntKind.i64.wrap (l9 - (i : Int)) = (rj : Int) := (i64_w _).trans e2
          have hrl : rj < l0.length := by omega
          have p0 : (0 : Int) ≤ (rj : Int) := by omega
          have q0 : (rj : Int) < (l0.length : Int) := by omega
          have p1 : (0 : Int) ≤ (i : Int) := by omega
          have q1 : (i : Int) < (l0.length : Int) := by omega
          obtain ⟨ad, Ar, cr, hA, hcr, hlr, hCr⟩ := at_L2 HR0.out (rj : Int) p0 q0
          obtain ⟨ad', Ad, cd, hA', hcd, hld, hCd⟩ := at_L2 HR0.out (i : Int) p1 q1
          rw [rdL2_at l0 rj hrl, Int.toNat_natCast] at hcr
          rw [rdL2_at l0 rj hrl] at hlr hCr
          rw [rdL2_at l0 i hlt, Int.toNat_natCast] at hcd
          rw [rdL2_at l0 i hlt] at hld hCd
          have hA2 := hA.symm.trans hA'
          injection hA2 with hA2
          subst hA2
          subst hA
          clear hA'
          have HBK : Aside0 (l0.reverse.take (i + 1) = l0.reverse.take i ++ [l0[rj]]) := ⟨by
            rw [List.take_succ_eq_append_getElem (by rw [List.length_reverse]; exact hlt), List.getElem_reverse]
            simp only [hrj]⟩
          have HFL : Aside0 ((l0.take (i + 1)).flatten.length = (l0.take i).flatten.length + l0[i].length) := ⟨by rw [List.take_succ_eq_append_getElem hlt, List.flatten_append, List.length_append]; simp⟩
          have HP2 : Aside0 (tiers_Merge.f [sortK (l0.take i).flatten, l0[i]] = some (sortK (l0.take (i + 1)).flatten, 0)) := ⟨by
            rw [prog_is _ ⟨by simp, by
              have h1 := flatten_take_len l0 i
              have h2 := mem_len l0 l0[i] (List.getElem_mem hlt)
              have h3 := HS.out.2.1
              simp only [List.flatten_cons, List.flatten_nil, List.append_nil, List.length_append, sortK_len]
              omega⟩, merge_step (by rw [HM.out]) i hlt]⟩
          have HL : Aside0 (((l0.reverse.take i).length + 1) * 24 ≤ 140737488355328) := ⟨by rw [List.length_take, List.length_reverse]; omega⟩
          have h5 : n + l0[i].length ≤ 1000000 := by
            have h1 := flatten_take_len l0 i
            have h2 := mem_len l0 l0[i] (List.getElem_mem hlt)
            have h3 := HS.out.2.1
            have h4 := HNN.out
            omega
          obtain ⟨n2, hn2⟩ : ∃ x : Nat, x = n + l0[i].length := ⟨_, rfl⟩
          have e3 : wrap64 ((n : Int) + (l0[i].length : Int)) = (n2 : Int) := by rw [rising_wrap _ (by omega) (by omega)]; omega
          have e3w : IntKind.i64.wrap ((n : Int) + (l0[i].length : Int)) = (n2 : Int) := (i64_w _).trans e3
          have HN2 := Aside0.mk hn2
          have HCR := Aside0.mk hCr
          have HLR := Aside0.mk hlr
          have HCD := Aside0.mk hCd
          have HLD := Aside0.mk hld
          have HDC := Aside0.mk hcd
          have hcr2 := (HO.out.below.cell (World.block_lt_of_cell? w _ hcr)).trans hcr
          clear hn2 hCr hlr hCd hld hcd hcr hl9 hrj h60 h5
          obtain ⟨A7, c7, rfl, -, -⟩ := Kd.R_reads HR7.out
          generalize l0[rj] = pr at *
          generalize l0[i] = d at *
          generalize hbk : l0.reverse.take i = bk at *
          generalize hst : sortK (l0.take i).flatten = st at *
          generalize hst2 : sortK (l0.take (i + 1)).flatten = st2 at *
          have HST2 := Aside0.mk hst2
          clear hbk hst hst2 hrl hlt
          replace p0 := eq_true p0
          replace q0 := eq_true q0
          replace p1 := eq_true p1
          replace q1 := eq_true q1
          go_wp2_with (first | ((with_reducible refine gate_builtin (b := .append) (xs := #[.tmp 36, .tmp 47]) rfl ?_); at_builtin; (refine Kd.N_append (Kd.slice 104 k104) (w0 := w) w.heap.size rfl (.tmp 36) (.tmp 47) 59 63 (.slice none 0 0) 24 rfl Try.underlying59 info63 rfl (by decide) (by omega) u5 bk pr [.slice Ar pr.length cr] (fun _ => True) (fun k => k < w.heap.size) rfl rfl (came_in HCR.out HLR.out HO.out.below) (fun k hk => ⟨trivial, fun he => by have := Kd.N_base HN.out k he.symm; omega⟩) (fun _ _ => trivial) HN.out HO.out.below HO.out.below.size HL.out ?_); intro v5 w9 hn hb hg hat; have HO2 := Aside0.mk (OB.grown HO.out hb hg (Kd.N_ne HN.out HO.out.box (by decide))); have HR32 := Aside0.mk (Kd.R_grown2 HR3.out rfl hg (ne_typed HN.out HR3.out)); have HR72 := Aside0.mk (Kd.R_grown2 HR7.out rfl hg (ne_typed HN.out HR7.out)); have HN2 := Aside0.mk hn; clear HO HR3 HR7 HN; clear hn hb hg hat hcz0 hcz1; have HO := HO2; have HR3 := HR32; have HR7 := HR72; have HN := HN2; clear HO2 HR32 HR72 HN2; have hcz0 : w9.cell? ⟨gb, 0, none⟩ = some (.slice (some ad) l0.length c0) := (HO.out.cell 0).trans rfl; have hcz1 : w9.cell? ⟨gb, 1, none⟩ = some (.slice A1 l1.length c1) := (HO.out.cell 1).trans rfl; have hcd := (HO.out.below.cell (World.block_lt_of_cell? w _ HDC.out)).trans HDC.out) | (go_at_call 37; refine (tiers_Merge.calls _ 2 [st, d] st2 0 _ (two_C HR7.out (Kd.C_below HCD.out HO.out.below) HLD.out) (Nat.le_refl 2) HP2.out).mono ?_; rintro e w11 ⟨v9, rfl, hr9, hb⟩; have HO2 := Aside0.mk (OB.under (OB.alloc HO.out _) hb); have HR32 := Aside0.mk (Kd.R_below (Kd.R_alloc HR3.out _) hb); have HN2 := Aside0.mk (Kd.N_below (Kd.N_alloc HN.out _) hb); have HR92 := Aside0.mk (Kd.R_lower hr9 (OB.alloc HO.out _).below.size); clear HO HR3 HR7 HN; clear hb hr9 hcz0 hcz1 hcd; have HO := HO2; have HR3 := HR32; have HN := HN2; have HR7 := HR92; clear HO2 HR32 HN2 HR92; have hcz0 : w11.cell? ⟨gb, 0, none⟩ = some (.slice (some ad) l0.length c0) := (HO.out.cell 0).trans rfl; have hcz1 : w11.cell? ⟨gb, 1, none⟩ = some (.slice A1 l1.length c1) := (HO.out.cell 1).trans rfl) | (go_at_call 39; refine (lecternlaw12_num.calls 0 0 _ rfl).mono ?_; rintro e w12 ⟨rfl, ⟨n_, rfl⟩⟩))
          go_roundg (l0.length - i - 1)
          case measure => have := HIK.out; have := HLT.out; omega
          case rel =>
            refine ⟨i + 1, n2, ⟨by have := HLT.out; omega⟩, ⟨by rw [HN2.out, HFL.out, HNN.out]⟩, (by have h1 := HS.out.1; have h3 := HLT.out; simp only [i64_w, wrn i (by omega)]), rfl, ⟨by rw [HBK.out]; exact (by repeat (first | exact HN.out | refine Kd.N_drewN ?_ _))⟩, ⟨by rw [HST2.out]; exact (by repeat (first | exact HR7.out | refine Kd.R_drewN ?_ _))⟩, ⟨(by repeat (first | exact HR3.out | refine Kd.R_drewN ?_ _))⟩, ⟨(by repeat (first | exact HO.out | refine OB.drewN ?_ _ | refine OB.alloc ?_ _))⟩⟩
        · have clt : decide ((i : Int) < (l0.length : Int)) = false := decide_eq_false (by omega)
          have hil : i = l0.length := by have := HIK.out; omega
          obtain ⟨A5, c5, rfl, hc5, hC5⟩ := Kd.N_reads HN.out
          obtain ⟨A7, c7, rfl, hc7, hC7⟩ := Kd.R_reads HR7.out
          obtain ⟨A3', c3', he3, hc3, hC3⟩ := Kd.R_reads HR3.out
          injection he3 with he1 he2 he3
          subst he1 he3
          have hy3 : sortK l0.flatten = y3 := by
            have h := (merge_ok (l := l0) (by rw [HM.out])).2.2
            rw [HM.out] at h
            exact h.symm
          have hny : n = y3.length := by rw [HNN.out, hil, List.take_length, ← hy3, sortK_len]
          have hbk : l0.reverse.take i = l0.reverse := List.take_of_length_le (by rw [List.length_reverse]; omega)
          have hst : sortK (l0.take i).flatten = y3 := by rw [hil, List.take_length]; exact hy3
          rw [hst] at hc7 hC7
          rw [hst]
          rw [hbk] at hc5 hC5
          rw [hbk]
          have HP3 : Aside0 (tiers_Merge.f l0.reverse = some (y3, 0)) := ⟨by
            rw [prog_is _ ⟨by rw [List.length_reverse]; have := HS.out.1; omega, by
              have h1 := (List.reverse_perm l0).flatten.length_eq
              have h3 := HS.out.2.1
              omega⟩, merge_rev (by rw [HM.out]), HM.out]⟩
          have HYL : y3.length ≤ 1000000 := by rw [← hy3, sortK_len]; have := HS.out.2.1; omega
          obtain ⟨ke, hke⟩ := eqDocs_is y3 HYL
          have HEQ : Aside0 (lecternref0_EqDocs.f ke y3 y3 = some true) := ⟨hke ke (Nat.le_refl _)⟩
          have HC5 := Aside0.mk hC5
          have HL5 := Aside0.mk hc5
          have HC7 := Aside0.mk hC7
          have HL7 := Aside0.mk hc7
          have HC3 := Aside0.mk hC3
          have HL3 := Aside0.mk hc3
          subst hny
          clear HN HR7 HR3 HNN hC5 hc5 hC7 hc7 hC3 hc3 hke HYL hst hbk hy3 he2 hil
          generalize l0.reverse = bk at *
          go_wp2_with (first | (go_at_call 37; (with_reducible refine (tiers_Merge.calls A5 c5 bk y3 0 _ ?sa HL5.out HP3.out).mono ?_); (case sa => exact (by repeat (first | exact HC5.out | refine Kd.C_drewN ?_ _))); rintro e w12 ⟨v11, rfl, hr11, hb⟩; have HO2 := Aside0.mk (OB.under (by repeat (first | exact HO.out | refine OB.drewN ?_ _ | refine OB.alloc ?_ _)) hb); have HC32 := Aside0.mk (Kd.C_below (by repeat (first | exact HC3.out | refine Kd.C_drewN ?_ _)) hb); have HC72 := Aside0.mk (Kd.C_below (by repeat (first | exact HC7.out | refine Kd.C_drewN ?_ _)) hb); obtain ⟨A11, c11, rfl, hc11, hC11⟩ := Kd.R_reads hr11; have HC11 := Aside0.mk hC11; have HL11 := Aside0.mk hc11; clear HO HC3 HC7; clear hb hr11 hc11 hC11 hcz0 hcz1; have HO := HO2; have HC3 := HC32; have HC7 := HC72; clear HO2 HC32 HC72; have hcz0 : w12.cell? ⟨gb, 0, none⟩ = some (.slice A0 l0.length c0) := (HO.out.cell 0).trans rfl; have hcz1 : w12.cell? ⟨gb, 1, none⟩ = some (.slice A1 l1.length c1) := (HO.out.cell 1).trans rfl) | (go_at_call 39; refine (lecternlaw12_num.calls 0 0 _ rfl).mono ?_; rintro e w12 ⟨rfl, ⟨n_, rfl⟩⟩) | (go_at_call 40; (with_reducible refine (lecternref0_EqDocs.calls ke A3 c3 y3 A11 c11 y3 true _ ?sa HL3.out ?sb HL11.out HEQ.out).mono ?_); (case sa => exact (by repeat (first | exact HC3.out | refine Kd.C_drewN ?_ _))); (case sb => exact (by repeat (first | exact HC11.out | refine Kd.C_drewN ?_ _))); rintro e w13 ⟨rfl, ⟨n13, rfl⟩⟩) | (go_at_call 40; (with_reducible refine (lecternref0_EqDocs.calls ke A3 c3 y3 A7 c7 y3 true _ ?sa HL3.out ?sb HL7.out HEQ.out).mono ?_); (case sa => exact (by repeat (first | exact HC3.out | refine Kd.C_drewN ?_ _))); (case sb => exact (by repeat (first | exact HC7.out | refine Kd.C_drewN ?_ _))); rintro e w14 ⟨rfl, ⟨n14, rfl⟩⟩) | (go_at_call 43; refine (tiers_Plan.calls kp A1 c1 l1 r1 r2 _ (by repeat (first | exact (Kd.C_below HR1.out HO.out.below) | refine Kd.C_alloc ?_ _ | refine Kd.C_drewN ?_ _)) HC1.out HPL.out).mono ?_; rintro e w8 ⟨rfl, ⟨n8, rfl⟩⟩))
          clear HIK clt HP3 HEQ HC5 HL5 HC7 HL7 HC3 HL3 HC11 HL11 HM HP HBIG

          go_loopg [15, 16, 17] (l1.length + 1) (fun kq v15 v16 v17 w' => ∃ i : Nat, Aside0 (i + kq = l1.length + 1) ∧ v15 = .int .i64 i ∧ Aside0 (∀ j, j < i → ¬ Four l1 j) ∧ Aside0 (OB w w' gb #[.slice A0 l0.length c0, .slice A1 l1.length c1]))
          case atStart => exact ⟨0, ⟨by omega⟩, rfl, ⟨fun j hj => by omega⟩, ⟨(by repeat (first | exact HO.out | refine OB.drewN ?_ _ | refine OB.alloc ?_ _))⟩⟩
          case round =>
            clear HO hcz0 hcz1
            obtain ⟨i, HIK, rfl, HNO, HO⟩ := hrel
            have hcz0 : wr.cell? ⟨gb, 0, none⟩ = some (.slice A0 l0.length c0) := (HO.out.cell 0).trans rfl
            have hcz1 : wr.cell? ⟨gb, 1, none⟩ = some (.slice A1 l1.length c1) := (HO.out.cell 1).trans rfl
            have e4 : wrap64 ((i : Int) + 4) = ((i + 4 : Nat) : Int) := by have := HS.out.2.2; have := HIK.out; rw [rising_wrap _ (by omega) (by omega)]; omega
            obtain ⟨i4, hi4⟩ : ∃ x : Int, x = ((i + 4 : Nat) : Int) := ⟨_, rfl⟩
            rw [← hi4] at e4
            have e4w : IntKind.i64.wrap ((i : Int) + 4) = i4 := (i64_w _).trans e4
            clear e4
            by_cases h4 : i + 4 ≤ l1.length
            · have c4 : decide (i4 ≤ (l1.length : Int)) = true := decide_eq_true (by omega)
              clear hi4
              have H4 := Aside0.mk h4
              clear h4
              obtain ⟨ca, hca⟩ : ∃ c, c = cls (rd l1 (i : Int)) := ⟨_, rfl⟩
              obtain ⟨ka, hka⟩ := cls_is (rd l1 (i : Int))
              have HCA : Aside0 (tiers_Class.f ka (rd l1 (i : Int)) = some ca) := ⟨by rw [hca]; exact hka ka (Nat.le_refl _)⟩
              have HCE := Aside0.mk hca
              clear hca hka
              go_wp2_with fail
              go_loopg [16, 17] 3 (fun kq v16 v17 w' => ∃ (j : Nat) (s : Bool), Aside0 (j + kq = 4) ∧ Aside0 (1 ≤ j) ∧ v17 = .int .i64 j ∧ v16 = .bool s ∧ Aside0 (s = true ↔ ∀ m : Nat, m < j → cls (rd l1 ((i : Int) + (m : Int))) = cls (rd l1 (i : Int))) ∧ Aside0 (OB w w' gb #[.slice A0 l0.length c0, .slice A1 l1.length c1]))
              case atStart => exact ⟨1, true, ⟨by omega⟩, ⟨by omega⟩, rfl, rfl, ⟨fun _ m hm => by rw [show (i : Int) + (m : Int) = (i : Int) by omega], fun _ => rfl⟩, ⟨(by repeat (first | exact HO.out | refine OB.drewN ?_ _ | refine OB.alloc ?_ _))⟩⟩
              case round =>
                clear HO hcz0 hcz1
                obtain ⟨j, s, HJK, HJ1, rfl, rfl, HSAME, HO⟩ := hrel
                have hcz0 : wr.cell? ⟨gb, 0, none⟩ = some (.slice A0 l0.length c0) := (HO.out.cell 0).trans rfl
                have hcz1 : wr.cell? ⟨gb, 1, none⟩ = some (.slice A1 l1.length c1) := (HO.out.cell 1).trans rfl
                by_cases hj4 : j < 4
                · have cj : decide ((j : Int) < 4) = true := decide_eq_true (by omega)
                  have HJ4 := Aside0.mk hj4
                  have eij : wrap64 ((i : Int) + (j : Int)) = ((i + j : Nat) : Int) := by have := HS.out.2.2; have := HIK.out; rw [rising_wrap _ (by omega) (by omega)]; omega
                  obtain ⟨ij, hij⟩ : ∃ x : Int, x = ((i + j : Nat) : Int) := ⟨_, rfl⟩
                  rw [← hij] at eij
                  have eijw : IntKind.i64.wrap ((i : Int) + (j : Int)) = ij := (i64_w _).trans eij
                  have p0 : (0 : Int) ≤ (i : Int) := by omega
                  have q0 : (i : Int) < (l1.length : Int) := by have := H4.out; omega
                  have p1 : (0 : Int) ≤ ij := by omega
                  have q1 : ij < (l1.length : Int) := by have := H4.out; omega
                  have HIJ := Aside0.mk hij
                  clear hij eij
                  obtain ⟨ad, ead, hx0⟩ := Kd.at_int HR1.out (i : Int) p0 q0
                  obtain ⟨ad', ead', hx1⟩ := Kd.at_int HR1.out ij p1 q1
                  have hx0w := (HO.out.below.cell (World.block_lt_of_cell? w _ hx0)).trans hx0
                  have hx1w := (HO.out.below.cell (World.block_lt_of_cell? w _ hx1)).trans hx1
                  rw [Int.toNat_natCast] at hx0w
                  clear hx0 hx1
                  have ead2 := ead.symm.trans ead'
                  injection ead2 with ead2
                  subst ead2
                  subst ead
                  clear ead' hj4
                  replace p0 := eq_true p0
                  replace q0 := eq_true q0
                  replace p1 := eq_true p1
                  replace q1 := eq_true q1
                  obtain ⟨cb, hcb⟩ : ∃ c, c = cls (rd l1 ij) := ⟨_, rfl⟩
                  obtain ⟨kb, hkb⟩ := cls_is (rd l1 ij)
                  have HCB : Aside0 (tiers_Class.f kb (rd l1 ij) = some cb) := ⟨by rw [hcb]; exact hkb kb (Nat.le_refl _)⟩
                  have HCF := Aside0.mk hcb
                  clear hcb hkb
                  generalize hxa : rd l1 (i : Int) = xa at *
                  have HXA := Aside0.mk hxa
                  clear hxa
                  generalize hxb : rd l1 ij = xb at *
                  have HXB := Aside0.mk hxb
                  clear hxb
                  cases s with
                  | true =>
                    go_wp2_with fail
                    go_quiet (first | (go_at_call 44; refine (tiers_Class.calls ka xa ca _ HCA.out).mono ?_; rintro e w9 ⟨rfl, ⟨n9, rfl⟩⟩; first | exact ⟨rfl, _, World.drewN_drewN _ _ _⟩ | exact ⟨rfl, _, Eq.trans (World.drewN_drewN _ _ _) (congrArg (World.drewN _) (Nat.add_assoc _ _ _))⟩) | (go_at_call 44; refine (tiers_Class.calls kb xb cb _ HCB.out).mono ?_; rintro e w9 ⟨rfl, ⟨n9, rfl⟩⟩; first | exact ⟨rfl, _, World.drewN_drewN _ _ _⟩ | exact ⟨rfl, _, Eq.trans (World.drewN_drewN _ _ _) (congrArg (World.drewN _) (Nat.add_assoc _ _ _))⟩))
                    go_wp2_with fail
                    go_roundg (3 - j)
                    case measure => have := HJK.out; have := HJ4.out; omega
                    case rel =>
                      refine ⟨j + 1, (ca == cb), ⟨by have := HJ4.out; omega⟩, ⟨by omega⟩, (by have h3 := HJ4.out; simp only [i64_w, wrn j (by omega)]), rfl, ⟨?_⟩, ⟨(by repeat (first | exact HO.out | refine OB.drewN ?_ _ | refine OB.alloc ?_ _))⟩⟩
                      have hall := HSAME.out.1 (by trivial)
                      have e1 := HCE.out
                      have e2 := HCF.out
                      have e3 := HXB.out
                      have e4 := HIJ.out
                      have e5 := HXA.out
                      have e6 : rd l1 ((i : Int) + (j : Int)) = xb := by rw [← e3, e4]; congr 1
                      rw [beq_iff_eq, e1, e2]
                      refine ⟨fun h m hm => ?_, fun h => ?_⟩
                      · rcases Nat.lt_or_ge m j with hlt | hge
                        · exact hall m hlt
                        · rw [show m = j by omega, e6, ← h]
                      · have := h j (by omega)
                        rw [e6] at this
                        exact this.symm
                  | false =>
                    go_wp2_with fail
                    go_quiet (fail)
                    go_wp2_with fail
                    go_roundg (3 - j)
                    case measure => have := HJK.out; have := HJ4.out; omega
                    case rel =>
                      refine ⟨j + 1, false, ⟨by have := HJ4.out; omega⟩, ⟨by omega⟩, (by have h3 := HJ4.out; simp only [i64_w, wrn j (by omega)]), rfl, ⟨?_⟩, ⟨(by repeat (first | exact HO.out | refine OB.drewN ?_ _ | refine OB.alloc ?_ _))⟩⟩
                      refine ⟨fun h => (by cases h), fun h => ?_⟩
                      have := HSAME.out.2 (fun m hm => h m (by omega))
                      cases this
                · have cj : decide ((j : Int) < 4) = false := decide_eq_false (by omega)
                  have hj : j = 4 := by have := HJK.out; omega
                  have HF : Aside0 (s = true ↔ Four l1 i) := ⟨by have h := HSAME.out; rw [hj] at h; exact h⟩
                  clear hj
                  cases s with
                  | true =>
                    obtain ⟨hr1, hr2⟩ := planned_at HPLAN.out i H4.out (HF.out.1 rfl) HNO.out
                    subst hr1
                    subst hr2
                    go_wp2_with (first | (go_at_call 42; refine (lecternlaw12_wakes.calls kw true _ HWK.out).mono ?_; rintro e w10 ⟨rfl, hb⟩; have HO2 := Aside0.mk (OB.under (by repeat (first | exact HO.out | refine OB.drewN ?_ _ | refine OB.alloc ?_ _)) hb); clear hb; clear HO hcz0 hcz1; have HO := HO2; clear HO2; have hcz0 : w10.cell? ⟨gb, 0, none⟩ = some (.slice A0 l0.length c0) := (HO.out.cell 0).trans rfl; have hcz1 : w10.cell? ⟨gb, 1, none⟩ = some (.slice A1 l1.length c1) := (HO.out.cell 1).trans rfl))
                    go_ret
                    exact ⟨rfl, HO.out.below⟩
                  | false =>
                    go_wp2_with fail
                    go_roundg (l1.length - i)
                    case measure => have := HIK.out; have := H4.out; omega
                    case rel =>
                      refine ⟨i + 1, ⟨by have := HIK.out; have := H4.out; omega⟩, (by have h1 := HS.out.2.2; have h3 := H4.out; simp only [i64_w, wrn i (by omega)]), ⟨fun j hj hf => ?_⟩, ⟨(by repeat (first | exact HO.out | refine OB.drewN ?_ _ | refine OB.alloc ?_ _))⟩⟩
                      rcases Nat.lt_or_ge j i with h | h
                      · exact HNO.out j h hf
                      · rw [show j = i by omega] at hf
                        have := HF.out.2 hf
                        cases this
            · have c4 : decide (i4 ≤ (l1.length : Int)) = false := decide_eq_false (by omega)
              clear hi4
              obtain ⟨hr1, hr2⟩ := planned_none HPLAN.out (fun j hj => HNO.out j (by omega))
              subst hr1
              subst hr2
              go_wp2_with (first | (go_at_call 42; refine (lecternlaw12_wakes.calls kw true _ HWK.out).mono ?_; rintro e w10 ⟨rfl, hb⟩; have HO2 := Aside0.mk (OB.under (by repeat (first | exact HO.out | refine OB.drewN ?_ _ | refine OB.alloc ?_ _)) hb); clear hb; clear HO hcz0 hcz1; have HO := HO2; clear HO2; have hcz0 : w10.cell? ⟨gb, 0, none⟩ = some (.slice A0 l0.length c0) := (HO.out.cell 0).trans rfl; have hcz1 : w10.cell? ⟨gb, 1, none⟩ = some (.slice A1 l1.length c1) := (HO.out.cell 1).trans rfl))
              go_ret
              exact ⟨rfl, HO.out.below⟩

    · have her0 : (er == 0) = false := by simpa using her
      clear her
      go_enter Try.func10, Try.ntmps10
      go_wp2_with (first | ((with_reducible refine gate_dst (N := 1) rfl ?_); refine box_event ?hg (N := 1) ?hd (cs := #[.slice A0 l0.length c0, .slice A1 l1.length c1]) (t := 61) ?hr ?_; (case hd => rfl); (case hg => rfl); (case hr => first | (go_simp; done) | (go_simp; rfl)); intro gb hg w4 hbox hb; have HO := Aside0.mk (OB.mk hbox hb (by rw [hg]; exact Nat.le_refl _)); have hcz0 : w4.cell? ⟨gb, 0, none⟩ = some (.slice A0 l0.length c0) := (HO.out.cell 0).trans rfl; have hcz1 : w4.cell? ⟨gb, 1, none⟩ = some (.slice A1 l1.length c1) := (HO.out.cell 1).trans rfl; clear hb hbox hg) | (go_at_call 35; refine (lecternlaw12_heavy.calls kh A0 c0 l0 A1 c1 l1 false _ (Kd.C_below HR0.out HO.out.below) HC0.out (Kd.C_below HR1.out HO.out.below) HC1.out HH.out).mono ?_; rintro e w5 ⟨rfl, hb⟩; have HO2 := Aside0.mk (HO.out.under hb); clear hb; clear HO hcz0 hcz1; have HO := HO2; clear HO2; have hcz0 : w5.cell? ⟨gb, 0, none⟩ = some (.slice A0 l0.length c0) := (HO.out.cell 0).trans rfl; have hcz1 : w5.cell? ⟨gb, 1, none⟩ = some (.slice A1 l1.length c1) := (HO.out.cell 1).trans rfl) | (go_at_call 37; refine (tiers_Merge.calls A0 c0 l0 y3 er _ (by repeat (first | exact (Kd.C_below HR0.out HO.out.below) | refine Kd.C_alloc ?_ _ | refine Kd.C_drewN ?_ _)) HC0.out HP.out).mono ?_; rintro e w6 ⟨v3, rfl, hr3, hb⟩; have HO2 := Aside0.mk (OB.under (by repeat (first | exact HO.out | refine OB.drewN ?_ _ | refine OB.alloc ?_ _)) hb); have HR3 := Aside0.mk (Kd.R_lower hr3 (below_size (OB.below (by repeat (first | exact HO.out | refine OB.drewN ?_ _ | refine OB.alloc ?_ _))))); clear hb hr3; clear HO hcz0 hcz1; have HO := HO2; clear HO2; have hcz0 : w6.cell? ⟨gb, 0, none⟩ = some (.slice A0 l0.length c0) := (HO.out.cell 0).trans rfl; have hcz1 : w6.cell? ⟨gb, 1, none⟩ = some (.slice A1 l1.length c1) := (HO.out.cell 1).trans rfl) | (go_at_call 39; refine (lecternlaw12_num.calls er er _ rfl).mono ?_; rintro e w7 ⟨rfl, ⟨n_, rfl⟩⟩) | (go_at_call 43; refine (tiers_Plan.calls kp A1 c1 l1 r1 r2 _ (by repeat (first | exact (Kd.C_below HR1.out HO.out.below) | refine Kd.C_alloc ?_ _ | refine Kd.C_drewN ?_ _)) HC1.out HPL.out).mono ?_; rintro e w8 ⟨rfl, ⟨n8, rfl⟩⟩))

      go_loopg [15, 16, 17] (l1.length + 1) (fun kq v15 v16 v17 w' => ∃ i : Nat, Aside0 (i + kq = l1.length + 1) ∧ v15 = .int .i64 i ∧ Aside0 (∀ j, j < i → ¬ Four l1 j) ∧ Aside0 (OB w w' gb #[.slice A0 l0.length c0, .slice A1 l1.length c1]))
      case atStart => exact ⟨0, ⟨by omega⟩, rfl, ⟨fun j hj => by omega⟩, ⟨(by repeat (first | exact HO.out | refine OB.drewN ?_ _ | refine OB.alloc ?_ _))⟩⟩
      case round =>
        clear HO hcz0 hcz1
        obtain ⟨i, HIK, rfl, HNO, HO⟩ := hrel
        have hcz0 : wr.cell? ⟨gb, 0, none⟩ = some (.slice A0 l0.length c0) := (HO.out.cell 0).trans rfl
        have hcz1 : wr.cell? ⟨gb, 1, none⟩ = some (.slice A1 l1.length c1) := (HO.out.cell 1).trans rfl
        have e4 : wrap64 ((i : Int) + 4) = ((i + 4 : Nat) : Int) := by have := HS.out.2.2; have := HIK.out; rw [rising_wrap _ (by omega) (by omega)]; omega
        obtain ⟨i4, hi4⟩ : ∃ x : Int, x = ((i + 4 : Nat) : Int) := ⟨_, rfl⟩
        rw [← hi4] at e4
        have e4w : IntKind.i64.wrap ((i : Int) + 4) = i4 := (i64_w _).trans e4
        clear e4
        by_cases h4 : i + 4 ≤ l1.length
        · have c4 : decide (i4 ≤ (l1.length : Int)) = true := decide_eq_true (by omega)
          clear hi4
          have H4 := Aside0.mk h4
          clear h4
          obtain ⟨ca, hca⟩ : ∃ c, c = cls (rd l1 (i : Int)) := ⟨_, rfl⟩
          obtain ⟨ka, hka⟩ := cls_is (rd l1 (i : Int))
          have HCA : Aside0 (tiers_Class.f ka (rd l1 (i : Int)) = some ca) := ⟨by rw [hca]; exact hka ka (Nat.le_refl _)⟩
          have HCE := Aside0.mk hca
          clear hca hka
          go_wp2_with fail
          go_loopg [16, 17] 3 (fun kq v16 v17 w' => ∃ (j : Nat) (s : Bool), Aside0 (j + kq = 4) ∧ Aside0 (1 ≤ j) ∧ v17 = .int .i64 j ∧ v16 = .bool s ∧ Aside0 (s = true ↔ ∀ m : Nat, m < j → cls (rd l1 ((i : Int) + (m : Int))) = cls (rd l1 (i : Int))) ∧ Aside0 (OB w w' gb #[.slice A0 l0.length c0, .slice A1 l1.length c1]))
          case atStart => exact ⟨1, true, ⟨by omega⟩, ⟨by omega⟩, rfl, rfl, ⟨fun _ m hm => by rw [show (i : Int) + (m : Int) = (i : Int) by omega], fun _ => rfl⟩, ⟨(by repeat (first | exact HO.out | refine OB.drewN ?_ _ | refine OB.alloc ?_ _))⟩⟩
          case round =>
            clear HO hcz0 hcz1
            obtain ⟨j, s, HJK, HJ1, rfl, rfl, HSAME, HO⟩ := hrel
            have hcz0 : wr.cell? ⟨gb, 0, none⟩ = some (.slice A0 l0.length c0) := (HO.out.cell 0).trans rfl
            have hcz1 : wr.cell? ⟨gb, 1, none⟩ = some (.slice A1 l1.length c1) := (HO.out.cell 1).trans rfl
            by_cases hj4 : j < 4
            · have cj : decide ((j : Int) < 4) = true := decide_eq_true (by omega)
              have HJ4 := Aside0.mk hj4
              have eij : wrap64 ((i : Int) + (j : Int)) = ((i + j : Nat) : Int) := by have := HS.out.2.2; have := HIK.out; rw [rising_wrap _ (by omega) (by omega)]; omega
              obtain ⟨ij, hij⟩ : ∃ x : Int, x = ((i + j : Nat) : Int) := ⟨_, rfl⟩
              rw [← hij] at eij
              have eijw : IntKind.i64.wrap ((i : Int) + (j : Int)) = ij := (i64_w _).trans eij
              have p0 : (0 : Int) ≤ (i : Int) := by omega
              have q0 : (i : Int) < (l1.length : Int) := by have := H4.out; omega
              have p1 : (0 : Int) ≤ ij := by omega
              have q1 : ij < (l1.length : Int) := by have := H4.out; omega
              have HIJ := Aside0.mk hij
              clear hij eij
              obtain ⟨ad, ead, hx0⟩ := Kd.at_int HR1.out (i : Int) p0 q0
              obtain ⟨ad', ead', hx1⟩ := Kd.at_int HR1.out ij p1 q1
              have hx0w := (HO.out.below.cell (World.block_lt_of_cell? w _ hx0)).trans hx0
              have hx1w := (HO.out.below.cell (World.block_lt_of_cell? w _ hx1)).trans hx1
              rw [Int.toNat_natCast] at hx0w
              clear hx0 hx1
              have ead2 := ead.symm.trans ead'
              injection ead2 with ead2
              subst ead2
              subst ead
              clear ead' hj4
              replace p0 := eq_true p0
              replace q0 := eq_true q0
              replace p1 := eq_true p1
              replace q1 := eq_true q1
              obtain ⟨cb, hcb⟩ : ∃ c, c = cls (rd l1 ij) := ⟨_, rfl⟩
              obtain ⟨kb, hkb⟩ := cls_is (rd l1 ij)
              have HCB : Aside0 (tiers_Class.f kb (rd l1 ij) = some cb) := ⟨by rw [hcb]; exact hkb kb (Nat.le_refl _)⟩
              have HCF := Aside0.mk hcb
              clear hcb hkb
              generalize hxa : rd l1 (i : Int) = xa at *
              have HXA := Aside0.mk hxa
              clear hxa
              generalize hxb : rd l1 ij = xb at *
              have HXB := Aside0.mk hxb
              clear hxb
              cases s with
              | true =>
                go_wp2_with fail
                go_quiet (first | (go_at_call 44; refine (tiers_Class.calls ka xa ca _ HCA.out).mono ?_; rintro e w9 ⟨rfl, ⟨n9, rfl⟩⟩; first | exact ⟨rfl, _, World.drewN_drewN _ _ _⟩ | exact ⟨rfl, _, Eq.trans (World.drewN_drewN _ _ _) (congrArg (World.drewN _) (Nat.add_assoc _ _ _))⟩) | (go_at_call 44; refine (tiers_Class.calls kb xb cb _ HCB.out).mono ?_; rintro e w9 ⟨rfl, ⟨n9, rfl⟩⟩; first | exact ⟨rfl, _, World.drewN_drewN _ _ _⟩ | exact ⟨rfl, _, Eq.trans (World.drewN_drewN _ _ _) (congrArg (World.drewN _) (Nat.add_assoc _ _ _))⟩))
                go_wp2_with fail
                go_roundg (3 - j)
                case measure => have := HJK.out; have := HJ4.out; omega
                case rel =>
                  refine ⟨j + 1, (ca == cb), ⟨by have := HJ4.out; omega⟩, ⟨by omega⟩, (by have h3 := HJ4.out; simp only [i64_w, wrn j (by omega)]), rfl, ⟨?_⟩, ⟨(by repeat (first | exact HO.out | refine OB.drewN ?_ _ | refine OB.alloc ?_ _))⟩⟩
                  have hall := HSAME.out.1 (by trivial)
                  have e1 := HCE.out
                  have e2 := HCF.out
                  have e3 := HXB.out
                  have e4 := HIJ.out
                  have e5 := HXA.out
                  have e6 : rd l1 ((i : Int) + (j : Int)) = xb := by rw [← e3, e4]; congr 1
                  rw [beq_iff_eq, e1, e2]
                  refine ⟨fun h m hm => ?_, fun h => ?_⟩
                  · rcases Nat.lt_or_ge m j with hlt | hge
                    · exact hall m hlt
                    · rw [show m = j by omega, e6, ← h]
                  · have := h j (by omega)
                    rw [e6] at this
                    exact this.symm
              | false =>
                go_wp2_with fail
                go_quiet (fail)
                go_wp2_with fail
                go_roundg (3 - j)
                case measure => have := HJK.out; have := HJ4.out; omega
                case rel =>
                  refine ⟨j + 1, false, ⟨by have := HJ4.out; omega⟩, ⟨by omega⟩, (by have h3 := HJ4.out; simp only [i64_w, wrn j (by omega)]), rfl, ⟨?_⟩, ⟨(by repeat (first | exact HO.out | refine OB.drewN ?_ _ | refine OB.alloc ?_ _))⟩⟩
                  refine ⟨fun h => (by cases h), fun h => ?_⟩
                  have := HSAME.out.2 (fun m hm => h m (by omega))
                  cases this
            · have cj : decide ((j : Int) < 4) = false := decide_eq_false (by omega)
              have hj : j = 4 := by have := HJK.out; omega
              have HF : Aside0 (s = true ↔ Four l1 i) := ⟨by have h := HSAME.out; rw [hj] at h; exact h⟩
              clear hj
              cases s with
              | true =>
                obtain ⟨hr1, hr2⟩ := planned_at HPLAN.out i H4.out (HF.out.1 rfl) HNO.out
                subst hr1
                subst hr2
                go_wp2_with (first | (go_at_call 42; refine (lecternlaw12_wakes.calls kw true _ HWK.out).mono ?_; rintro e w10 ⟨rfl, hb⟩; have HO2 := Aside0.mk (OB.under (by repeat (first | exact HO.out | refine OB.drewN ?_ _ | refine OB.alloc ?_ _)) hb); clear hb; clear HO hcz0 hcz1; have HO := HO2; clear HO2; have hcz0 : w10.cell? ⟨gb, 0, none⟩ = some (.slice A0 l0.length c0) := (HO.out.cell 0).trans rfl; have hcz1 : w10.cell? ⟨gb, 1, none⟩ = some (.slice A1 l1.length c1) := (HO.out.cell 1).trans rfl))
                go_ret
                exact ⟨rfl, HO.out.below⟩
              | false =>
                go_wp2_with fail
                go_roundg (l1.length - i)
                case measure => have := HIK.out; have := H4.out; omega
                case rel =>
                  refine ⟨i + 1, ⟨by have := HIK.out; have := H4.out; omega⟩, (by have h1 := HS.out.2.2; have h3 := H4.out; simp only [i64_w, wrn i (by omega)]), ⟨fun j hj hf => ?_⟩, ⟨(by repeat (first | exact HO.out | refine OB.drewN ?_ _ | refine OB.alloc ?_ _))⟩⟩
                  rcases Nat.lt_or_ge j i with h | h
                  · exact HNO.out j h hf
                  · rw [show j = i by omega] at hf
                    have := HF.out.2 hf
                    cases this
        · have c4 : decide (i4 ≤ (l1.length : Int)) = false := decide_eq_false (by omega)
          clear hi4
          obtain ⟨hr1, hr2⟩ := planned_none HPLAN.out (fun j hj => HNO.out j (by omega))
          subst hr1
          subst hr2
          go_wp2_with (first | (go_at_call 42; refine (lecternlaw12_wakes.calls kw true _ HWK.out).mono ?_; rintro e w10 ⟨rfl, hb⟩; have HO2 := Aside0.mk (OB.under (by repeat (first | exact HO.out | refine OB.drewN ?_ _ | refine OB.alloc ?_ _)) hb); clear hb; clear HO hcz0 hcz1; have HO := HO2; clear HO2; have hcz0 : w10.cell? ⟨gb, 0, none⟩ = some (.slice A0 l0.length c0) := (HO.out.cell 0).trans rfl; have hcz1 : w10.cell? ⟨gb, 1, none⟩ = some (.slice A1 l1.length c1) := (HO.out.cell 1).trans rfl))
          go_ret
          exact ⟨rfl, HO.out.below⟩

end Go.Proofs.Ytcacckaonjnmjaa.T
