/- Sessions: rows of one's own (MSPureEQ, Mx66, MSLawR). -/
import Derived.Test.YtpeldaogdeefeaaGreatMG4
import Derived.Test.YtpeldaogdeefeaaGreatMx36
import Derived.Test.YtpeldaogdeefeaaGreatMx61
import Derived.Test.YtpeldaogdeefeaaGreatMx45
import Derived.Test.YtpeldaogdeefeaaGreatMx0
import Derived.Test.YtpeldaogdeefeaaGreatMG5
/-! MSPureEQ -/
namespace Go.Proofs.YtpeldaogdeefeaaGreat.M
open Go.RowKit Go.Proofs.YtpeldaogdeefeaaGreatW.PrintWords Go.Proofs.YtpeldaogdeefeaaGreatW.PrintLast Go.Proofs.YtpeldaogdeefeaaGreatW.PrintMore
set_option linter.unusedVariables false
set_option linter.unusedSimpArgs false
/-! ### copies, comparisons -/
theorem copyHits_l0 (l : List S53) (hl : l.length ≤ 1000000000) : ∀ d i, i + d = l.length → Ev (fun k => lecternref0_CopyHits.l0 k l (l.take i) (i : Int)) l
  | 0, i, hd => by
    refine Ev.step ((Ev.pure l).of_eq fun k => ?_)
    rw [lecternref0_CopyHits.l0, if_neg (by omega), List.take_of_length_le (by omega)]
  | d + 1, i, hd => by
    have ih := copyHits_l0 l hl d (i + 1) (by omega)
    have h1 : (l.take i).length ≤ l.length := by rw [List.length_take]; omega
    have h2 : l.take (i + 1) = l.take i ++ [l[i]] := List.take_succ_eq_append_getElem (by omega)
    have h3 : rd_T53 l (i : Int) = l[i] := by
      unfold rd_T53
      rw [Int.toNat_natCast, List.getD_eq_getElem?_getD, List.getElem?_eq_getElem (by omega), Option.getD_some]
    refine Ev.step (ih.of_eq fun k => ?_)
    rw [lecternref0_CopyHits.l0, if_pos (by omega), if_pos (by omega), if_pos (by omega), wrn i (by omega), h3, ← h2]
theorem copyHits_is (l : List S53) (hl : l.length ≤ 1000000000) : Ev (fun k => lecternref0_CopyHits.f k l) l := copyHits_l0 l hl l.length 0 (by omega)
theorem copyReply_is (a b : Int) (l : List S53) (hl : l.length ≤ 1000000000) : Ev (fun k => lecternref0_CopyReply.f k a b l) (a, b, l) := Ev.bind (g := fun _ t => some (a, b, t)) (copyHits_is l hl) (Ev.pure _)
def hitsOk (l : List S140) : Prop := ∀ x ∈ l, x.f2.f2.length ≤ 1000000000
theorem copySession_is (x : S140) (hx : x.f2.f2.length ≤ 1000000000) : Ev (fun k => lecternref0_CopySession.f k x.f0 x.f1 x.f2.f0 x.f2.f1 x.f2.f2 x.f3) (x.f0, x.f1, x.f2.f0, x.f2.f1, x.f2.f2, x.f3) :=
  Ev.bind (g := fun _ (t : Int × Int × List S53) => some (x.f0, x.f1, t.1, t.2.1, t.2.2, x.f3)) (copyReply_is x.f2.f0 x.f2.f1 x.f2.f2 hx) (Ev.pure _)
theorem copySessions_l0 (l : List S140) (hl : l.length ≤ 1000000000) (hh : hitsOk l) : ∀ d i, i + d = l.length → Ev (fun k => lecternref0_CopySessions.l0 k l (l.take i) (i : Int)) l
  | 0, i, hd => by
    refine Ev.step ((Ev.pure l).of_eq fun k => ?_)
    rw [lecternref0_CopySessions.l0, if_neg (by omega), List.take_of_length_le (by omega)]
  | d + 1, i, hd => by
    have ih := copySessions_l0 l hl hh d (i + 1) (by omega)
    have h1 : (l.take i).length ≤ l.length := by rw [List.length_take]; omega
    have h2 : l.take (i + 1) = l.take i ++ [l[i]] := List.take_succ_eq_append_getElem (by omega)
    refine Ev.step ?_
    refine Ev.of_eq (g := fun k => (lecternref0_CopySession.f k l[i].f0 l[i].f1 l[i].f2.f0 l[i].f2.f1 l[i].f2.f2 l[i].f3).bind fun t => lecternref0_CopySessions.l0 k l (l.take i ++ [⟨t.1, t.2.1, ⟨t.2.2.1, t.2.2.2.1, t.2.2.2.2.1⟩, t.2.2.2.2.2⟩]) ((i + 1 : Nat) : Int)) ?_ (fun k => ?_)
    · refine Ev.bind (g := fun k t => lecternref0_CopySessions.l0 k l (l.take i ++ [⟨t.1, t.2.1, ⟨t.2.2.1, t.2.2.2.1, t.2.2.2.2.1⟩, t.2.2.2.2.2⟩]) ((i + 1 : Nat) : Int)) (copySession_is l[i] (hh _ (List.getElem_mem _))) ?_
      rw [h2] at ih
      exact ih
    · rw [lecternref0_CopySessions.l0, if_pos (by omega), if_pos (by omega), wrn i (by omega), rd88_at l i (by omega)]
      have hlt : (l.take i).length < 2199023255552 := by omega
      simp only [hlt, if_true]
theorem copySessions_is (l : List S140) (hl : l.length ≤ 1000000000) (hh : hitsOk l) : Ev (fun k => lecternref0_CopySessions.f k l) l := copySessions_l0 l hl hh l.length 0 (by omega)
theorem eqHits_l0 (l : List S53) (hl : l.length ≤ 1000000000) : ∀ d i, i + d = l.length → Ev (fun k => lecternref0_EqHits.l0 k l l (i : Int)) true
  | 0, i, hd => by
    refine Ev.step ((Ev.pure true).of_eq fun k => ?_)
    rw [lecternref0_EqHits.l0, if_neg (by omega)]
  | d + 1, i, hd => by
    have ih := eqHits_l0 l hl d (i + 1) (by omega)
    refine Ev.step (ih.of_eq fun k => ?_)
    rw [lecternref0_EqHits.l0, if_pos (by omega), if_pos (by omega), if_pos (by omega), if_neg (by simp), wrn i (by omega)]
theorem eqHits_is (l : List S53) (hl : l.length ≤ 1000000000) : Ev (fun k => lecternref0_EqHits.f k l l) true :=
  (eqHits_l0 l hl l.length 0 (by omega)).of_eq fun k => by unfold lecternref0_EqHits.f; rw [if_pos rfl]; rfl
theorem eqReply_is (a b : Int) (l : List S53) (hl : l.length ≤ 1000000000) : Ev (fun k => lecternref0_EqReply.f k a b l a b l) true :=
  (Ev.bind (g := fun _ t => some t) (eqHits_is l hl) (Ev.pure true)).of_eq fun k => by unfold lecternref0_EqReply.f; rw [if_pos rfl, if_pos rfl]
end Go.Proofs.YtpeldaogdeefeaaGreat.M
/-! SPureQ -/
namespace Go.Proofs.YtpeldaogdeefeaaGreat.M
open Go.RowKit Go.Proofs.YtpeldaogdeefeaaGreatW.PrintWords Go.Proofs.YtpeldaogdeefeaaGreatW.PrintLast Go.Proofs.YtpeldaogdeefeaaGreatW.PrintMore
set_option linter.unusedVariables false
set_option linter.unusedSimpArgs false
theorem eqSession_is (x : S140) (hx : x.f2.f2.length ≤ 1000000000) : Ev (fun k => lecternref0_EqSession.f k x.f0 x.f1 x.f2.f0 x.f2.f1 x.f2.f2 x.f3 x.f0 x.f1 x.f2.f0 x.f2.f1 x.f2.f2 x.f3) true :=
  (Ev.bind (g := fun _ t => if t = true then some (x.f3 == x.f3) else some false) (eqReply_is x.f2.f0 x.f2.f1 x.f2.f2 hx) ((Ev.pure true).of_eq fun k => by rw [if_pos rfl, beq_self_eq_true])).of_eq fun k => by unfold lecternref0_EqSession.f; rw [if_pos rfl, if_pos rfl]
theorem eqSessions_l0 (l : List S140) (hl : l.length ≤ 1000000000) (hh : hitsOk l) : ∀ d i, i + d = l.length → Ev (fun k => lecternref0_EqSessions.l0 k l l (i : Int)) true
  | 0, i, hd => by
    refine Ev.step ((Ev.pure true).of_eq fun k => ?_)
    rw [lecternref0_EqSessions.l0, if_neg (by omega)]
  | d + 1, i, hd => by
    have ih := eqSessions_l0 l hl hh d (i + 1) (by omega)
    refine Ev.step ?_
    refine Ev.of_eq (g := fun k => (lecternref0_EqSession.f k l[i].f0 l[i].f1 l[i].f2.f0 l[i].f2.f1 l[i].f2.f2 l[i].f3 l[i].f0 l[i].f1 l[i].f2.f0 l[i].f2.f1 l[i].f2.f2 l[i].f3).bind fun t => if t = true then lecternref0_EqSessions.l0 k l l ((i + 1 : Nat) : Int) else some false) ?_ (fun k => ?_)
    · refine Ev.bind (g := fun k t => if t = true then lecternref0_EqSessions.l0 k l l ((i + 1 : Nat) : Int) else some false) (eqSession_is l[i] (hh _ (List.getElem_mem _))) ?_
      exact ih.of_eq fun k => if_pos rfl
    · rw [lecternref0_EqSessions.l0, if_pos (by omega), if_pos (by omega), if_pos (by omega), wrn i (by omega), rd88_at l i (by omega)]
theorem eqSessions_is (l : List S140) (hl : l.length ≤ 1000000000) (hh : hitsOk l) : Ev (fun k => lecternref0_EqSessions.f k l l) true :=
  (eqSessions_l0 l hl hh l.length 0 (by omega)).of_eq fun k => by unfold lecternref0_EqSessions.f; rw [if_pos rfl]; rfl
end Go.Proofs.YtpeldaogdeefeaaGreat.M
/-! Mx66 -/
namespace Go.Proofs.YtpeldaogdeefeaaGreat.M
open Go.RowKit Go.Proofs.YtpeldaogdeefeaaGreatW.PrintWords Go.Proofs.YtpeldaogdeefeaaGreatW.PrintLast Go.Proofs.YtpeldaogdeefeaaGreatW.PrintMore
attribute [local go_sem] max2_int min2_int max_two min_two max_three min_three max_four min_four   -- for this text's walks alone
set_option linter.unusedVariables false
set_option linter.unusedSimpArgs false

/-! ### lecternref14_drop: function 139 -/
def lecternref14_drop.f (k : Nat) (l0 : List (S140)) (a1 : Int) : Option ((List (S140))) := if 0 ≤ a1 then (if a1 ≤ (l0.length : Int) then ((lecternref0_CopySessions.f k (l0.take (a1 : Int).toNat)).bind fun t301 => (if 0 ≤ (wrap64 (a1 + 1)) then (if (wrap64 (a1 + 1)) ≤ (l0.length : Int) then ((some (l0.drop ((wrap64 (a1 + 1)) : Int).toNat : List (S140))).bind fun y304 => (if t301.length + y304.length < 2199023255552 then (some (t301 ++ y304)) else (none))) else (none)) else (none))) else (none)) else (none)
theorem lecternref14_drop.mono : ∀ a0 a1 k, LeO (lecternref14_drop.f k a0 a1) (lecternref14_drop.f (k + 1) a0 a1) := by
  intro a0 a1 k
  unfold lecternref14_drop.f
  repeat' first
      | (with_reducible exact lecternref0_CopySessions.mono _ _)
      | (with_reducible exact LeO.refl _)
      | (with_reducible exact LeO.none _)
      | (with_reducible refine LeO.ite ?_ ?_)
      | (with_reducible refine LeO.bind ?_ (fun _ => ?_))
      | exact lecternref0_CopySessions.mono _ _
      | exact LeO.none _
      | refine LeO.ite ?_ ?_
      | refine LeO.bind ?_ (fun _ => ?_)
set_option maxHeartbeats 8000000 in
set_option maxRecDepth 100000 in
theorem lecternref14_drop.calls (k : Nat) (P0_ : Nat → Prop) (A0 : Option Addr) (c0 : Nat) (l0 : List (S140)) (a1 : Int) (r : List (S140)) (w : World) (hs0 : Kd.V k140 140 w w.heap.size (fun k_ => P0_ k_) (.slice A0 l0.length c0) l0) (h : lecternref14_drop.f k l0 a1 = some r) :
    Calls Tryz.prog 139 #[.slice A0 l0.length c0, .int .i64 a1] w fun e w' => ∃ v0_ : Value, e = .returned (v0_) ∧ Kd.N k140 140 w' w.heap.size (fun k_ => (P0_ k_ ∨ w.heap.size ≤ k_)) v0_ r ∧ Below w.heap.size w w' := by
  have HO0 := Aside0.mk (show Kd.V k140 140 w w.heap.size (fun k_ => (P0_ k_ ∨ w.heap.size ≤ k_)) (.slice A0 l0.length c0) l0 from Kd.V_mono hs0 (fun k_ hk => .inl hk))
  have HB := Aside0.mk (Below.refl w.heap.size w)
  have H : (if 0 ≤ a1 then (if a1 ≤ (l0.length : Int) then ((lecternref0_CopySessions.f k (l0.take (a1 : Int).toNat)).bind fun t301 => (if 0 ≤ (wrap64 (a1 + 1)) then (if (wrap64 (a1 + 1)) ≤ (l0.length : Int) then ((some (l0.drop ((wrap64 (a1 + 1)) : Int).toNat : List (S140))).bind fun y304 => (if t301.length + y304.length < 2199023255552 then (some (t301 ++ y304)) else (none))) else (none)) else (none))) else (none)) else (none)) = some r := h
  clear h
  by_cases c3 : 0 ≤ a1
  · rw [if_pos c3] at H
    have c3b0 := eq_true c3
    have c3b1 : decide (0 ≤ a1) = true := decide_eq_true c3
    clear c3
    by_cases c4 : a1 ≤ (l0.length : Int)
    · rw [if_pos c4] at H
      have c4b0 := eq_true c4
      have c4b1 : decide (a1 ≤ (l0.length : Int)) = true := decide_eq_true c4
      clear c4
      obtain ⟨y296, hy296⟩ : ∃ y_ : List (S140), y_ = (l0.take (a1 : Int).toNat) := ⟨_, rfl⟩
      replace H : ((lecternref0_CopySessions.f k y296).bind fun t301 => (if 0 ≤ (wrap64 (a1 + 1)) then (if (wrap64 (a1 + 1)) ≤ (l0.length : Int) then ((some (l0.drop ((wrap64 (a1 + 1)) : Int).toNat : List (S140))).bind fun y304 => (if t301.length + y304.length < 2199023255552 then (some (t301 ++ y304)) else (none))) else (none)) else (none))) = some r := by first | (rw [hy296]; with_reducible exact H) | (have H2_ := (Option.bind_some _ _).symm.trans H; rw [hy296]; with_reducible exact H2_) | (have H2_ := (Option.bind_some _ _).symm.trans H; with_reducible exact H2_) | with_reducible exact H | (rw [hy296]; exact H) | exact H
      have Ny296 := Aside0.mk hy296
      clear hy296
      replace H := Option.bind_eq_some_iff.mp H
      obtain ⟨t301, A50, H⟩ := H
      replace H : (if 0 ≤ (wrap64 (a1 + 1)) then (if (wrap64 (a1 + 1)) ≤ (l0.length : Int) then ((some (l0.drop ((wrap64 (a1 + 1)) : Int).toNat : List (S140))).bind fun y304 => (if t301.length + y304.length < 2199023255552 then (some (t301 ++ y304)) else (none))) else (none)) else (none)) = some r := H
      have A5 := Aside0.mk A50
      clear A50
      obtain ⟨ji6, hji6⟩ : ∃ j_ : Int, (wrap64 (a1 + 1)) = j_ := ⟨_, rfl⟩
      replace H : (if 0 ≤ (ji6) then (if (ji6) ≤ (l0.length : Int) then ((some (l0.drop ((ji6) : Int).toNat : List (S140))).bind fun y304 => (if t301.length + y304.length < 2199023255552 then (some (t301 ++ y304)) else (none))) else (none)) else (none)) = some r := by first | (rw [hji6] at H; exact H) | (simp only [hji6] at H ⊢; exact H)
      (try rw [hji6] at A5)
      have hji6w : (IntKind.i64.wrap (a1 + 1)) = ji6 := (i64_w _).trans hji6
      by_cases c7 : 0 ≤ (ji6)
      · rw [if_pos c7] at H
        have c7b0 := eq_true c7
        have c7b1 : decide (0 ≤ (ji6)) = true := decide_eq_true c7
        clear c7
        by_cases c8 : (ji6) ≤ (l0.length : Int)
        · rw [if_pos c8] at H
          have c8b0 := eq_true c8
          have c8b1 : decide ((ji6) ≤ (l0.length : Int)) = true := decide_eq_true c8
          clear c8
          obtain ⟨y304, hy304⟩ : ∃ y_ : List (S140), y_ = (l0.drop ((ji6) : Int).toNat) := ⟨_, rfl⟩
          replace H : (if t301.length + y304.length < 2199023255552 then (some (t301 ++ y304)) else (none)) = some r := by first | (rw [hy304]; with_reducible exact H) | (have H2_ := (Option.bind_some _ _).symm.trans H; rw [hy304]; with_reducible exact H2_) | (have H2_ := (Option.bind_some _ _).symm.trans H; with_reducible exact H2_) | with_reducible exact H | (rw [hy304]; exact H) | exact H
          have Ny304 := Aside0.mk hy304
          clear hy304
          by_cases c9 : t301.length + y304.length < 2199023255552
          · rw [if_pos c9] at H
            have LMc9 := Aside0.mk c9
            clear c9
            obtain ⟨y309, hy309⟩ : ∃ y_ : List (S140), y_ = (t301 ++ y304) := ⟨_, rfl⟩
            replace H : (some y309) = some r := by first | (rw [hy309]; with_reducible exact H) | (have H2_ := (Option.bind_some _ _).symm.trans H; rw [hy309]; with_reducible exact H2_) | (have H2_ := (Option.bind_some _ _).symm.trans H; with_reducible exact H2_) | with_reducible exact H | (rw [hy309]; exact H) | exact H
            have Ny309 := Aside0.mk hy309
            clear hy309
            obtain rfl := Option.some.inj H
            have q10 : (a1 : Int) ≤ ((l0.length : Int) : Int) := of_decide_eq_true (by first | (with_reducible assumption) | assumption)
            obtain ⟨i010, hi010, _, hsz10, _⟩ := info_parts info140
            have hroom10 : l0.length ≤ c0 := (Kd.V_reads' HO0.out).2.1
            have hC10 : Kd.F k140 _ _ A0 l0.length l0 := (Kd.V_at (base := w.heap.size) HO0.out).2.2
            have hcut10 := cut_to (P := Tryz.prog) 58 140 .i64 Tryz.underlying58 hi010 A0 l0.length c0 a1 (of_decide_eq_true (by first | (with_reducible assumption) | assumption)) q10 hroom10
            have hr10 := Kd.F_take (m := (a1 : Int).toNat) hC10 (by omega)
            have hy10 : y296.length = (a1 : Int).toNat := (by rw [Ny296.out, List.length_take]; omega)
            rw [← Ny296.out] at hr10
            rw [← hy10] at hcut10
            have HO300 := Aside0.mk (show Kd.V k140 140 _ w.heap.size _ (.slice A0 y296.length c0) y296 from Kd.V_mk (by omega) hr10)
            have HC300 := Aside0.mk (show y296.length ≤ c0 from by omega)
            clear hr10 hC10 hroom10 hi010 hsz10
            have KY10 := Aside0.mk hy10
            clear hy10
            replace q10 := eq_true q10
            go_enter Tryz.func139, Tryz.ntmps139
            go_wp2_with (first | ((with_reducible refine gate_callee (f := 94) rfl ?_); refine goesL_ (some 9) rfl rfl Tryz.func94 (by kernel_rfl) rfl #[.slice A0 y296.length c0] rfl (by (try simp only [List.map_toArray, List.map_cons, List.map_nil]); first | done | rfl | (simp only [List.length_drop, List.length_take]; rfl)) ?_; (with_reducible refine (lecternref0_CopySessions.calls k _ _ y296 t301 _ ?side1 ?side2 A5.out).mono ?_); (case side1 => repeat (first | exact (Kd.V_reads' HO300.out).2.2 | (with_reducible refine Kd.C_alloc ?_ _) | (with_reducible refine Kd.C_drewN ?_ _) | (with_reducible refine Kd.C_drew ?_))); (case side2 => exact (Kd.V_reads' HO300.out).2.1); rintro e w11 ⟨v302, rfl, ho0, hb⟩; refine ⟨_, rfl, ?_⟩; have n0_ := Aside0.mk (Kd.V_elder' (by (with_reducible repeat (first | apply Kd.V_alloc | apply Kd.V_drewN | apply Kd.V_drew)); exact HO0.out) (Kd.N_base (Kd.S_N ho0)) hb); have n1_ := Aside0.mk (Kd.V_elder' (by (with_reducible repeat (first | apply Kd.V_alloc | apply Kd.V_drewN | apply Kd.V_drew)); exact HO300.out) (Kd.N_base (Kd.S_N ho0)) hb); have n2_ := Aside0.mk (Kd.N_lower (Kd.N_mono (ok' := fun k_ => (P0_ k_ ∨ w.heap.size ≤ k_)) (Kd.S_N (Kd.S_bound ho0)) (fun k_ hk_ => (.inr (Nat.le_trans (below_size (by repeat (first | (with_reducible first | exact HB.out | apply below_alloc | apply pw_below_drewN | apply below_drew1) | exact HB.out))) hk_.2.1)))) (below_size (by repeat (first | (with_reducible first | exact HB.out | apply below_alloc | apply pw_below_drewN | apply below_drew1) | exact HB.out)))); have n3_ := Aside0.mk (below_step (by repeat (first | (with_reducible first | exact HB.out | apply below_alloc | apply pw_below_drewN | apply below_drew1) | exact HB.out)) hb); clear HO0; clear HO300; clear HB; have HO0 := n0_; have HO300 := n1_; have HO303 := n2_; have HB := n3_; clear n0_ n1_ n2_ n3_; (try clear hb); (try clear hb2); (try clear hk); (try clear hi); (try clear ho0); have q12 : ((ji6) : Int) ≤ ((l0.length : Int) : Int) := of_decide_eq_true (by first | (with_reducible assumption) | assumption); obtain ⟨i012, hi012, _, hsz12, _⟩ := info_parts info140; have hroom12 : l0.length ≤ c0 := (Kd.V_reads' HO0.out).2.1; have hC12 : Kd.F k140 _ _ A0 l0.length l0 := (Kd.V_at (base := w.heap.size) HO0.out).2.2; have q012 : (0 : Int) ≤ ((ji6) : Int) := of_decide_eq_true (by first | (with_reducible assumption) | assumption); have hcut12 := cut_from (P := Tryz.prog) 58 140 .i64 Tryz.underlying58 hi012 6 hsz12 A0 l0.length c0 (ji6) q012 q12; have hr12 := Kd.F_cut (m := ((ji6) : Int).toNat) (c := c0) hC12 (by omega) hroom12; obtain ⟨A12, hA12⟩ : ∃ A1, A1 = (if c0 = ((ji6) : Int).toNat then A0 else (A0 : Option Addr).map (·.add (((ji6) : Int).toNat * 6))) := ⟨_, rfl⟩; obtain ⟨c12, hc12⟩ : ∃ c1, c1 = c0 - ((ji6) : Int).toNat := ⟨_, rfl⟩; have hy12 : y304.length = l0.length - ((ji6) : Int).toNat := (by rw [Ny304.out, List.length_drop] <;> omega); rw [show (l0).drop ((ji6) : Int).toNat = y304 from Ny304.out.symm] at hr12; replace hr12 : Kd.F k140 _ _ A12 y304.length y304 := (by rw [hA12]; exact hr12); rw [← hy12, ← hA12, ← hc12] at hcut12; have HO308 := Aside0.mk (show Kd.V k140 140 _ w.heap.size _ (.slice A12 y304.length c12) y304 from Kd.V_mk (by rw [hy12, hc12]; exact Nat.sub_le_sub_right hroom12 _) hr12); have HC308 := Aside0.mk (show y304.length ≤ c12 from by rw [hy12, hc12]; exact Nat.sub_le_sub_right hroom12 _); clear hr12 hC12 hroom12 hi012 hsz12 hc12; have KY12 := Aside0.mk hy12; have KA12 := Aside0.mk hA12; clear hy12 hA12; replace q12 := eq_true q12) | ((with_reducible refine gate_builtin (b := .append) (xs := #[.tmp 10, .tmp 14]) rfl ?_); at_builtin; refine Kd.N_append_rows k140 (w0 := w) w.heap.size rfl (.tmp 10) (.tmp 14) 58 140 (.agg #[(.int .i64 0), (.int .i64 0), (.int .i64 0), (.int .i64 0), (.slice none 0 0), (.int .i64 0)]) 64 rfl Tryz.underlying58 info140 rfl (by decide) (by omega) v302 t301 y304 _ _ _ (fun k_ => (P0_ k_ ∨ w.heap.size ≤ k_)) (fun k_ => ((fun k_ => (P0_ k_ ∨ w.heap.size ≤ k_))) k_ ∧ some k_ ≠ (v302 : Value).ownBlock) rfl rfl ?aO ?aR (fun _ hk => hk) ?aF ?aB ?aS ?aL ?_; (case aR => exact (by skip; exact Kd.V_F (Kd.V_mono (ok' := (fun k_ => ((fun k_ => (P0_ k_ ∨ w.heap.size ≤ k_))) k_ ∧ some k_ ≠ (v302 : Value).ownBlock)) (HO308.out) (fun k_ hk => ⟨hk.1, hk.2⟩)))); (case aB => exact (by repeat (first | (with_reducible first | exact HB.out | apply below_alloc | apply pw_below_drewN | apply below_drew1) | exact HB.out))); (case aF => exact (fun k_ hk => (.inr (Nat.le_trans (below_size (by repeat (first | (with_reducible first | exact HB.out | apply below_alloc | apply pw_below_drewN | apply below_drew1) | exact HB.out))) hk)))); (case aO => exact (by (with_reducible repeat (first | apply Kd.N_alloc | apply Kd.N_drewN | apply Kd.N_drew)); exact HO303.out)); (case aS => exact (below_size (by repeat (first | (with_reducible first | exact HB.out | apply below_alloc | apply pw_below_drewN | apply below_drew1) | exact HB.out)))); (case aL => have := LMc9.out; omega); intro v310 w13 ho hb hg hat; rw [← Ny309.out] at ho; have n0_ := Aside0.mk (Kd.V_afterv (ok := (fun k_ => (P0_ k_ ∨ w.heap.size ≤ k_))) (by (with_reducible repeat (first | apply Kd.V_alloc | apply Kd.V_drewN | apply Kd.V_drew)); exact HO0.out) hg hat); have n1_ := Aside0.mk (Kd.V_afterv (ok := (fun k_ => (P0_ k_ ∨ w.heap.size ≤ k_))) (by (with_reducible repeat (first | apply Kd.V_alloc | apply Kd.V_drewN | apply Kd.V_drew)); exact HO300.out) hg hat); have n2_ := Aside0.mk (Kd.V_afterv (ok := (fun k_ => (P0_ k_ ∨ w.heap.size ≤ k_))) (by (with_reducible repeat (first | apply Kd.V_alloc | apply Kd.V_drewN | apply Kd.V_drew)); exact HO308.out) hg hat); have n3_ := Aside0.mk (hb); have n4_ := Aside0.mk (ho); clear HO0; clear HO300; clear HO308; clear HB; clear HO303; have HO0 := n0_; have HO300 := n1_; have HO308 := n2_; have HB := n3_; have HO311 := n4_; clear n0_ n1_ n2_ n3_ n4_; clear ho hb hg hat))
            go_ret
            exact ⟨_, by first | rfl | (simp [errW_none, errW_some] <;> rfl) | (simp only [← hji6]; first | rfl | (simp [errW_none, errW_some] <;> rfl)) | (simp [*, errW_none, errW_some] <;> rfl), by (with_reducible repeat (first | apply Kd.N_alloc | apply Kd.N_drewN | apply Kd.N_drew)); exact HO311.out, by repeat (first | (with_reducible first | exact HB.out | apply below_alloc | apply pw_below_drewN | apply below_drew1) | exact HB.out)⟩
          · rw [if_neg c9] at H
            exact absurd H (by simp)
        · rw [if_neg c8] at H
          exact absurd H (by simp)
      · rw [if_neg c7] at H
        exact absurd H (by simp)
    · rw [if_neg c4] at H
      exact absurd H (by simp)
  · rw [if_neg c3] at H
    exact absurd H (by simp)

end Go.Proofs.YtpeldaogdeefeaaGreat.M
/-! MSLawR -/
namespace Go.Proofs.YtpeldaogdeefeaaGreat.M
open Go.RowKit Go.Proofs.YtpeldaogdeefeaaGreatW.PrintWords Go.Proofs.YtpeldaogdeefeaaGreatW.PrintLast Go.Proofs.YtpeldaogdeefeaaGreatW.PrintMore
set_option linter.unusedVariables false
set_option linter.unusedSimpArgs false
theorem noHits_ok {l : List S140} (h : noHits l) : hitsOk l := fun x hx => by rw [h x hx]; exact Nat.zero_le _
theorem drop_is (l : List S140) (p : Nat) (hp : p < l.length) (hl : l.length ≤ 1000000) (hh : hitsOk l) : Ev (fun k => lecternref14_drop.f k l (p : Int)) (l.eraseIdx p) := by
  have hw := wrn p (by omega)
  refine Ev.of_eq (g := fun k => (lecternref0_CopySessions.f k (l.take p)).bind (fun t => if t.length + (l.drop (p + 1)).length < 2199023255552 then some (t ++ l.drop (p + 1)) else none)) ?_ (fun k => ?_)
  · refine Ev.bind (g := fun _ t => if t.length + (l.drop (p + 1)).length < 2199023255552 then some (t ++ l.drop (p + 1)) else none) (copySessions_is (l.take p) (by rw [List.length_take]; omega) (fun x hx => hh x (List.mem_of_mem_take hx))) ((Ev.pure _).of_eq fun k => ?_)
    rw [if_pos (by rw [List.length_take, List.length_drop]; omega), List.eraseIdx_eq_take_drop_succ]
  · unfold lecternref14_drop.f
    have h1 : (0 : Int) ≤ ((p + 1 : Nat) : Int) := by omega
    have h2 : ((p + 1 : Nat) : Int) ≤ (l.length : Int) := by omega
    rw [if_pos (by omega), if_pos (by omega), hw]
    simp only [h1, h2, if_true, Int.toNat_natCast, Option.bind_some]
end Go.Proofs.YtpeldaogdeefeaaGreat.M
