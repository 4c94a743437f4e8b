/- session.Open. -/
import Derived.Test.YtpeldaogdeefeaaGreatMSHand
import Derived.Test.YtpeldaogdeefeaaGreatMx0
import Derived.Test.YtpeldaogdeefeaaGreatMG2
import Derived.Test.YtpeldaogdeefeaaGreatMG3
import Derived.Test.YtpeldaogdeefeaaGreatMMay
import Derived.Test.YtpeldaogdeefeaaGreatMG5
namespace Go.Proofs.YtpeldaogdeefeaaGreat.M
open Go.RowKit Go.Proofs.YtpeldaogdeefeaaGreatW.PrintWords Go.Proofs.YtpeldaogdeefeaaGreatW.PrintLast Go.Proofs.YtpeldaogdeefeaaGreatW.PrintMore
set_option linter.unusedVariables false
set_option linter.unusedSimpArgs false
theorem number_f (a1 : Int) : session_Number.f a1 1 = some (decide (1 ≤ a1 ∧ a1 < 1099511627776)) := by
  unfold session_Number.f
  by_cases h1 : a1 ≥ 1
  · rw [if_pos h1]
    by_cases h2 : a1 < 1099511627776
    · rw [decide_eq_true h2, decide_eq_true ⟨h1, h2⟩]
    · rw [decide_eq_false h2, decide_eq_false (fun h => h2 h.2)]
  · rw [if_neg h1, decide_eq_false (fun h => h1 h.1)]
/-- What is left of the sessions before a new one is put in. -/
def openCut (l0 : List S140) : List S140 := if l0.length = 8 then ((l0.map clr).map clr).eraseIdx (leastTo (l0.map clr) (l0.map clr).length) else l0.map clr
def fresh88 (a1 : Int) : S140 := ⟨a1, 0, ⟨0, 0, []⟩, a1⟩
def openTo (l0 : List S140) (a1 : Int) : List S140 := (openCut l0).take ((openCut l0).countP (fun x => decide (x.f0 < a1))) ++ [fresh88 a1] ++ (openCut l0).drop ((openCut l0).countP (fun x => decide (x.f0 < a1)))
theorem riseS_clr {l : List S140} (h : riseS l) : riseS (l.map clr) := List.pairwise_map.2 h
theorem riseS_cut {l : List S140} (h : riseS l) : riseS (openCut l) := by
  unfold openCut
  split
  · exact List.Pairwise.sublist (List.eraseIdx_sublist _ _) (riseS_clr (riseS_clr h))
  · exact riseS_clr h
theorem cut_len {l : List S140} (h : l.length ≤ 8) : (openCut l).length ≤ 8 := by
  unfold openCut
  split
  · exact Nat.le_trans (List.eraseIdx_sublist _ _).length_le (by rw [List.length_map, List.length_map]; exact h)
  · rw [List.length_map]; exact h
theorem find59 (A : Option Addr) (c : Nat) (l : List S140) (a1 : Int) (w : World) (hr0 : Kd.C k140 w A l.length l) (hc : l.length ≤ c) (hs : riseS l) (hl : l.length ≤ 8) :
    Calls Tryz.prog 131 #[.slice A l.length c, .int .i64 a1] w fun e w' => e = .returned (.tuple #[.int .i64 ((l.countP (fun x => decide (x.f0 < a1)) : Nat) : Int), .bool (l.any (fun x => x.f0 == a1))]) ∧ Below w.heap.size w w' :=
  session_find.calls A c l a1 _ _ w hr0 hc (by unfold session_find.f; rw [if_pos ⟨hs, by omega⟩])
theorem kF_reads {w : World} {B : Nat} {A : Option Addr} {n c : Nat} {xs : List S140} (h : Kd.R kF 140 w B (fun _ => True) (.slice A n c) xs) : n ≤ c ∧ Kd.C k140 w A xs.length xs := by
  obtain ⟨_, h2, h3⟩ := Kd.R_reads' h
  exact ⟨h2, kF_C h3⟩
theorem kF_lt {w : World} {B : Nat} {v : Value} {xs : List S140} (h : Kd.R kF 140 w B (fun _ => True) v xs) (k : Nat) (hk : v.ownBlock = some k) : k < w.heap.size := ((Kd.R_bound h).1 k hk).2.2.1
set_option maxHeartbeats 4000000 in
set_option maxRecDepth 100000 in
theorem open22 (k : Nat) (A0 : Option Addr) (c0 : Nat) (l0 : List S140) (a1 : Int) (w : World) (hr0 : Kd.C k140 w A0 l0.length l0) (hc0 : l0.length ≤ c0) (hm : session_May.f k l0 = some true) (h1 : 1 ≤ a1) (h2 : a1 < 1099511627776) (hs : riseS l0) (hl : l0.length ≤ 8) (hno : l0.any (fun x => x.f0 == a1) = false) :
    Calls Tryz.prog 130 #[.slice A0 l0.length c0, .int .i64 a1] w fun e w' => ∃ v, e = .returned (.tuple #[v, .int .i64 0]) ∧ Kd.R kF 140 w' w.heap.size (fun _ => True) v (openTo l0 a1) ∧ Below w.heap.size w w' := by
  have HM : Aside0 (∀ W, Below w.heap.size w W → Calls Tryz.prog 128 #[.slice A0 l0.length c0] W fun e w' => e = .returned (.bool true) ∧ Below w.heap.size w w') := ⟨fun W hb => by
    refine (session_May.calls k A0 c0 l0 true W (Kd.C_below hr0 hb) hc0 hm).mono ?_
    rintro e w' ⟨rfl, hb'⟩
    exact ⟨rfl, below_step hb hb'⟩⟩
  have HN : Aside0 (∀ W, Below w.heap.size w W → Calls Tryz.prog 97 #[.int .i64 a1, .int .i64 1] W fun e w' => e = .returned (.bool true) ∧ Below w.heap.size w w') := ⟨fun W hb => by
    refine (session_Number.calls a1 1 true W (by unfold session_Number.f; rw [if_pos h1, decide_eq_true h2])).mono ?_
    rintro e w' ⟨rfl, ⟨n, rfl⟩⟩
    exact ⟨rfl, pw_below_drewN hb _⟩⟩
  have HF : Aside0 (∀ W, Below w.heap.size w W → Calls Tryz.prog 131 #[.slice A0 l0.length c0, .int .i64 a1] W fun e w' => e = .returned (.tuple #[.int .i64 ((l0.countP (fun x => decide (x.f0 < a1)) : Nat) : Int), .bool false]) ∧ Below w.heap.size w w') := ⟨fun W hb => by
    refine (find59 A0 c0 l0 a1 W (Kd.C_below hr0 hb) hc0 hs hl).mono ?_
    rintro e w' ⟨rfl, hb'⟩
    rw [hno]
    exact ⟨rfl, below_step hb hb'⟩⟩
  have HO : Aside0 (∀ W, Below w.heap.size w W → Calls Tryz.prog 85 #[.slice A0 l0.length c0] W fun e w' => ∃ A c, e = .returned (.slice A l0.length c) ∧ Kd.R kF 140 w' w.heap.size (fun _ => True) (.slice A l0.length c) (l0.map clr) ∧ Below w.heap.size w w') := ⟨fun W hb => by
    refine (own_calls A0 c0 l0 W (Kd.C_below hr0 hb) hc0 (by omega)).mono ?_
    rintro e w' ⟨v, rfl, hr, hb'⟩
    obtain ⟨A, c, rfl⟩ := Kd.R_slice hr
    rw [List.length_map] at hr ⊢
    exact ⟨A, c, rfl, Kd.R_lower hr hb.size, below_step hb hb'⟩⟩
  have HFK : Aside0 (∀ A c W, Kd.R kF 140 W w.heap.size (fun _ => True) (.slice A (openCut l0).length c) (openCut l0) → Below w.heap.size w W → Calls Tryz.prog 131 #[.slice A (openCut l0).length c, .int .i64 a1] W fun e w' => ∃ n : Nat, n = (openCut l0).countP (fun x => decide (x.f0 < a1)) ∧ e = .returned (.tuple #[.int .i64 (n : Int), .bool ((openCut l0).any (fun x => x.f0 == a1))]) ∧ Kd.R kF 140 w' w.heap.size (fun _ => True) (.slice A (openCut l0).length c) (openCut l0) ∧ Below w.heap.size w w') := ⟨fun A c W hr hb => by
    refine (find59 A c (openCut l0) a1 W (kF_reads hr).2 (kF_reads hr).1 (riseS_cut hs) (cut_len hl)).mono ?_
    rintro e w' ⟨rfl, hb'⟩
    exact ⟨_, rfl, rfl, Kd.R_below hr hb', below_step hb hb'⟩⟩
  have HI : Aside0 (∀ A c W n, n = (openCut l0).countP (fun x => decide (x.f0 < a1)) → Kd.R kF 140 W w.heap.size (fun _ => True) (.slice A (openCut l0).length c) (openCut l0) → Below w.heap.size w W → Calls Tryz.prog 163 #[.slice A (openCut l0).length c, .int .i64 (n : Int), .slice (some ⟨W.heap.size, 0, none⟩) 1 1] (W.alloc (.cells #[.int .i64 a1, .int .i64 0, .int .i64 0, .int .i64 0, .slice none 0 0, .int .i64 a1] 140)) fun e w' => ∃ v, e = .returned v ∧ Kd.R kF 140 w' w.heap.size (fun _ => True) v (openTo l0 a1) ∧ Below w.heap.size w w') := ⟨fun A c W n hn hr hb => by
    subst hn
    have hb1 : Below w.heap.size w (W.alloc (.cells #[.int .i64 a1, .int .i64 0, .int .i64 0, .int .i64 0, .slice none 0 0, .int .i64 a1] 140)) := below_alloc hb _
    refine (insert65 A c (openCut l0) _ (fresh88 a1) W.heap.size w.heap.size _ (Kd.R_alloc hr _) rfl (blk_new W _) (fun he => absurd (kF_lt hr _ he) (Nat.lt_irrefl _)) (by have := cut_len hl; omega) hb1.size List.countP_le_length).mono ?_
    rintro e w' ⟨v, rfl, hr', hb'⟩
    exact ⟨v, rfl, hr', hb1.trans hb'⟩⟩
  rcases Nat.lt_or_ge l0.length 8 with h8 | h8
  · have hcut : openCut l0 = l0.map clr := by unfold openCut; rw [if_neg (by omega)]
    have hcl : (openCut l0).length = l0.length := by rw [hcut, List.length_map]
    have hb8 : ((l0.length : Int) == 8) = false := by rw [beq_eq_false_iff_ne]; omega
    rw [hcl] at HFK HI
    rw [← hcut] at HO
    have HCN := hcut
    generalize openCut l0 = K at *
    clear hcut HCN hcl
    generalize openTo l0 a1 = R at *
    generalize (K.any fun x => x.f0 == a1) = bb at *
    clear hr0 hc0 hm h1 h2 hs hl hno h8
    go_enter Tryz.func130, Tryz.ntmps130
    go_wp2_with (first
      | (go_at_call 128; with_reducible refine (HM.out _ (by repeat (first | exact Below.refl _ _ | exact (Aside0.out ‹Aside0 (Below w.heap.size w _)›) | apply pw_below_drewN | apply below_alloc))).mono ?_; rintro e w1 ⟨rfl, hb⟩; have HB1 := Aside0.mk hb; clear hb)
      | (go_at_call 97; with_reducible refine (HN.out _ (by repeat (first | exact Below.refl _ _ | exact (Aside0.out ‹Aside0 (Below w.heap.size w _)›) | apply pw_below_drewN | apply below_alloc))).mono ?_; rintro e w2 ⟨rfl, hb⟩; have HB2 := Aside0.mk hb; clear hb)
      | (go_at_call 131; with_reducible refine (HF.out _ (by repeat (first | exact Below.refl _ _ | exact (Aside0.out ‹Aside0 (Below w.heap.size w _)›) | apply pw_below_drewN | apply below_alloc))).mono ?_; rintro e w3 ⟨rfl, hb⟩; have HB3 := Aside0.mk hb; clear hb)
      | (go_at_call 85; with_reducible refine (HO.out _ (by repeat (first | exact Below.refl _ _ | exact (Aside0.out ‹Aside0 (Below w.heap.size w _)›) | apply pw_below_drewN | apply below_alloc))).mono ?_; rintro e w4 ⟨A4, c4, rfl, hr, hb⟩; have HB4 := Aside0.mk hb; clear hb; have HR4 := Aside0.mk hr; clear hr)
      | (go_at_call 131; with_reducible refine (HFK.out _ _ _ (by repeat (first | exact HR4.out | apply Kd.R_drewN)) (by repeat (first | exact Below.refl _ _ | exact (Aside0.out ‹Aside0 (Below w.heap.size w _)›) | apply pw_below_drewN | apply below_alloc))).mono ?_; rintro e w5 ⟨n5, hn5, rfl, hr, hb⟩; have HB5 := Aside0.mk hb; clear hb; have HR5 := Aside0.mk hr; clear hr)
      | (go_at_call 163; with_reducible refine (HI.out _ _ _ _ rfl (by repeat (first | exact HR5.out | apply Kd.R_drewN)) (by repeat (first | exact Below.refl _ _ | exact (Aside0.out ‹Aside0 (Below w.heap.size w _)›) | apply pw_below_drewN | apply below_alloc))).mono ?_; rintro e w6 ⟨v6, rfl, hr6, hb6⟩))
    
    go_ret2
    exact ⟨v6, rfl, hr6, hb6⟩
  · have hcut : openCut l0 = ((l0.map clr).map clr).eraseIdx (leastTo (l0.map clr) (l0.map clr).length) := by unfold openCut; rw [if_pos (by omega)]
    have hb8 : ((l0.length : Int) == 8) = true := by rw [beq_iff_eq]; omega
    have hlm : (l0.map clr).length = l0.length := List.length_map _
    have hlt : leastTo (l0.map clr) (l0.map clr).length < l0.length := by
      have : leastTo (l0.map clr) ((l0.map clr).length - 1 + 1) ≤ (l0.map clr).length - 1 := by
        have := leastTo_le (l0.map clr) ((l0.map clr).length - 1)
        unfold leastTo
        split
        · exact Nat.le_refl _
        · exact this
      rw [show (l0.map clr).length - 1 + 1 = (l0.map clr).length by omega] at this
      omega
    have HL4 : Aside0 (∀ A c W, Kd.R kF 140 W w.heap.size (fun _ => True) (.slice A l0.length c) (l0.map clr) → Below w.heap.size w W → Calls Tryz.prog 162 #[.slice A l0.length c] W fun e w' => e = .returned (.int .i64 ((leastTo (l0.map clr) (l0.map clr).length : Nat) : Int)) ∧ Kd.R kF 140 w' w.heap.size (fun _ => True) (.slice A l0.length c) (l0.map clr) ∧ Below w.heap.size w w') := ⟨fun A c W hr hb => by
      have q := kF_reads hr
      have := least64 A c (l0.map clr) W q.2 (by rw [hlm]; exact q.1) (by rw [hlm]; omega)
      rw [hlm] at this ⊢
      refine this.mono ?_
      rintro e w' ⟨rfl, hb'⟩
      exact ⟨rfl, Kd.R_below hr hb', below_step hb hb'⟩⟩
    have HW : Aside0 (∀ A c W, Kd.R kF 140 W w.heap.size (fun _ => True) (.slice A l0.length c) (l0.map clr) → Below w.heap.size w W → Calls Tryz.prog 132 #[.slice A l0.length c, .int .i64 ((leastTo (l0.map clr) (l0.map clr).length : Nat) : Int)] W fun e w' => ∃ A' c', e = .returned (.slice A' (openCut l0).length c') ∧ Kd.R kF 140 w' w.heap.size (fun _ => True) (.slice A' (openCut l0).length c') (openCut l0) ∧ Below w.heap.size w w') := ⟨fun A c W hr hb => by
      have q := kF_reads hr
      have := without63 A c (l0.map clr) (leastTo (l0.map clr) (l0.map clr).length) W q.2 (by rw [hlm]; exact q.1) (by rw [hlm]; omega) (by rw [hlm]; rw [hlm] at hlt; exact hlt)
      rw [← hcut] at this
      rw [show Value.slice A l0.length c = Value.slice A (l0.map clr).length c by rw [hlm]]
      refine this.mono ?_
      rintro e w' ⟨v, rfl, hr', hb'⟩
      obtain ⟨A', c', rfl⟩ := Kd.R_slice hr'
      exact ⟨A', c', rfl, Kd.R_lower hr' hb.size, below_step hb hb'⟩⟩
    clear hlt
    generalize (leastTo (l0.map clr) (l0.map clr).length) = at8 at *
    generalize hml : l0.map clr = M at *
    generalize openCut l0 = K at *
    generalize openTo l0 a1 = R at *
    generalize (K.any fun x => x.f0 == a1) = bb at *
    clear hr0 hc0 hm h1 h2 hs hl hno h8 hcut hml hlm
    go_enter Tryz.func130, Tryz.ntmps130
    go_wp2_with (first
      | (go_at_call 128; with_reducible refine (HM.out _ (by repeat (first | exact Below.refl _ _ | exact (Aside0.out ‹Aside0 (Below w.heap.size w _)›) | apply pw_below_drewN | apply below_alloc))).mono ?_; rintro e w1 ⟨rfl, hb⟩; have HB1 := Aside0.mk hb; clear hb)
      | (go_at_call 97; with_reducible refine (HN.out _ (by repeat (first | exact Below.refl _ _ | exact (Aside0.out ‹Aside0 (Below w.heap.size w _)›) | apply pw_below_drewN | apply below_alloc))).mono ?_; rintro e w2 ⟨rfl, hb⟩; have HB2 := Aside0.mk hb; clear hb)
      | (go_at_call 131; with_reducible refine (HF.out _ (by repeat (first | exact Below.refl _ _ | exact (Aside0.out ‹Aside0 (Below w.heap.size w _)›) | apply pw_below_drewN | apply below_alloc))).mono ?_; rintro e w3 ⟨rfl, hb⟩; have HB3 := Aside0.mk hb; clear hb)
      | (go_at_call 85; with_reducible refine (HO.out _ (by repeat (first | exact Below.refl _ _ | exact (Aside0.out ‹Aside0 (Below w.heap.size w _)›) | apply pw_below_drewN | apply below_alloc))).mono ?_; rintro e w4 ⟨A4, c4, rfl, hr, hb⟩; have HB4 := Aside0.mk hb; clear hb; have HR4 := Aside0.mk hr; clear hr)
      | (go_at_call 162; with_reducible refine (HL4.out _ _ _ (by repeat (first | exact HR4.out | apply Kd.R_drewN)) (by repeat (first | exact Below.refl _ _ | exact (Aside0.out ‹Aside0 (Below w.heap.size w _)›) | apply pw_below_drewN | apply below_alloc))).mono ?_; rintro e w7 ⟨rfl, hr, hb⟩; have HB7 := Aside0.mk hb; clear hb; have HR7 := Aside0.mk hr; clear hr)
      | (go_at_call 132; with_reducible refine (HW.out _ _ _ (by repeat (first | exact HR7.out | apply Kd.R_drewN)) (by repeat (first | exact Below.refl _ _ | exact (Aside0.out ‹Aside0 (Below w.heap.size w _)›) | apply pw_below_drewN | apply below_alloc))).mono ?_; rintro e w8 ⟨A8, c8, rfl, hr, hb⟩; have HB8 := Aside0.mk hb; clear hb; have HR8 := Aside0.mk hr; clear hr)
      | (go_at_call 131; with_reducible refine (HFK.out _ _ _ (by repeat (first | exact HR8.out | apply Kd.R_drewN)) (by repeat (first | exact Below.refl _ _ | exact (Aside0.out ‹Aside0 (Below w.heap.size w _)›) | apply pw_below_drewN | apply below_alloc))).mono ?_; rintro e w5 ⟨n5, hn5, rfl, hr, hb⟩; have HB5 := Aside0.mk hb; clear hb; have HR5 := Aside0.mk hr; clear hr)
      | (go_at_call 163; with_reducible refine (HI.out _ _ _ _ rfl (by repeat (first | exact HR5.out | apply Kd.R_drewN)) (by repeat (first | exact Below.refl _ _ | exact (Aside0.out ‹Aside0 (Below w.heap.size w _)›) | apply pw_below_drewN | apply below_alloc))).mono ?_; rintro e w6 ⟨v6, rfl, hr6, hb6⟩))
    
    go_ret2
    exact ⟨v6, rfl, hr6, hb6⟩
end Go.Proofs.YtpeldaogdeefeaaGreat.M
