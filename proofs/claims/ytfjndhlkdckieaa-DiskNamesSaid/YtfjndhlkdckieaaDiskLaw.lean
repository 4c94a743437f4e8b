/- DiskNames: the law's function returns true for every input that can be read. -/
import Derived.Test.YtfjndhlkdckieaaDiskWalk5
import Derived.Test.YtfjndhlkdckieaaDx1
import Derived.Test.YtfjndhlkdckieaaOpen
namespace Go.Proofs.Ytfjndhlkdckieaa.D
open Go.RowKit Go.Proofs.YtfjndhlkdckieaaW.PrintWords Go.Proofs.YtfjndhlkdckieaaW.PrintLast Go.Proofs.YtfjndhlkdckieaaW.PrintMore Go.Proofs.Ytfjndhlkdckieaa.Base Go.Proofs.Ytfjndhlkdckieaa.Opening Go.Maps
set_option linter.unusedVariables false
set_option linter.unusedSimpArgs false
theorem heavy_l1 (l0 : List S90) (l1 : List S85) : ∀ (d k : Nat) (i x : Int), 0 ≤ i → i + d = 40 → d < k → ∃ b, lecternlaw18_heavy.l1 k x i l0 l1 = some b
  | 0, k, i, x, h0, hd, hk => by
    obtain ⟨k, rfl⟩ : ∃ n, k = n + 1 := ⟨k - 1, by omega⟩
    unfold lecternlaw18_heavy.l1
    rw [if_neg (show ¬ i < 40 by omega)]
    repeat' split
    all_goals exact ⟨_, rfl⟩
  | d + 1, k, i, x, h0, hd, hk => by
    obtain ⟨k, rfl⟩ : ∃ n, k = n + 1 := ⟨k - 1, by omega⟩
    have hw : wrap64 (i + 1) = i + 1 := wrap64_in _ (by omega) (by omega)
    unfold lecternlaw18_heavy.l1
    rw [hw]
    by_cases h1 : i < (l1.length : Int)
    · rw [if_pos h1, if_pos (by omega), if_pos h0]
      exact heavy_l1 l0 l1 d k _ _ (by omega) (by omega) (by omega)
    · rw [if_neg h1]
      repeat' split
      all_goals exact ⟨_, rfl⟩
theorem heavy_l0 (l0 : List S90) (l1 : List S85) : ∀ (d k : Nat) (i x : Int), 0 ≤ i → i + d = 40 → d + 42 < k → ∃ b, lecternlaw18_heavy.l0 k x i l0 l1 = some b
  | 0, k, i, x, h0, hd, hk => by
    obtain ⟨k, rfl⟩ : ∃ n, k = n + 2 := ⟨k - 2, by omega⟩
    have h1 := heavy_l1 l0 l1 40 k 0 x (by omega) (by omega) (by omega)
    unfold lecternlaw18_heavy.l0
    rw [if_neg (show ¬ i < 40 by omega)]
    have h2 : lecternlaw18_heavy.j1 (k + 1) x l0 l1 = lecternlaw18_heavy.l1 k x 0 l0 l1 := by simp only [lecternlaw18_heavy.j1]
    rw [h2]
    split <;> exact h1
  | d + 1, k, i, x, h0, hd, hk => by
    obtain ⟨k, rfl⟩ : ∃ n, k = n + 2 := ⟨k - 2, by omega⟩
    have hw : wrap64 (i + 1) = i + 1 := wrap64_in _ (by omega) (by omega)
    have h1 := heavy_l1 l0 l1 40 k 0 x (by omega) (by omega) (by omega)
    have h2 : lecternlaw18_heavy.j1 (k + 1) x l0 l1 = lecternlaw18_heavy.l1 k x 0 l0 l1 := by simp only [lecternlaw18_heavy.j1]
    unfold lecternlaw18_heavy.l0
    rw [hw, h2]
    by_cases h3 : i < (l0.length : Int)
    · rw [if_pos h3, if_pos (show i < 40 by omega), if_pos h0]
      exact heavy_l0 l0 l1 d (k + 1) (i + 1) _ (by omega) (by omega) (by omega)
    · rw [if_neg h3]
      exact h1
theorem heavy_some (l0 : List S90) (l1 : List S85) : ∃ b, lecternlaw18_heavy.f 100 l0 l1 = some b := heavy_l0 l0 l1 40 100 0 0 (by omega) (by omega) (by omega)

theorem getD_mem {α : Type} {l : List α} {i : Nat} {z : α} (h : i < l.length) : l.getD i z ∈ l := by
  rw [List.getD_eq_getElem?_getD, List.getElem?_eq_getElem h]
  exact List.getElem_mem h
theorem C_nil (W : World) : Kd.C (Kd.int .u8) W none ([] : List Int).length [] := Kd.C_of_reads (enc := Value.int .u8) (d := (0 : Int)) (ReadsOf.nil _ _ _)
/-- One more round, or none. -/
def Turns (n : Nat) (w1 : World) (k : Nat) (v : Value) (w' : World) : Prop := ∃ i : Nat, i + k = 40 ∧ i ≤ n ∧ v = .int .i64 i ∧ Below w1.heap.size w1 w'
set_option maxRecDepth 100000 in
set_option maxHeartbeats 3200000 in
theorem names_walk0 (A0 : Option Addr) (c0 : Nat) (l0 : List S90) (A1 : Option Addr) (c1 : Nat) (l1 : List S85) (w : World) (hr0 : Kd.C k90 w A0 l0.length l0) (hc0 : l0.length ≤ c0) (hr1 : Kd.C k85 w A1 l1.length l1) (hc1 : l1.length ≤ c1)
    (hs1 : ∀ x ∈ l1, x.f1.size ≤ 140737488351232) (hl1 : l1.length ≤ 140737488351232) :
    Calls Try.prog 13 #[.agg #[.slice A0 l0.length c0, .slice A1 l1.length c1]] w fun e w' => e = .returned (.bool true) ∧ Below w.heap.size w w' := by
  obtain ⟨b, hb⟩ := heavy_some l0 l1
  have HB := Aside0.mk hb
  have HR0 := Aside0.mk hr0
  have HC0 := Aside0.mk hc0
  have HR1 := Aside0.mk hr1
  have HC1 := Aside0.mk hc1
  have HS1 := Aside0.mk hs1
  have hu82 := Try.underlying82
  clear hb hr0 hc0 hr1 hc1 hs1
  go_enter Try.func13, Try.ntmps13
  go_wp2_with fail
  have hbx := heap_alloc_new w (.cells #[.slice A0 l0.length c0, .slice A1 l1.length c1] 82)
  have hbl : Below w.heap.size w (w.alloc (.cells #[.slice A0 l0.length c0, .slice A1 l1.length c1] 82)) := below_alloc (Below.refl _ _) _
  have HL := Aside0.mk hbl
  clear hbl
  generalize w.alloc (.cells #[.slice A0 l0.length c0, .slice A1 l1.length c1] 82) = w0 at *
  refine (lecternlaw18_heavy.calls 100 A0 c0 l0 A1 c1 l1 b _ (Kd.C_below HR0.out HL.out) HC0.out (Kd.C_below HR1.out HL.out) HC1.out HB.out).mono ?_
  rintro e w1 ⟨rfl, hbel⟩
  have hbx1 := (hbel.block _ (blk_lt hbx)).trans hbx
  have hp1 : w.heap.size < w1.heap.size := blk_lt hbx1
  have HR1' : Aside0 (Kd.C k85 w1 A1 l1.length l1) := ⟨Kd.C_below (Kd.C_below HR1.out HL.out) hbel⟩
  have HL1 : Aside0 (Below w.heap.size w w1) := ⟨below_step HL.out hbel⟩
  clear hbel hbx HR0 HC0 HR1 HL HB
  cases b with
  | true =>
    go_wp2_with fail
    go_ret
    exact ⟨rfl, HL1.out⟩
  | false =>
    have hbb : (false = true) = False := by simp
    go_wp2_with fail
    go_loopg [3, 4, 5, 6, 7, 8, 9] 40 (fun kq v3 v4 v5 v6 v7 v8 v9 w' => Turns l1.length w1 kq v3 w')
    case atStart => exact ⟨0, rfl, Nat.zero_le _, rfl, Below.refl _ _⟩
    case round =>
      obtain ⟨i, hik, hil, rfl, hbi⟩ := hrel
      have HBI := Aside0.mk hbi
      have hbxi := (hbi.block _ hp1).trans hbx1
      have x0 : wr.cell? ⟨w.heap.size, 1, none⟩ = some (.slice A1 l1.length c1) := (blk_cell hbxi 1).trans rfl
      clear hbi hbxi
      by_cases hlt : i < l1.length
      · by_cases h40 : i < 40
        · have hd1 : decide (i < l1.length) = true := decide_eq_true hlt
          have hd2 : decide ((i : Int) < 40) = true := decide_eq_true (by omega)
          obtain ⟨ad, A4, c4, A5, c5, hA, e0, e1, e2, e3, e4, e5, _⟩ := at_T85 (Kd.C_below HR1'.out HBI.out) (i : Int) (by omega) (by omega)
          have hnm : (rd_T85 l1 (i : Int)).f1.size ≤ 140737488351232 := HS1.out _ (by
            unfold rd_T85
            rw [Int.toNat_natCast]
            exact getD_mem hlt)
          generalize (rd_T85 l1 (i : Int)).f1 = name at *
          have HN : Aside0 (name.size ≤ maxLen) := ⟨by unfold maxLen; omega⟩
          rw [Int.toNat_natCast] at e1
          clear e0 e2 e3 e4 e5 hnm
          subst hA
          go_wp2_with fail
          refine (new_nil _).mono ?_
          rintro e w2 ⟨g, b, rfl, hgw, hbw, hb1, hg1, hbel⟩
          have HG1 := Aside0.mk hg1
          have HB1 := Aside0.mk hb1
          have HBEL := Aside0.mk hbel
          have HGB : Aside0 (b ≠ g) := ⟨by rintro rfl; rw [hb1] at hg1; cases hg1⟩
          clear hg1 hb1 hbel e1
          go_wp2_with fail
          have hB3 : Below w2.heap.size w2 (w2.alloc (.cells #[.string name, .slice none 0 0] 90)) := below_alloc (Below.refl _ _) _
          have hN3 := heap_alloc_new w2 (.cells #[.string name, .slice none 0 0] 90)
          generalize w2.alloc (.cells #[.string name, .slice none 0 0] 90) = w3 at *
          have HB3 : Aside0 (Below wr.heap.size wr w3) := ⟨below_step HBEL.out hB3⟩
          have HG3 : Aside0 (PowAt w3 g b 0) := ⟨(hB3.block g (blk_lt HG1.out)).trans HG1.out⟩
          have HM3 : Aside0 (Files w3 b 0 (.map [])) := ⟨Files_empty ((hB3.block b (blk_lt HB1.out)).trans HB1.out)⟩
          have HI3 : Aside0 (Below w1.heap.size w1 w3) := ⟨below_step HBI.out HB3.out⟩
          have HGW : Aside0 (wr.heap.size ≤ g ∧ wr.heap.size ≤ b ∧ g < w3.heap.size ∧ b < w3.heap.size ∧ w1.heap.size ≤ wr.heap.size) := ⟨⟨hgw, hbw, blk_lt HG3.out, World.ownsMap.lt HM3.out, HBI.out.size⟩⟩
          clear hB3 HBEL HG1 HB1 hgw hbw
          have hnr := fun (r : Bool) (h : nameB name = r) => (name_is name (by have := HN.out; unfold maxLen at this; omega) (name.size + 2) (Nat.le_refl _)).trans (by rw [h])
          cases hgood : nameB name with
          | true =>
            have HGD := Aside0.mk hgood
            have HNR := Aside0.mk (hnr true hgood)
            clear hgood hnr
            refine (new_good _ name HN.out _ hN3 HGD.out).mono ?_
            rintro e w4 ⟨⟨g4, rfl⟩, hb4⟩
            have HB4 := Aside0.mk hb4
            clear hb4 hN3
            have HG4 : Aside0 (PowAt w4 g b 0) := ⟨(HB4.out.block g (by have := HGW.out; omega)).trans HG3.out⟩
            have HM4 : Aside0 (Files w4 b 0 (.map [])) := ⟨Files.of_block HM3.out (HB4.out.block b (by have := HGW.out; omega))⟩
            go_wp2_with (first | (go_at_call 52; refine (lecternlaw18_num.calls _ _ _ rfl).mono ?_; rintro e w' ⟨rfl, ⟨n1, rfl⟩⟩) | (go_at_call 53; refine (lecternref18_Name.calls _ _ _ _ HNR.out).mono ?_; rintro e w' ⟨rfl, ⟨n1, rfl⟩⟩))
            refine (append_new g b 0 (by decide) 0 (by decide) (by decide) (.map []) name HN.out [] none 0 (by decide) _ (fun W _ => C_nil W) HGD.out (by exact HG4.out) (by exact HM4.out) HGB.out (at_none _) (by decide)).mono ?_
            rintro e w5 ⟨rfl, hg5, f, v, hm5, hf5l, hf5, hr5, hk5, hs5, hbw5⟩
            obtain ⟨A5, m5, rfl, hl5, hC5⟩ := Kd.R_reads hr5
            have HG5 := Aside0.mk hg5
            have HM5 := Aside0.mk hm5
            have HF5 := Aside0.mk hf5
            have HW5 := Aside0.mk hbw5
            have HF5L := Aside0.mk hf5l
            have HS5 := Aside0.mk hs5
            clear hg5 hm5 hf5 hbw5 hr5 hk5 hC5 hl5 hf5l hs5
            go_wp2_with (first | (go_at_call 52; refine (lecternlaw18_num.calls _ _ _ rfl).mono ?_; rintro e w' ⟨rfl, ⟨n1, rfl⟩⟩) | (go_at_call 53; refine (lecternref18_Name.calls _ _ _ _ HNR.out).mono ?_; rintro e w' ⟨rfl, ⟨n1, rfl⟩⟩))
            refine (sync_hit g b (0 + 1) f _ A5 _ m5 (0 + 1) (by decide) (by decide) _ name HN.out _ HGD.out (by exact HG5.out) (by exact HM5.out) HGB.out (at_first f _) (by exact HF5.out)).mono ?_
            rintro e w6 ⟨rfl, hg6, hf6, hk6, hs6, hbw6⟩
            have HW6 := Aside0.mk hbw6
            clear hg6 hf6 hk6 hs6 hbw6
            go_wp2_with (first | (go_at_call 52; refine (lecternlaw18_num.calls _ _ _ rfl).mono ?_; rintro e w' ⟨rfl, ⟨n1, rfl⟩⟩) | (go_at_call 53; refine (lecternref18_Name.calls _ _ _ _ HNR.out).mono ?_; rintro e w' ⟨rfl, ⟨n1, rfl⟩⟩))
            go_roundg (gk - 1)
            case measure => omega
            case rel =>
              have hz3 := HB3.out.size
              have hz4 := HB4.out.size
              have hgw := HGW.out
              have b4 : Below wr.heap.size wr w4 := HB3.out.trans (HB4.out.mono hz3)
              have b5 : Below wr.heap.size wr w5 := (pw_below_drewN b4 _).trans (HW5.out _ hgw.1 hgw.2.1 (by exact b4.size))
              have b6 : Below wr.heap.size wr w6 := (pw_below_drewN b5 _).trans (HW6.out _ hgw.1 (Nat.le_trans b4.size HF5L.out) (by exact b5.size))
              exact ⟨i + 1, by omega, by omega, by go_num, below_step HBI.out (by first | exact b6 | exact pw_below_drewN b6 _)⟩
          | false =>
            have HGD := Aside0.mk hgood
            have HNR := Aside0.mk (hnr false hgood)
            clear hgood hnr
            refine (new_bad _ name HN.out _ hN3 HGD.out).mono ?_
            rintro e w4 ⟨rfl, hb4⟩
            have HB4 := Aside0.mk hb4
            clear hb4 hN3
            go_wp2_with (first | (go_at_call 52; refine (lecternlaw18_num.calls _ _ _ rfl).mono ?_; rintro e w' ⟨rfl, ⟨n1, rfl⟩⟩) | (go_at_call 53; refine (lecternref18_Name.calls _ _ _ _ HNR.out).mono ?_; rintro e w' ⟨rfl, ⟨n1, rfl⟩⟩))
            refine (append_no g name HN.out none 0 0 _ HGD.out).mono ?_
            rintro e w5 ⟨rfl, ⟨n5, rfl⟩⟩
            go_wp2_with (first | (go_at_call 52; refine (lecternlaw18_num.calls _ _ _ rfl).mono ?_; rintro e w' ⟨rfl, ⟨n1, rfl⟩⟩) | (go_at_call 53; refine (lecternref18_Name.calls _ _ _ _ HNR.out).mono ?_; rintro e w' ⟨rfl, ⟨n1, rfl⟩⟩))
            refine (sync_no g name HN.out _ HGD.out).mono ?_
            rintro e w6 ⟨rfl, ⟨n6, rfl⟩⟩
            go_wp2_with (first | (go_at_call 52; refine (lecternlaw18_num.calls _ _ _ rfl).mono ?_; rintro e w' ⟨rfl, ⟨n1, rfl⟩⟩) | (go_at_call 53; refine (lecternref18_Name.calls _ _ _ _ HNR.out).mono ?_; rintro e w' ⟨rfl, ⟨n1, rfl⟩⟩))
            go_roundg (gk - 1)
            case measure => omega
            case rel =>
              have b4 : Below wr.heap.size wr w4 := HB3.out.trans (HB4.out.mono HB3.out.size)
              exact ⟨i + 1, by omega, by omega, by go_num, below_step HBI.out (by first | exact b4 | exact pw_below_drewN b4 _)⟩
        · have hd1 : decide (i < l1.length) = true := decide_eq_true hlt
          have hd2 : decide ((i : Int) < 40) = false := decide_eq_false (by omega)
          go_wp2_with ((go_at_call 56; refine (wakes_true _).mono ?_; rintro e w' ⟨rfl, hwk⟩))
          go_ret
          exact ⟨rfl, below_step HL1.out (below_step HBI.out (by exact hwk))⟩
      · have hd1 : decide (i < l1.length) = false := decide_eq_false hlt
        go_wp2_with ((go_at_call 56; refine (wakes_true _).mono ?_; rintro e w' ⟨rfl, hwk⟩))
        go_ret
        exact ⟨rfl, below_step HL1.out (below_step HBI.out (by exact hwk))⟩
def ok90 (x : S90) : Prop := x.f0.size ≤ 140737488351232 ∧ ((x.f1.length * 1 ≤ 140737488351232 ∧ ∀ y5 ∈ x.f1, (Lit.int .u8 y5).wf = true))
theorem opens_90 : Opens Try.prog 90 k90 ok90 :=
  opens_struct (fun x : S90 => (x.f0, x.f1)) (fun p => ⟨p.1, p.2⟩) (fun _ => rfl) Try.underlying90 (by kernel_rfl)
    (show OpensFs Try.prog [9, 42] _ _ from (opens_cons (opens_string Try.underlying9 (by kernel_rfl)) (opens_last (opens_slice Try.underlying42 (by kernel_rfl) (by kernel_rfl) (opens_int Try.underlying5 (by kernel_rfl))))))
def ok85 (x : S85) : Prop := (Lit.int .i64 x.f0).wf = true ∧ (x.f1.size ≤ 140737488351232 ∧ (x.f2.size ≤ 140737488351232 ∧ ((Lit.int .i64 x.f3).wf = true ∧ ((x.f4.length * 1 ≤ 140737488351232 ∧ ∀ y5 ∈ x.f4, (Lit.int .u8 y5).wf = true) ∧ ((x.f5.length * 8 ≤ 140737488351232 ∧ ∀ y3 ∈ x.f5, (Lit.int .i64 y3).wf = true))))))
theorem opens_85 : Opens Try.prog 85 k85 ok85 :=
  opens_struct (fun x : S85 => (x.f0, x.f1, x.f2, x.f3, x.f4, x.f5)) (fun p => ⟨p.1, p.2.1, p.2.2.1, p.2.2.2.1, p.2.2.2.2.1, p.2.2.2.2.2⟩) (fun _ => rfl) Try.underlying85 (by kernel_rfl)
    (show OpensFs Try.prog [3, 9, 9, 3, 42, 36] _ _ from (opens_cons (opens_int Try.underlying3 (by kernel_rfl)) (opens_cons (opens_string Try.underlying9 (by kernel_rfl)) (opens_cons (opens_string Try.underlying9 (by kernel_rfl)) (opens_cons (opens_int Try.underlying3 (by kernel_rfl)) (opens_cons (opens_slice Try.underlying42 (by kernel_rfl) (by kernel_rfl) (opens_int Try.underlying5 (by kernel_rfl))) (opens_last (opens_slice Try.underlying36 (by kernel_rfl) (by kernel_rfl) (opens_int Try.underlying3 (by kernel_rfl))))))))))
structure S82 where
  f0 : List S90
  f1 : List S85
def k82 : Kd S82 := Kd.iso (Kd.pair (Kd.slice 90 k90) (Kd.slice 85 k85)) (fun x : S82 => (x.f0, x.f1))
def ok82 (x : S82) : Prop := (x.f0.length * 40 ≤ 140737488351232 ∧ ∀ y90 ∈ x.f0, ok90 y90) ∧ ((x.f1.length * 96 ≤ 140737488351232 ∧ ∀ y85 ∈ x.f1, ok85 y85))
theorem opens_82 : Opens Try.prog 82 k82 ok82 :=
  opens_struct (fun x : S82 => (x.f0, x.f1)) (fun p => ⟨p.1, p.2⟩) (fun _ => rfl) Try.underlying82 (by kernel_rfl)
    (show OpensFs Try.prog [79, 80] _ _ from (opens_cons (opens_slice Try.underlying79 (by kernel_rfl) (by kernel_rfl) opens_90) (opens_last (opens_slice Try.underlying80 (by kernel_rfl) (by kernel_rfl) opens_85))))
theorem names_walk (x : S82) (cs : List Value) (w : World) (hk : k82.K w x cs) (ok : ok82 x) :
    Calls Try.prog 13 #[.agg ⟨cs⟩] w fun e w' => e = .returned (.bool true) ∧ Below w.heap.size w w' := by
  obtain ⟨c0, c1, rfl, ⟨A0, n0, rfl, h0, hC0⟩, ⟨A1, n1, rfl, h1, hC1⟩⟩ := hk
  exact names_walk0 A0 n0 x.f0 A1 n1 x.f1 w hC0 h0 hC1 h1 (fun y hy => (ok.2.2 y hy).2.1) (by have := ok.2.1; omega)
end Go.Proofs.Ytfjndhlkdckieaa.D
