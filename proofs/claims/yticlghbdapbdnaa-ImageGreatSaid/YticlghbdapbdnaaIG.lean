-- Written by a program: the kit's printer with changes of this session (NOTES.md).
import Derived.Test.YticlghbdapbdnaaIG0
namespace Go.Proofs.Yticlghbdapbdnaa.I
open Go.RowKit Go.Proofs.YticlghbdapbdnaaW.PrintWords Go.Proofs.YticlghbdapbdnaaW.PrintLast Go.Proofs.YticlghbdapbdnaaW.PrintMore
attribute [local go_sem] max2_int min2_int max_two min_two max_three min_three max_four min_four   -- for this text's walks alone
open Go.Proofs.YticlghbdapbdnaaW.PrintWords.Kd
set_option linter.unusedVariables false
set_option linter.unusedSimpArgs false


-- shrunk
set_option maxHeartbeats 8000000 in
set_option maxRecDepth 100000 in
theorem lecternlaw17_ImageGreat.calls (k : Nat) (A0 : Option Addr) (c0 : Nat) (l0 : List (S28)) (r : Bool) (w : World) (hr0 : Kd.C k28 w A0 l0.length l0) (hc0 : l0.length ≤ c0) (h : lecternlaw17_ImageGreat.f k l0 = some r) :
  Calls Try.prog 4 #[.slice A0 l0.length c0] w fun e w' => e = .returned (.bool r) ∧ Below w.heap.size w w' := by
 have hu28 := Try.underlying28
 have hu42 := Try.underlying42
 have hu45 := Try.underlying45
 have hu47 := Try.underlying47
 have HR0 := Aside0.mk hr0
 have HC0 := Aside0.mk hc0
 clear hr0 hc0
 have HB := Aside0.mk (Below.refl w.heap.size w)
 have H : (lecternlaw17_ImageGreat.l0 k l0 0 1099511627775 ([] : List (S42))) = some r := h
 clear h
 have H' := Aside0.mk H
 clear H
 go_enter Try.func4, Try.ntmps4
 go_wp2_with (first | ((with_reducible refine gate_dst (N := 3) rfl ?_); (try (refine gate_guard (by rfl) ?_; dsimp only)); refine box_event ?hg (N := 3) ?hd (cs := #[.int .i64 0, .slice none 0 0, .slice none 0 0]) (t := 28) ?hr ?_; (case hd => rfl); (case hg => rfl); (case hr => first | (go_simp; done) | (go_simp; rfl)); intro gb229 hg w2 hbox hb; have n0_ := Aside0.mk (below_step (by repeat (first | exact HB.out | apply below_alloc | apply pw_below_drewN | apply below_drew1)) hb); have n1_ := Aside0.mk (hbox); have n2_ := Aside0.mk ((by rw [hg]; exact (below_size (by repeat (first | exact HB.out | apply below_alloc | apply pw_below_drewN | apply below_drew1))) : w.heap.size ≤ gb229)); have n3_ := Aside0.mk ((by rw [hg]; exact (below_size (by repeat (first | exact HB.out | apply below_alloc | apply pw_below_drewN | apply below_drew1))) : w.heap.size ≤ gb229)); clear HB; have HB := n0_; have BK229 := n1_; have GW229 := n2_; have GE229 := n3_; clear n0_ n1_ n2_ n3_; clear hb hbox hg; have hcz3_0 : w2.cell? ⟨gb229, 0, none⟩ = some (.int .i64 0) := (blk_cell BK229.out 0).trans rfl; have hcz3_1 : w2.cell? ⟨gb229, 1, none⟩ = some (.slice none 0 0) := (blk_cell BK229.out 1).trans rfl; have hcz3_2 : w2.cell? ⟨gb229, 2, none⟩ = some (.slice none 0 0) := (blk_cell BK229.out 2).trans rfl; have hfz3_0 := blk_frozen BK229.out 0; have hfz3_1 := blk_frozen BK229.out 1; have hfz3_2 := blk_frozen BK229.out 2))
 go_loopg [4] k (fun kq v4 w' => ∃ (x4_1 : Int) (x230001_1 : List (S42)) (u230001 : Value), v4 = .int .i64 x4_1 ∧ Aside0 (lecternlaw17_ImageGreat.l0 kq l0 x4_1 1099511627775 x230001_1 = some r) ∧ Aside0 (kq ≤ k) ∧ Aside0 (Kd.R k42 42 w' w.heap.size (fun _ => True) u230001 x230001_1) ∧ Aside0 (w'.heap[gb229]? = some (.cells #[.int .i64 1099511627775, u230001, (.slice none 0 0)] 28 (0, 0))) ∧ Aside0 (Below w.heap.size w w'))
 case atStart => exact ⟨(0), (([] : List (S42))), (.slice none 0 0), (by first | rfl | (simp; done) | (simp [*]; done)), H', ⟨Nat.le_refl _⟩, ⟨by first | exact R_nil _ _ _ _ _ | exact Kd.N_nil _ _ _ _ _ | exact Kd.V_nil _ _ _ _ _ | exact Kd.Q_nil _ _ _ _ _ | exact S_nil _ _ _ _ _⟩, ⟨by (with_reducible repeat (first | refine blk_drewN ?_ _ | refine blk_drew ?_ | refine blk_alloc ?_ _)); refine blk_put (cs := #[.int .i64 1099511627775, .slice none 0 0, .slice none 0 0]) ?_ 2 _ rfl; (with_reducible repeat (first | refine blk_drewN ?_ _ | refine blk_drew ?_ | refine blk_alloc ?_ _)); refine blk_put (cs := #[.int .i64 1099511627775, .slice none 0 0, .slice none 0 0]) ?_ 1 _ rfl; (with_reducible repeat (first | refine blk_drewN ?_ _ | refine blk_drew ?_ | refine blk_alloc ?_ _)); refine blk_put (cs := #[.int .i64 0, .slice none 0 0, .slice none 0 0]) ?_ 0 _ rfl; (with_reducible repeat (first | refine blk_drewN ?_ _ | refine blk_drew ?_ | refine blk_alloc ?_ _)); exact BK229.out⟩, ⟨by repeat (first | exact HB.out | apply below_alloc | apply pw_below_drewN | apply below_drew1 | refine below_set ?_ GE229.out)⟩⟩
 case round =>
  clear H'
  try clear p2
  try clear hcz3_0
  try clear hcz3_1
  try clear hcz3_2
  try clear hfz3_0
  try clear hfz3_1
  try clear hfz3_2
  obtain ⟨x4_1, x230001_1, u230001, rfl, HA, HK1, HO_230001, BK229, HB⟩ := hrel
  cases gk with
  | zero => exact absurd HA.out (by simp [lecternlaw17_ImageGreat.l0])
  | succ k1 =>
   have H := HA.out
   clear HA
   simp only [lecternlaw17_ImageGreat.l0] at H
   by_cases c4 : x4_1 < 64
   ·rw [if_pos c4] at H
    have c4b0 : decide (x4_1 < 64) = true := decide_eq_true c4
    clear c4
    obtain ⟨y230, hy230⟩ : ∃ y_ : List Int, y_ = (([(wrap64 (97 + (wrap64 (Int.tdiv x4_1 26)))) % 256, (wrap64 (97 + (Int.tmod x4_1 26))) % 256] : List Int)) := ⟨_, rfl⟩
    replace H : (if 62 ≤ 281474976710656 then ((some (List.replicate 62 0 : List Int)).bind fun y233 => (if (strOfNums y230).size + (strOfNums y233).size ≤ 9223372036854775807 then (if 256 ≤ 281474976710656 then (if x230001_1.length < 4398046511104 then (lecternlaw17_ImageGreat.l0 k1 l0 (wrap64 (x4_1 + 1)) 1099511627775 (x230001_1 ++ [(⟨(strOfNums y230) ++ (strOfNums y233), strOfNums (List.replicate 256 0)⟩ : S42)])) else (none)) else (none)) else (none))) else (none)) = some r := by first | (rw [hy230]; with_reducible exact H) | (have H2_ := (Option.bind_some _ _).symm.trans H; rw [hy230]; with_reducible exact H2_) | (have H2_ := (Option.bind_some _ _).symm.trans H; with_reducible exact H2_) | with_reducible exact H | (rw [hy230]; exact H) | exact H
    have Ny230 := Aside0.mk hy230
    clear hy230
    by_cases c5 : 62 ≤ 281474976710656
    ·rw [if_pos c5] at H
     have c5b0 := eq_true c5
     have c5b1 : decide (62 ≤ 281474976710656) = true := decide_eq_true c5
     clear c5
     obtain ⟨y233, hy233⟩ : ∃ y_ : List Int, y_ = (List.replicate 62 0) := ⟨_, rfl⟩
     replace H : (if (strOfNums y230).size + (strOfNums y233).size ≤ 9223372036854775807 then (if 256 ≤ 281474976710656 then (if x230001_1.length < 4398046511104 then (lecternlaw17_ImageGreat.l0 k1 l0 (wrap64 (x4_1 + 1)) 1099511627775 (x230001_1 ++ [(⟨(strOfNums y230) ++ (strOfNums y233), strOfNums (List.replicate 256 0)⟩ : S42)])) else (none)) else (none)) else (none)) = some r := by first | (rw [hy233]; with_reducible exact H) | (have H2_ := (Option.bind_some _ _).symm.trans H; rw [hy233]; with_reducible exact H2_) | (have H2_ := (Option.bind_some _ _).symm.trans H; with_reducible exact H2_) | with_reducible exact H | (rw [hy233]; exact H) | exact H
     have Ny233 := Aside0.mk hy233
     clear hy233
     by_cases c6 : (strOfNums y230).size + (strOfNums y233).size ≤ 9223372036854775807
     ·rw [if_pos c6] at H
      have c6b0 := eq_true c6
      have c6b1 : decide ((strOfNums y230).size + (strOfNums y233).size ≤ 9223372036854775807) = true := decide_eq_true c6
      try have c6b2 : (9223372036854775807 < (strOfNums y230).size + (strOfNums y233).size) = False := eq_false (Nat.not_lt.2 c6)
      by_cases c7 : 256 ≤ 281474976710656
      ·rw [if_pos c7] at H
       have c7b0 := eq_true c7
       have c7b1 : decide (256 ≤ 281474976710656) = true := decide_eq_true c7
       clear c7
       obtain ⟨y236, hy236⟩ : ∃ y_ : List Int, y_ = (List.replicate 256 0) := ⟨_, rfl⟩
       replace H : (if x230001_1.length < 4398046511104 then (lecternlaw17_ImageGreat.l0 k1 l0 (wrap64 (x4_1 + 1)) 1099511627775 (x230001_1 ++ [(⟨(strOfNums y230) ++ (strOfNums y233), strOfNums y236⟩ : S42)])) else (none)) = some r := by first | (rw [hy236]; with_reducible exact H) | (have H2_ := (Option.bind_some _ _).symm.trans H; rw [hy236]; with_reducible exact H2_) | (have H2_ := (Option.bind_some _ _).symm.trans H; with_reducible exact H2_) | with_reducible exact H | (rw [hy236]; exact H) | exact H
       have Ny236 := Aside0.mk hy236
       clear hy236
       by_cases c8 : x230001_1.length < 4398046511104
       ·rw [if_pos c8] at H
        have LMc8 := Aside0.mk c8
        clear c8
        obtain ⟨y239, hy239⟩ : ∃ y_ : List (S42), y_ = (x230001_1 ++ [(⟨(strOfNums y230) ++ (strOfNums y233), strOfNums y236⟩ : S42)]) := ⟨_, rfl⟩
        replace H : (lecternlaw17_ImageGreat.l0 k1 l0 (wrap64 (x4_1 + 1)) 1099511627775 y239) = some r := by first | (rw [hy239]; with_reducible exact H) | (have H2_ := (Option.bind_some _ _).symm.trans H; rw [hy239]; with_reducible exact H2_) | (have H2_ := (Option.bind_some _ _).symm.trans H; with_reducible exact H2_) | with_reducible exact H | (rw [hy239]; exact H) | exact H
        have Ny239 := Aside0.mk hy239
        clear hy239
        have H' := Aside0.mk H
        clear H
        obtain ⟨Ao9, co9, eo9⟩ := R_slice HO_230001.out
        subst eo9
        try go_wp2
        have n0_ := Aside0.mk (R_drew HO_230001.out)
        have n1_ := Aside0.mk (blk_drew BK229.out)
        have n2_ := Aside0.mk (below_drew1 HB.out)
        clear HO_230001
        clear BK229
        clear HB
        have HO_230001 := n0_
        have BK229 := n1_
        have HB := n2_
        clear n0_ n1_ n2_
        refine start_ (n := 22) (S := fun w' => w'.cell? ⟨gb229, 0, none⟩ = some (.int .i64 1099511627775) ∧ w'.cell? ⟨gb229, 1, none⟩ = some (.slice Ao9 x230001_1.length co9) ∧ w'.cell? ⟨gb229, 2, none⟩ = some (.slice none 0 0)) (ds := [21]) #[false, false, false, false, false, false, false, false, false, false, false, false, false, false, false, false, false, false, false, false, false, false] (by kernel_rfl) rfl rfl ⟨(blk_cell BK229.out 0).trans rfl, (blk_cell BK229.out 1).trans rfl, (blk_cell BK229.out 2).trans rfl⟩ (fun hHeld => ?_); refine with_tabW lecternlaw17_ImageGreat.tab5 lecternlaw17_ImageGreat.bits5 (fun HT_ HW_ => ?_)
        generalize wr.drew = w10 at HO_230001 BK229 HB hHeld ⊢
        refine pure_ (i := 0) (N := some 17) (v := ?_) (a' := ?_) #[true, false, false, false, false, false, false, false, false, false, false, false, false, false, false, false, false, false, false, false, false, false] rfl rfl (any_of HT_.out (by kernel_rfl)) (fun _ _ _ h => h) (Or.inl ⟨by rfl, ?_⟩) ?_ ?_
        rotate_left
        ·intro w'
         go_simp
         with_reducible rfl
        rotate_left
        ·simp only [Act.put, sA, sB, sC, i64_w, i32_w]
         rfl
        refine pure_ (i := 2) (N := some 19) (v := ?_) (a' := ?_) #[true, false, true, false, false, false, false, false, false, false, false, false, false, false, false, false, false, false, false, false, false, false] rfl rfl (any_of HT_.out (by kernel_rfl)) (fun _ _ _ h => h) (Or.inl ⟨by rfl, ?_⟩) ?_ ?_
        rotate_left
        ·intro w'
         go_simp
         with_reducible rfl
        rotate_left
        ·simp only [Act.put, sA, sB, sC, i64_w, i32_w]
         rfl
        refine pure_ (i := 3) (N := some 20) (v := ?_) (a' := ?_) #[true, false, true, true, false, false, false, false, false, false, false, false, false, false, false, false, false, false, false, false, false, false] rfl rfl (any_of HT_.out (by kernel_rfl)) (fun _ _ _ h => h) (Or.inl ⟨by rfl, ?_⟩) ?_ ?_
        rotate_left
        ·intro w'
         go_simp
         with_reducible rfl
        rotate_left
        ·simp only [Act.put, sA, sB, sC, i64_w, i32_w]
         rfl
        refine pure_ (i := 4) (N := some 21) (v := ?_) (a' := ?_) #[true, false, true, true, true, false, false, false, false, false, false, false, false, false, false, false, false, false, false, false, false, false] rfl rfl (any_of HT_.out (by kernel_rfl)) (fun _ _ _ h => h) (Or.inl ⟨by rfl, ?_⟩) ?_ ?_
        rotate_left
        ·intro w'
         go_simp
         with_reducible rfl
        rotate_left
        ·simp only [Act.put, sA, sB, sC, i64_w, i32_w]
         rfl
        refine pure_ (i := 5) (N := some 22) (v := ?_) (a' := ?_) #[true, false, true, true, true, true, false, false, false, false, false, false, false, false, false, false, false, false, false, false, false, false] rfl rfl (any_of HT_.out (by kernel_rfl)) (fun _ _ _ h => h) (Or.inl ⟨by rfl, ?_⟩) ?_ ?_
        rotate_left
        ·intro w'
         go_simp
         with_reducible rfl
        rotate_left
        ·simp only [Act.put, sA, sB, sC, i64_w, i32_w]
         rfl
        refine pure_ (i := 6) (N := some 23) (v := ?_) (a' := ?_) #[true, false, true, true, true, true, true, false, false, false, false, false, false, false, false, false, false, false, false, false, false, false] rfl rfl (any_of HT_.out (by kernel_rfl)) (fun _ _ _ h => h) (Or.inl ⟨by rfl, ?_⟩) ?_ ?_
        rotate_left
        ·intro w'
         go_simp
         with_reducible rfl
        rotate_left
        ·simp only [Act.put, sA, sB, sC, i64_w, i32_w]
         rfl
        refine pure_ (i := 7) (N := some 24) (v := ?_) (a' := ?_) #[true, false, true, true, true, true, true, true, false, false, false, false, false, false, false, false, false, false, false, false, false, false] rfl rfl (any_of HT_.out (by kernel_rfl)) (fun _ _ _ h => h) (Or.inl ⟨by rfl, ?_⟩) ?_ ?_
        rotate_left
        ·intro w'
         go_simp
         with_reducible rfl
        rotate_left
        ·simp only [Act.put, sA, sB, sC, i64_w, i32_w]
         rfl
        refine pure_ (i := 8) (N := some 25) (v := ?_) (a' := ?_) #[true, false, true, true, true, true, true, true, true, false, false, false, false, false, false, false, false, false, false, false, false, false] rfl rfl (any_of HT_.out (by kernel_rfl)) (fun _ _ _ h => h) (Or.inl ⟨by rfl, ?_⟩) ?_ ?_
        rotate_left
        ·intro w'
         go_simp
         with_reducible rfl
        rotate_left
        ·simp only [Act.put, sA, sB, sC, i64_w, i32_w]
         rfl
        refine pure_ (i := 9) (N := some 26) (v := ?_) (a' := ?_) #[true, false, true, true, true, true, true, true, true, true, false, false, false, false, false, false, false, false, false, false, false, false] rfl rfl (any_of HT_.out (by kernel_rfl)) (fun _ _ _ h => h) (Or.inl ⟨by rfl, ?_⟩) ?_ ?_
        rotate_left
        ·intro w'
         go_simp
         with_reducible rfl
        rotate_left
        ·simp only [Act.put, sA, sB, sC, i64_w, i32_w]
         rfl
        refine take_ (i := 1) (N := some 18) (v := ?_) (a' := ?_) #[true, true, true, true, true, true, true, true, true, true, false, false, false, false, false, false, false, false, false, false, false, false] rfl rfl (take_ofW HT_.out HW_.out (by kernel_rfl)) (fun _ _ _ h => h) (Or.inl ⟨by rfl, ?_⟩) hHeld ?_ ?_
        rotate_left
        ·rintro w' ⟨s0, s1, s2⟩
         go_simp
         with_reducible rfl
        rotate_left
        ·simp only [Act.put, sA, sB, sC, i64_w, i32_w]
         rfl
        refine join_ (σ := Value × Value × Value) 5 fz0_28 (fun s_ => [(27, s_.1), (28, .string (strOfNums y230)), (29, s_.2.1), (30, .string (strOfNums y233)), (32, s_.2.2), (33, .string (strOfNums y236)), (31, .string ((strOfNums y230) ++ (strOfNums y233)))]) (fun s_ w' => (w'.cell? ⟨gb229, 0, none⟩ = some (.int .i64 1099511627775) ∧ w'.cell? ⟨gb229, 1, none⟩ = some (.slice Ao9 x230001_1.length co9) ∧ w'.cell? ⟨gb229, 2, none⟩ = some (.slice none 0 0)) ∧ (Kd.R (Kd.int .u8) 5 w' w.heap.size (fun k_ => some k_ ≠ (s_.2.1 : Value).ownBlock ∧ some k_ ≠ (s_.2.2 : Value).ownBlock) s_.1 y230) ∧ (Kd.R (Kd.int .u8) 5 w' w.heap.size (fun k_ => some k_ ≠ (s_.1 : Value).ownBlock ∧ some k_ ≠ (s_.2.2 : Value).ownBlock) s_.2.1 y233) ∧ (Kd.R (Kd.int .u8) 5 w' w.heap.size (fun k_ => some k_ ≠ (s_.1 : Value).ownBlock ∧ some k_ ≠ (s_.2.1 : Value).ownBlock) s_.2.2 y236) ∧ (Kd.R k42 42 w' w.heap.size (fun _ => True) (.slice Ao9 x230001_1.length co9) x230001_1) ∧ (w'.heap[gb229]? = some (.cells #[.int .i64 1099511627775, .slice Ao9 x230001_1.length co9, .slice none 0 0] 28 (0, 0))) ∧ (Below w.heap.size w w')) ?_ ?_
        rotate_left
        ·intro hJ10_11_12_13_15_16
         refine join_ (σ := Value × Value × Value) 6 fz0_27 (fun s_ => [(27, s_.1), (28, .string (strOfNums y230)), (29, s_.2.1), (30, .string (strOfNums y233)), (32, s_.2.2), (31, .string ((strOfNums y230) ++ (strOfNums y233)))]) (fun s_ w' => (w'.cell? ⟨gb229, 0, none⟩ = some (.int .i64 1099511627775) ∧ w'.cell? ⟨gb229, 1, none⟩ = some (.slice Ao9 x230001_1.length co9) ∧ w'.cell? ⟨gb229, 2, none⟩ = some (.slice none 0 0)) ∧ (Kd.R (Kd.int .u8) 5 w' w.heap.size (fun k_ => some k_ ≠ (s_.2.1 : Value).ownBlock ∧ some k_ ≠ (s_.2.2 : Value).ownBlock) s_.1 y230) ∧ (Kd.R (Kd.int .u8) 5 w' w.heap.size (fun k_ => some k_ ≠ (s_.1 : Value).ownBlock ∧ some k_ ≠ (s_.2.2 : Value).ownBlock) s_.2.1 y233) ∧ (Kd.R (Kd.int .u8) 5 w' w.heap.size (fun k_ => some k_ ≠ (s_.1 : Value).ownBlock ∧ some k_ ≠ (s_.2.1 : Value).ownBlock) s_.2.2 y236) ∧ (Kd.R k42 42 w' w.heap.size (fun _ => True) (.slice Ao9 x230001_1.length co9) x230001_1) ∧ (w'.heap[gb229]? = some (.cells #[.int .i64 1099511627775, .slice Ao9 x230001_1.length co9, .slice none 0 0] 28 (0, 0))) ∧ (Below w.heap.size w w')) ?_ ?_
         rotate_left
         ·intro hJ10_11_12_13_15
          refine join_ (σ := Value × Value × Value) 7 fz0_22 (fun s_ => [(27, s_.1), (28, .string (strOfNums y230)), (29, s_.2.1), (32, s_.2.2), (33, .string (strOfNums y236))]) (fun s_ w' => (w'.cell? ⟨gb229, 0, none⟩ = some (.int .i64 1099511627775) ∧ w'.cell? ⟨gb229, 1, none⟩ = some (.slice Ao9 x230001_1.length co9) ∧ w'.cell? ⟨gb229, 2, none⟩ = some (.slice none 0 0)) ∧ (Kd.R (Kd.int .u8) 5 w' w.heap.size (fun k_ => some k_ ≠ (s_.2.1 : Value).ownBlock ∧ some k_ ≠ (s_.2.2 : Value).ownBlock) s_.1 y230) ∧ (Kd.R (Kd.int .u8) 5 w' w.heap.size (fun k_ => some k_ ≠ (s_.1 : Value).ownBlock ∧ some k_ ≠ (s_.2.2 : Value).ownBlock) s_.2.1 y233) ∧ (Kd.R (Kd.int .u8) 5 w' w.heap.size (fun k_ => some k_ ≠ (s_.1 : Value).ownBlock ∧ some k_ ≠ (s_.2.1 : Value).ownBlock) s_.2.2 y236) ∧ (Kd.R k42 42 w' w.heap.size (fun _ => True) (.slice Ao9 x230001_1.length co9) x230001_1) ∧ (w'.heap[gb229]? = some (.cells #[.int .i64 1099511627775, .slice Ao9 x230001_1.length co9, .slice none 0 0] 28 (0, 0))) ∧ (Below w.heap.size w w')) ?_ ?_
          rotate_left
          ·intro hJ10_11_12_15_16
           refine join_ (σ := Value × Value × Value) 7 fz0_16 (fun s_ => [(27, s_.1), (29, s_.2.1), (30, .string (strOfNums y233)), (32, s_.2.2), (33, .string (strOfNums y236))]) (fun s_ w' => (w'.cell? ⟨gb229, 0, none⟩ = some (.int .i64 1099511627775) ∧ w'.cell? ⟨gb229, 1, none⟩ = some (.slice Ao9 x230001_1.length co9) ∧ w'.cell? ⟨gb229, 2, none⟩ = some (.slice none 0 0)) ∧ (Kd.R (Kd.int .u8) 5 w' w.heap.size (fun k_ => some k_ ≠ (s_.2.1 : Value).ownBlock ∧ some k_ ≠ (s_.2.2 : Value).ownBlock) s_.1 y230) ∧ (Kd.R (Kd.int .u8) 5 w' w.heap.size (fun k_ => some k_ ≠ (s_.1 : Value).ownBlock ∧ some k_ ≠ (s_.2.2 : Value).ownBlock) s_.2.1 y233) ∧ (Kd.R (Kd.int .u8) 5 w' w.heap.size (fun k_ => some k_ ≠ (s_.1 : Value).ownBlock ∧ some k_ ≠ (s_.2.1 : Value).ownBlock) s_.2.2 y236) ∧ (Kd.R k42 42 w' w.heap.size (fun _ => True) (.slice Ao9 x230001_1.length co9) x230001_1) ∧ (w'.heap[gb229]? = some (.cells #[.int .i64 1099511627775, .slice Ao9 x230001_1.length co9, .slice none 0 0] 28 (0, 0))) ∧ (Below w.heap.size w w')) ?_ ?_
           rotate_left
           ·intro hJ10_12_13_15_16
            refine join_ (σ := Value × Value) 7 fz0_26 (fun s_ => [(27, s_.1), (28, .string (strOfNums y230)), (29, s_.2), (30, .string (strOfNums y233)), (31, .string ((strOfNums y230) ++ (strOfNums y233)))]) (fun s_ w' => (w'.cell? ⟨gb229, 0, none⟩ = some (.int .i64 1099511627775) ∧ w'.cell? ⟨gb229, 1, none⟩ = some (.slice Ao9 x230001_1.length co9) ∧ w'.cell? ⟨gb229, 2, none⟩ = some (.slice none 0 0)) ∧ (Kd.R (Kd.int .u8) 5 w' w.heap.size (fun k_ => some k_ ≠ (s_.2 : Value).ownBlock) s_.1 y230) ∧ (Kd.R (Kd.int .u8) 5 w' w.heap.size (fun k_ => some k_ ≠ (s_.1 : Value).ownBlock) s_.2 y233) ∧ (Kd.R k42 42 w' w.heap.size (fun _ => True) (.slice Ao9 x230001_1.length co9) x230001_1) ∧ (w'.heap[gb229]? = some (.cells #[.int .i64 1099511627775, .slice Ao9 x230001_1.length co9, .slice none 0 0] 28 (0, 0))) ∧ (Below w.heap.size w w')) ?_ ?_
            rotate_left
            ·intro hJ10_11_12_13
             refine join_ (σ := Value × Value × Value) 8 fz0_21 (fun s_ => [(27, s_.1), (28, .string (strOfNums y230)), (29, s_.2.1), (32, s_.2.2)]) (fun s_ w' => (w'.cell? ⟨gb229, 0, none⟩ = some (.int .i64 1099511627775) ∧ w'.cell? ⟨gb229, 1, none⟩ = some (.slice Ao9 x230001_1.length co9) ∧ w'.cell? ⟨gb229, 2, none⟩ = some (.slice none 0 0)) ∧ (Kd.R (Kd.int .u8) 5 w' w.heap.size (fun k_ => some k_ ≠ (s_.2.1 : Value).ownBlock ∧ some k_ ≠ (s_.2.2 : Value).ownBlock) s_.1 y230) ∧ (Kd.R (Kd.int .u8) 5 w' w.heap.size (fun k_ => some k_ ≠ (s_.1 : Value).ownBlock ∧ some k_ ≠ (s_.2.2 : Value).ownBlock) s_.2.1 y233) ∧ (Kd.R (Kd.int .u8) 5 w' w.heap.size (fun k_ => some k_ ≠ (s_.1 : Value).ownBlock ∧ some k_ ≠ (s_.2.1 : Value).ownBlock) s_.2.2 y236) ∧ (Kd.R k42 42 w' w.heap.size (fun _ => True) (.slice Ao9 x230001_1.length co9) x230001_1) ∧ (w'.heap[gb229]? = some (.cells #[.int .i64 1099511627775, .slice Ao9 x230001_1.length co9, .slice none 0 0] 28 (0, 0))) ∧ (Below w.heap.size w w')) ?_ ?_
             rotate_left
             ·intro hJ10_11_12_15
              refine join_ (σ := Value × Value) 8 fz0_19 (fun s_ => [(27, s_.1), (28, .string (strOfNums y230)), (32, s_.2), (33, .string (strOfNums y236))]) (fun s_ w' => (w'.cell? ⟨gb229, 0, none⟩ = some (.int .i64 1099511627775) ∧ w'.cell? ⟨gb229, 1, none⟩ = some (.slice Ao9 x230001_1.length co9) ∧ w'.cell? ⟨gb229, 2, none⟩ = some (.slice none 0 0)) ∧ (Kd.R (Kd.int .u8) 5 w' w.heap.size (fun k_ => some k_ ≠ (s_.2 : Value).ownBlock) s_.1 y230) ∧ (Kd.R (Kd.int .u8) 5 w' w.heap.size (fun k_ => some k_ ≠ (s_.1 : Value).ownBlock) s_.2 y236) ∧ (Kd.R k42 42 w' w.heap.size (fun _ => True) (.slice Ao9 x230001_1.length co9) x230001_1) ∧ (w'.heap[gb229]? = some (.cells #[.int .i64 1099511627775, .slice Ao9 x230001_1.length co9, .slice none 0 0] 28 (0, 0))) ∧ (Below w.heap.size w w')) ?_ ?_
              rotate_left
              ·intro hJ10_11_15_16
               refine join_ (σ := Value × Value × Value) 8 fz0_15 (fun s_ => [(27, s_.1), (29, s_.2.1), (30, .string (strOfNums y233)), (32, s_.2.2)]) (fun s_ w' => (w'.cell? ⟨gb229, 0, none⟩ = some (.int .i64 1099511627775) ∧ w'.cell? ⟨gb229, 1, none⟩ = some (.slice Ao9 x230001_1.length co9) ∧ w'.cell? ⟨gb229, 2, none⟩ = some (.slice none 0 0)) ∧ (Kd.R (Kd.int .u8) 5 w' w.heap.size (fun k_ => some k_ ≠ (s_.2.1 : Value).ownBlock ∧ some k_ ≠ (s_.2.2 : Value).ownBlock) s_.1 y230) ∧ (Kd.R (Kd.int .u8) 5 w' w.heap.size (fun k_ => some k_ ≠ (s_.1 : Value).ownBlock ∧ some k_ ≠ (s_.2.2 : Value).ownBlock) s_.2.1 y233) ∧ (Kd.R (Kd.int .u8) 5 w' w.heap.size (fun k_ => some k_ ≠ (s_.1 : Value).ownBlock ∧ some k_ ≠ (s_.2.1 : Value).ownBlock) s_.2.2 y236) ∧ (Kd.R k42 42 w' w.heap.size (fun _ => True) (.slice Ao9 x230001_1.length co9) x230001_1) ∧ (w'.heap[gb229]? = some (.cells #[.int .i64 1099511627775, .slice Ao9 x230001_1.length co9, .slice none 0 0] 28 (0, 0))) ∧ (Below w.heap.size w w')) ?_ ?_
               rotate_left
               ·intro hJ10_12_13_15
                refine join_ (σ := Value × Value × Value) 8 fz0_13 (fun s_ => [(27, s_.1), (29, s_.2.1), (32, s_.2.2), (33, .string (strOfNums y236))]) (fun s_ w' => (w'.cell? ⟨gb229, 0, none⟩ = some (.int .i64 1099511627775) ∧ w'.cell? ⟨gb229, 1, none⟩ = some (.slice Ao9 x230001_1.length co9) ∧ w'.cell? ⟨gb229, 2, none⟩ = some (.slice none 0 0)) ∧ (Kd.R (Kd.int .u8) 5 w' w.heap.size (fun k_ => some k_ ≠ (s_.2.1 : Value).ownBlock ∧ some k_ ≠ (s_.2.2 : Value).ownBlock) s_.1 y230) ∧ (Kd.R (Kd.int .u8) 5 w' w.heap.size (fun k_ => some k_ ≠ (s_.1 : Value).ownBlock ∧ some k_ ≠ (s_.2.2 : Value).ownBlock) s_.2.1 y233) ∧ (Kd.R (Kd.int .u8) 5 w' w.heap.size (fun k_ => some k_ ≠ (s_.1 : Value).ownBlock ∧ some k_ ≠ (s_.2.1 : Value).ownBlock) s_.2.2 y236) ∧ (Kd.R k42 42 w' w.heap.size (fun _ => True) (.slice Ao9 x230001_1.length co9) x230001_1) ∧ (w'.heap[gb229]? = some (.cells #[.int .i64 1099511627775, .slice Ao9 x230001_1.length co9, .slice none 0 0] 28 (0, 0))) ∧ (Below w.heap.size w w')) ?_ ?_
                rotate_left
                ·intro hJ10_12_15_16
                 refine join_ (σ := Value × Value) 8 fz0_7 (fun s_ => [(29, s_.1), (30, .string (strOfNums y233)), (32, s_.2), (33, .string (strOfNums y236))]) (fun s_ w' => (w'.cell? ⟨gb229, 0, none⟩ = some (.int .i64 1099511627775) ∧ w'.cell? ⟨gb229, 1, none⟩ = some (.slice Ao9 x230001_1.length co9) ∧ w'.cell? ⟨gb229, 2, none⟩ = some (.slice none 0 0)) ∧ (Kd.R (Kd.int .u8) 5 w' w.heap.size (fun k_ => some k_ ≠ (s_.2 : Value).ownBlock) s_.1 y233) ∧ (Kd.R (Kd.int .u8) 5 w' w.heap.size (fun k_ => some k_ ≠ (s_.1 : Value).ownBlock) s_.2 y236) ∧ (Kd.R k42 42 w' w.heap.size (fun _ => True) (.slice Ao9 x230001_1.length co9) x230001_1) ∧ (w'.heap[gb229]? = some (.cells #[.int .i64 1099511627775, .slice Ao9 x230001_1.length co9, .slice none 0 0] 28 (0, 0))) ∧ (Below w.heap.size w w')) ?_ ?_
                 rotate_left
                 ·intro hJ12_13_15_16
                  refine join_ (σ := Value × Value) 9 fz0_20 (fun s_ => [(27, s_.1), (28, .string (strOfNums y230)), (29, s_.2)]) (fun s_ w' => (w'.cell? ⟨gb229, 0, none⟩ = some (.int .i64 1099511627775) ∧ w'.cell? ⟨gb229, 1, none⟩ = some (.slice Ao9 x230001_1.length co9) ∧ w'.cell? ⟨gb229, 2, none⟩ = some (.slice none 0 0)) ∧ (Kd.R (Kd.int .u8) 5 w' w.heap.size (fun k_ => some k_ ≠ (s_.2 : Value).ownBlock) s_.1 y230) ∧ (Kd.R (Kd.int .u8) 5 w' w.heap.size (fun k_ => some k_ ≠ (s_.1 : Value).ownBlock) s_.2 y233) ∧ (Kd.R k42 42 w' w.heap.size (fun _ => True) (.slice Ao9 x230001_1.length co9) x230001_1) ∧ (w'.heap[gb229]? = some (.cells #[.int .i64 1099511627775, .slice Ao9 x230001_1.length co9, .slice none 0 0] 28 (0, 0))) ∧ (Below w.heap.size w w')) ?_ ?_
                  rotate_left
                  ·intro hJ10_11_12
                   refine join_ (σ := Value × Value) 9 fz0_18 (fun s_ => [(27, s_.1), (28, .string (strOfNums y230)), (32, s_.2)]) (fun s_ w' => (w'.cell? ⟨gb229, 0, none⟩ = some (.int .i64 1099511627775) ∧ w'.cell? ⟨gb229, 1, none⟩ = some (.slice Ao9 x230001_1.length co9) ∧ w'.cell? ⟨gb229, 2, none⟩ = some (.slice none 0 0)) ∧ (Kd.R (Kd.int .u8) 5 w' w.heap.size (fun k_ => some k_ ≠ (s_.2 : Value).ownBlock) s_.1 y230) ∧ (Kd.R (Kd.int .u8) 5 w' w.heap.size (fun k_ => some k_ ≠ (s_.1 : Value).ownBlock) s_.2 y236) ∧ (Kd.R k42 42 w' w.heap.size (fun _ => True) (.slice Ao9 x230001_1.length co9) x230001_1) ∧ (w'.heap[gb229]? = some (.cells #[.int .i64 1099511627775, .slice Ao9 x230001_1.length co9, .slice none 0 0] 28 (0, 0))) ∧ (Below w.heap.size w w')) ?_ ?_
                   rotate_left
                   ·intro hJ10_11_15
                    refine join_ (σ := Value × Value) 9 fz0_14 (fun s_ => [(27, s_.1), (29, s_.2), (30, .string (strOfNums y233))]) (fun s_ w' => (w'.cell? ⟨gb229, 0, none⟩ = some (.int .i64 1099511627775) ∧ w'.cell? ⟨gb229, 1, none⟩ = some (.slice Ao9 x230001_1.length co9) ∧ w'.cell? ⟨gb229, 2, none⟩ = some (.slice none 0 0)) ∧ (Kd.R (Kd.int .u8) 5 w' w.heap.size (fun k_ => some k_ ≠ (s_.2 : Value).ownBlock) s_.1 y230) ∧ (Kd.R (Kd.int .u8) 5 w' w.heap.size (fun k_ => some k_ ≠ (s_.1 : Value).ownBlock) s_.2 y233) ∧ (Kd.R k42 42 w' w.heap.size (fun _ => True) (.slice Ao9 x230001_1.length co9) x230001_1) ∧ (w'.heap[gb229]? = some (.cells #[.int .i64 1099511627775, .slice Ao9 x230001_1.length co9, .slice none 0 0] 28 (0, 0))) ∧ (Below w.heap.size w w')) ?_ ?_
                    rotate_left
                    ·intro hJ10_12_13
                     refine join_ (σ := Value × Value × Value) 9 fz0_12 (fun s_ => [(27, s_.1), (29, s_.2.1), (32, s_.2.2)]) (fun s_ w' => (w'.cell? ⟨gb229, 0, none⟩ = some (.int .i64 1099511627775) ∧ w'.cell? ⟨gb229, 1, none⟩ = some (.slice Ao9 x230001_1.length co9) ∧ w'.cell? ⟨gb229, 2, none⟩ = some (.slice none 0 0)) ∧ (Kd.R (Kd.int .u8) 5 w' w.heap.size (fun k_ => some k_ ≠ (s_.2.1 : Value).ownBlock ∧ some k_ ≠ (s_.2.2 : Value).ownBlock) s_.1 y230) ∧ (Kd.R (Kd.int .u8) 5 w' w.heap.size (fun k_ => some k_ ≠ (s_.1 : Value).ownBlock ∧ some k_ ≠ (s_.2.2 : Value).ownBlock) s_.2.1 y233) ∧ (Kd.R (Kd.int .u8) 5 w' w.heap.size (fun k_ => some k_ ≠ (s_.1 : Value).ownBlock ∧ some k_ ≠ (s_.2.1 : Value).ownBlock) s_.2.2 y236) ∧ (Kd.R k42 42 w' w.heap.size (fun _ => True) (.slice Ao9 x230001_1.length co9) x230001_1) ∧ (w'.heap[gb229]? = some (.cells #[.int .i64 1099511627775, .slice Ao9 x230001_1.length co9, .slice none 0 0] 28 (0, 0))) ∧ (Below w.heap.size w w')) ?_ ?_
                     rotate_left
                     ·intro hJ10_12_15
                      refine join_ (σ := Value × Value) 9 fz0_10 (fun s_ => [(27, s_.1), (32, s_.2), (33, .string (strOfNums y236))]) (fun s_ w' => (w'.cell? ⟨gb229, 0, none⟩ = some (.int .i64 1099511627775) ∧ w'.cell? ⟨gb229, 1, none⟩ = some (.slice Ao9 x230001_1.length co9) ∧ w'.cell? ⟨gb229, 2, none⟩ = some (.slice none 0 0)) ∧ (Kd.R (Kd.int .u8) 5 w' w.heap.size (fun k_ => some k_ ≠ (s_.2 : Value).ownBlock) s_.1 y230) ∧ (Kd.R (Kd.int .u8) 5 w' w.heap.size (fun k_ => some k_ ≠ (s_.1 : Value).ownBlock) s_.2 y236) ∧ (Kd.R k42 42 w' w.heap.size (fun _ => True) (.slice Ao9 x230001_1.length co9) x230001_1) ∧ (w'.heap[gb229]? = some (.cells #[.int .i64 1099511627775, .slice Ao9 x230001_1.length co9, .slice none 0 0] 28 (0, 0))) ∧ (Below w.heap.size w w')) ?_ ?_
                      rotate_left
                      ·intro hJ10_15_16
                       refine join_ (σ := Value × Value) 9 fz0_6 (fun s_ => [(29, s_.1), (30, .string (strOfNums y233)), (32, s_.2)]) (fun s_ w' => (w'.cell? ⟨gb229, 0, none⟩ = some (.int .i64 1099511627775) ∧ w'.cell? ⟨gb229, 1, none⟩ = some (.slice Ao9 x230001_1.length co9) ∧ w'.cell? ⟨gb229, 2, none⟩ = some (.slice none 0 0)) ∧ (Kd.R (Kd.int .u8) 5 w' w.heap.size (fun k_ => some k_ ≠ (s_.2 : Value).ownBlock) s_.1 y233) ∧ (Kd.R (Kd.int .u8) 5 w' w.heap.size (fun k_ => some k_ ≠ (s_.1 : Value).ownBlock) s_.2 y236) ∧ (Kd.R k42 42 w' w.heap.size (fun _ => True) (.slice Ao9 x230001_1.length co9) x230001_1) ∧ (w'.heap[gb229]? = some (.cells #[.int .i64 1099511627775, .slice Ao9 x230001_1.length co9, .slice none 0 0] 28 (0, 0))) ∧ (Below w.heap.size w w')) ?_ ?_
                       rotate_left
                       ·intro hJ12_13_15
                        refine join_ (σ := Value × Value) 9 fz0_4 (fun s_ => [(29, s_.1), (32, s_.2), (33, .string (strOfNums y236))]) (fun s_ w' => (w'.cell? ⟨gb229, 0, none⟩ = some (.int .i64 1099511627775) ∧ w'.cell? ⟨gb229, 1, none⟩ = some (.slice Ao9 x230001_1.length co9) ∧ w'.cell? ⟨gb229, 2, none⟩ = some (.slice none 0 0)) ∧ (Kd.R (Kd.int .u8) 5 w' w.heap.size (fun k_ => some k_ ≠ (s_.2 : Value).ownBlock) s_.1 y233) ∧ (Kd.R (Kd.int .u8) 5 w' w.heap.size (fun k_ => some k_ ≠ (s_.1 : Value).ownBlock) s_.2 y236) ∧ (Kd.R k42 42 w' w.heap.size (fun _ => True) (.slice Ao9 x230001_1.length co9) x230001_1) ∧ (w'.heap[gb229]? = some (.cells #[.int .i64 1099511627775, .slice Ao9 x230001_1.length co9, .slice none 0 0] 28 (0, 0))) ∧ (Below w.heap.size w w')) ?_ ?_
                        rotate_left
                        ·intro hJ12_15_16
                         refine join_ (σ := Value) 10 fz0_17 (fun s_ => [(27, s_), (28, .string (strOfNums y230))]) (fun s_ w' => (w'.cell? ⟨gb229, 0, none⟩ = some (.int .i64 1099511627775) ∧ w'.cell? ⟨gb229, 1, none⟩ = some (.slice Ao9 x230001_1.length co9) ∧ w'.cell? ⟨gb229, 2, none⟩ = some (.slice none 0 0)) ∧ (Kd.R (Kd.int .u8) 5 w' w.heap.size (fun _ => True) s_ y230) ∧ (Kd.R k42 42 w' w.heap.size (fun _ => True) (.slice Ao9 x230001_1.length co9) x230001_1) ∧ (w'.heap[gb229]? = some (.cells #[.int .i64 1099511627775, .slice Ao9 x230001_1.length co9, .slice none 0 0] 28 (0, 0))) ∧ (Below w.heap.size w w')) ?_ ?_
                         rotate_left
                         ·intro hJ10_11
                          refine join_ (σ := Value × Value) 10 fz0_11 (fun s_ => [(27, s_.1), (29, s_.2)]) (fun s_ w' => (w'.cell? ⟨gb229, 0, none⟩ = some (.int .i64 1099511627775) ∧ w'.cell? ⟨gb229, 1, none⟩ = some (.slice Ao9 x230001_1.length co9) ∧ w'.cell? ⟨gb229, 2, none⟩ = some (.slice none 0 0)) ∧ (Kd.R (Kd.int .u8) 5 w' w.heap.size (fun k_ => some k_ ≠ (s_.2 : Value).ownBlock) s_.1 y230) ∧ (Kd.R (Kd.int .u8) 5 w' w.heap.size (fun k_ => some k_ ≠ (s_.1 : Value).ownBlock) s_.2 y233) ∧ (Kd.R k42 42 w' w.heap.size (fun _ => True) (.slice Ao9 x230001_1.length co9) x230001_1) ∧ (w'.heap[gb229]? = some (.cells #[.int .i64 1099511627775, .slice Ao9 x230001_1.length co9, .slice none 0 0] 28 (0, 0))) ∧ (Below w.heap.size w w')) ?_ ?_
                          rotate_left
                          ·intro hJ10_12
                           refine join_ (σ := Value × Value) 10 fz0_9 (fun s_ => [(27, s_.1), (32, s_.2)]) (fun s_ w' => (w'.cell? ⟨gb229, 0, none⟩ = some (.int .i64 1099511627775) ∧ w'.cell? ⟨gb229, 1, none⟩ = some (.slice Ao9 x230001_1.length co9) ∧ w'.cell? ⟨gb229, 2, none⟩ = some (.slice none 0 0)) ∧ (Kd.R (Kd.int .u8) 5 w' w.heap.size (fun k_ => some k_ ≠ (s_.2 : Value).ownBlock) s_.1 y230) ∧ (Kd.R (Kd.int .u8) 5 w' w.heap.size (fun k_ => some k_ ≠ (s_.1 : Value).ownBlock) s_.2 y236) ∧ (Kd.R k42 42 w' w.heap.size (fun _ => True) (.slice Ao9 x230001_1.length co9) x230001_1) ∧ (w'.heap[gb229]? = some (.cells #[.int .i64 1099511627775, .slice Ao9 x230001_1.length co9, .slice none 0 0] 28 (0, 0))) ∧ (Below w.heap.size w w')) ?_ ?_
                           rotate_left
                           ·intro hJ10_15
                            refine join_ (σ := Value) 10 fz0_5 (fun s_ => [(29, s_), (30, .string (strOfNums y233))]) (fun s_ w' => (w'.cell? ⟨gb229, 0, none⟩ = some (.int .i64 1099511627775) ∧ w'.cell? ⟨gb229, 1, none⟩ = some (.slice Ao9 x230001_1.length co9) ∧ w'.cell? ⟨gb229, 2, none⟩ = some (.slice none 0 0)) ∧ (Kd.R (Kd.int .u8) 5 w' w.heap.size (fun _ => True) s_ y233) ∧ (Kd.R k42 42 w' w.heap.size (fun _ => True) (.slice Ao9 x230001_1.length co9) x230001_1) ∧ (w'.heap[gb229]? = some (.cells #[.int .i64 1099511627775, .slice Ao9 x230001_1.length co9, .slice none 0 0] 28 (0, 0))) ∧ (Below w.heap.size w w')) ?_ ?_
                            rotate_left
                            ·intro hJ12_13
                             refine join_ (σ := Value × Value) 10 fz0_3 (fun s_ => [(29, s_.1), (32, s_.2)]) (fun s_ w' => (w'.cell? ⟨gb229, 0, none⟩ = some (.int .i64 1099511627775) ∧ w'.cell? ⟨gb229, 1, none⟩ = some (.slice Ao9 x230001_1.length co9) ∧ w'.cell? ⟨gb229, 2, none⟩ = some (.slice none 0 0)) ∧ (Kd.R (Kd.int .u8) 5 w' w.heap.size (fun k_ => some k_ ≠ (s_.2 : Value).ownBlock) s_.1 y233) ∧ (Kd.R (Kd.int .u8) 5 w' w.heap.size (fun k_ => some k_ ≠ (s_.1 : Value).ownBlock) s_.2 y236) ∧ (Kd.R k42 42 w' w.heap.size (fun _ => True) (.slice Ao9 x230001_1.length co9) x230001_1) ∧ (w'.heap[gb229]? = some (.cells #[.int .i64 1099511627775, .slice Ao9 x230001_1.length co9, .slice none 0 0] 28 (0, 0))) ∧ (Below w.heap.size w w')) ?_ ?_
                             rotate_left
                             ·intro hJ12_15
                              refine join_ (σ := Value) 10 fz0_1 (fun s_ => [(32, s_), (33, .string (strOfNums y236))]) (fun s_ w' => (w'.cell? ⟨gb229, 0, none⟩ = some (.int .i64 1099511627775) ∧ w'.cell? ⟨gb229, 1, none⟩ = some (.slice Ao9 x230001_1.length co9) ∧ w'.cell? ⟨gb229, 2, none⟩ = some (.slice none 0 0)) ∧ (Kd.R (Kd.int .u8) 5 w' w.heap.size (fun _ => True) s_ y236) ∧ (Kd.R k42 42 w' w.heap.size (fun _ => True) (.slice Ao9 x230001_1.length co9) x230001_1) ∧ (w'.heap[gb229]? = some (.cells #[.int .i64 1099511627775, .slice Ao9 x230001_1.length co9, .slice none 0 0] 28 (0, 0))) ∧ (Below w.heap.size w w')) ?_ ?_
                              rotate_left
                              ·intro hJ15_16
                               refine join_ (σ := Value) 11 fz0_8 (fun s_ => [(27, s_)]) (fun s_ w' => (w'.cell? ⟨gb229, 0, none⟩ = some (.int .i64 1099511627775) ∧ w'.cell? ⟨gb229, 1, none⟩ = some (.slice Ao9 x230001_1.length co9) ∧ w'.cell? ⟨gb229, 2, none⟩ = some (.slice none 0 0)) ∧ (Kd.R (Kd.int .u8) 5 w' w.heap.size (fun _ => True) s_ y230) ∧ (Kd.R k42 42 w' w.heap.size (fun _ => True) (.slice Ao9 x230001_1.length co9) x230001_1) ∧ (w'.heap[gb229]? = some (.cells #[.int .i64 1099511627775, .slice Ao9 x230001_1.length co9, .slice none 0 0] 28 (0, 0))) ∧ (Below w.heap.size w w')) ?_ ?_
                               rotate_left
                               ·intro hJ10
                                refine join_ (σ := Value) 11 fz0_2 (fun s_ => [(29, s_)]) (fun s_ w' => (w'.cell? ⟨gb229, 0, none⟩ = some (.int .i64 1099511627775) ∧ w'.cell? ⟨gb229, 1, none⟩ = some (.slice Ao9 x230001_1.length co9) ∧ w'.cell? ⟨gb229, 2, none⟩ = some (.slice none 0 0)) ∧ (Kd.R (Kd.int .u8) 5 w' w.heap.size (fun _ => True) s_ y233) ∧ (Kd.R k42 42 w' w.heap.size (fun _ => True) (.slice Ao9 x230001_1.length co9) x230001_1) ∧ (w'.heap[gb229]? = some (.cells #[.int .i64 1099511627775, .slice Ao9 x230001_1.length co9, .slice none 0 0] 28 (0, 0))) ∧ (Below w.heap.size w w')) ?_ ?_
                                rotate_left
                                ·intro hJ12
                                 refine join_ (σ := Value) 11 fz0_0 (fun s_ => [(32, s_)]) (fun s_ w' => (w'.cell? ⟨gb229, 0, none⟩ = some (.int .i64 1099511627775) ∧ w'.cell? ⟨gb229, 1, none⟩ = some (.slice Ao9 x230001_1.length co9) ∧ w'.cell? ⟨gb229, 2, none⟩ = some (.slice none 0 0)) ∧ (Kd.R (Kd.int .u8) 5 w' w.heap.size (fun _ => True) s_ y236) ∧ (Kd.R k42 42 w' w.heap.size (fun _ => True) (.slice Ao9 x230001_1.length co9) x230001_1) ∧ (w'.heap[gb229]? = some (.cells #[.int .i64 1099511627775, .slice Ao9 x230001_1.length co9, .slice none 0 0] 28 (0, 0))) ∧ (Below w.heap.size w w')) ?_ ?_
                                 rotate_left
                                 ·intro hJ15
                                  refine three_ (i := 10) (j := 12) (k := 15) (Ni := some 27) (Nj := some 29) (Nk := some 32) fz0_8 fz0_2 fz0_0 rfl rfl rfl rfl rfl rfl (three_of HT_.out (by kernel_rfl)) (by decide) (by decide) (by decide) (fun K hK => ?_) (fun K hK => ?_) (fun K hK => ?_)
                                  ·skip
                                   refine R_lit_step (Kd.int .u8) _ 5 ?hg (N := 27) ?hd (xs := ([(wrap64 (97 + (wrap64 (Int.tdiv x4_1 26)))) % 256, (wrap64 (97 + (Int.tmod x4_1 26))) % 256] : List Int)) (inner := [.int .u8 ((wrap64 (97 + (wrap64 (Int.tdiv x4_1 26)))) % 256), .int .u8 ((wrap64 (97 + (Int.tmod x4_1 26))) % 256)]) (ok := fun _ => True) (okp := fun _ => True) ?hr ?hp (fun _ hk => hk) trivial (Below.refl _ _) (Nat.le_refl _) (by simp) ?_; (case hd => rfl); (case hg => rfl); (case hr => first | (go_simp; done) | (go_simp; rfl)); (case hp => exact (Reps.one (show Kd.M (Kd.int .u8) _ _ _ ((wrap64 (97 + (wrap64 (Int.tdiv x4_1 26)))) % 256) [.int .u8 ((wrap64 (97 + (wrap64 (Int.tdiv x4_1 26)))) % 256)] from rfl) (Reps.one (show Kd.M (Kd.int .u8) _ _ _ ((wrap64 (97 + (Int.tmod x4_1 26))) % 256) [.int .u8 ((wrap64 (97 + (Int.tmod x4_1 26))) % 256)] from rfl) (Reps.none _ _))))
                                   intro v231 w11 ho12 hb hg_ hnew_
                                   clear hg_ hnew_
                                   (first | rw [← Ny230.out] at ho12 | (simp only [Int.reduceToNat] at ho12; rw [← Ny230.out] at ho12))
                                   have n0_ := Aside0.mk (R_below (by (with_reducible repeat (first | apply R_alloc | apply R_drewN | apply R_drew)); exact HO_230001.out) hb)
                                   have n1_ := Aside0.mk (R_lower ho12 (below_size (by repeat (first | exact HB.out | apply below_alloc | apply pw_below_drewN | apply below_drew1 | refine below_set ?_ GE229.out))))
                                   have n2_ := Aside0.mk (blk_below (g := gb229) (o := .cells #[.int .i64 1099511627775, .slice Ao9 x230001_1.length co9, .slice none 0 0] 28 (0, 0)) (by (with_reducible repeat (first | refine blk_drewN ?_ _ | refine blk_drew ?_ | refine blk_alloc ?_ _)); exact BK229.out) hb)
                                   have n3_ := Aside0.mk (below_step (by repeat (first | exact HB.out | apply below_alloc | apply pw_below_drewN | apply below_drew1 | refine below_set ?_ GE229.out)) hb)
                                   clear HO_230001
                                   clear BK229
                                   clear HB
                                   have HO_230001 := n0_
                                   have HO232 := n1_
                                   have BK229 := n2_
                                   have HB := n3_
                                   clear n0_ n1_ n2_ n3_
                                   clear hb ho12
                                   refine hK.out _ _ ⟨(blk_cell BK229.out 0).trans rfl, (blk_cell BK229.out 1).trans rfl, (blk_cell BK229.out 2).trans rfl⟩ (fun hHeld => ?_)
                                   clear hK K
                                   refine norm_ (a' := ?_) ?_ ?_
                                   rotate_left
                                   ·show Act.put _ (some 27) _ = _
                                    simp only [Act.put, sA, sB, sC, i64_w, i32_w]
                                    rfl
                                   exact norm_ (by simp only [putAll, Act.put, sA, sB, sC] <;> rfl) (hJ10 (v231) _ ⟨hHeld, HO232.out, HO_230001.out, BK229.out, HB.out⟩)
                                  ·skip
                                   refine R_make_step (Kd.int .u8) _ 5 (by rfl) (N := 29) rfl 23 _ _ rfl 62 rfl rfl Try.underlying23 (.int .u8 0) 1 info5 rfl (by decide) (by omega) 0 (ok := fun _ => True) (okp := fun _ => True) rfl (fun _ hk => hk) trivial (by omega) (by omega) (Below.refl _ _) (Nat.le_refl _) ?_
                                   intro v234 w11 ho12 hb hg_ hnew_
                                   clear hg_ hnew_
                                   (first | rw [← Ny233.out] at ho12 | (simp only [Int.reduceToNat] at ho12; rw [← Ny233.out] at ho12))
                                   have n0_ := Aside0.mk (R_below (by (with_reducible repeat (first | apply R_alloc | apply R_drewN | apply R_drew)); exact HO_230001.out) hb)
                                   have n1_ := Aside0.mk (R_lower ho12 (below_size (by repeat (first | exact HB.out | apply below_alloc | apply pw_below_drewN | apply below_drew1 | refine below_set ?_ GE229.out))))
                                   have n2_ := Aside0.mk (blk_below (g := gb229) (o := .cells #[.int .i64 1099511627775, .slice Ao9 x230001_1.length co9, .slice none 0 0] 28 (0, 0)) (by (with_reducible repeat (first | refine blk_drewN ?_ _ | refine blk_drew ?_ | refine blk_alloc ?_ _)); exact BK229.out) hb)
                                   have n3_ := Aside0.mk (below_step (by repeat (first | exact HB.out | apply below_alloc | apply pw_below_drewN | apply below_drew1 | refine below_set ?_ GE229.out)) hb)
                                   clear HO_230001
                                   clear BK229
                                   clear HB
                                   have HO_230001 := n0_
                                   have HO235 := n1_
                                   have BK229 := n2_
                                   have HB := n3_
                                   clear n0_ n1_ n2_ n3_
                                   clear hb ho12
                                   refine hK.out _ _ ⟨(blk_cell BK229.out 0).trans rfl, (blk_cell BK229.out 1).trans rfl, (blk_cell BK229.out 2).trans rfl⟩ (fun hHeld => ?_)
                                   clear hK K
                                   refine norm_ (a' := ?_) ?_ ?_
                                   rotate_left
                                   ·show Act.put _ (some 29) _ = _
                                    simp only [Act.put, sA, sB, sC, i64_w, i32_w]
                                    rfl
                                   exact norm_ (by simp only [putAll, Act.put, sA, sB, sC] <;> rfl) (hJ12 (v234) _ ⟨hHeld, HO235.out, HO_230001.out, BK229.out, HB.out⟩)
                                  ·skip
                                   refine R_make_step (Kd.int .u8) _ 5 (by rfl) (N := 32) rfl 23 _ _ rfl 256 rfl rfl Try.underlying23 (.int .u8 0) 1 info5 rfl (by decide) (by omega) 0 (ok := fun _ => True) (okp := fun _ => True) rfl (fun _ hk => hk) trivial (by omega) (by omega) (Below.refl _ _) (Nat.le_refl _) ?_
                                   intro v237 w11 ho12 hb hg_ hnew_
                                   clear hg_ hnew_
                                   (first | rw [← Ny236.out] at ho12 | (simp only [Int.reduceToNat] at ho12; rw [← Ny236.out] at ho12))
                                   have n0_ := Aside0.mk (R_below (by (with_reducible repeat (first | apply R_alloc | apply R_drewN | apply R_drew)); exact HO_230001.out) hb)
                                   have n1_ := Aside0.mk (R_lower ho12 (below_size (by repeat (first | exact HB.out | apply below_alloc | apply pw_below_drewN | apply below_drew1 | refine below_set ?_ GE229.out))))
                                   have n2_ := Aside0.mk (blk_below (g := gb229) (o := .cells #[.int .i64 1099511627775, .slice Ao9 x230001_1.length co9, .slice none 0 0] 28 (0, 0)) (by (with_reducible repeat (first | refine blk_drewN ?_ _ | refine blk_drew ?_ | refine blk_alloc ?_ _)); exact BK229.out) hb)
                                   have n3_ := Aside0.mk (below_step (by repeat (first | exact HB.out | apply below_alloc | apply pw_below_drewN | apply below_drew1 | refine below_set ?_ GE229.out)) hb)
                                   clear HO_230001
                                   clear BK229
                                   clear HB
                                   have HO_230001 := n0_
                                   have HO238 := n1_
                                   have BK229 := n2_
                                   have HB := n3_
                                   clear n0_ n1_ n2_ n3_
                                   clear hb ho12
                                   refine hK.out _ _ ⟨(blk_cell BK229.out 0).trans rfl, (blk_cell BK229.out 1).trans rfl, (blk_cell BK229.out 2).trans rfl⟩ (fun hHeld => ?_)
                                   clear hK K
                                   refine norm_ (a' := ?_) ?_ ?_
                                   rotate_left
                                   ·show Act.put _ (some 32) _ = _
                                    simp only [Act.put, sA, sB, sC, i64_w, i32_w]
                                    rfl
                                   exact norm_ (by simp only [putAll, Act.put, sA, sB, sC] <;> rfl) (hJ15 (v237) _ ⟨hHeld, HO238.out, HO_230001.out, BK229.out, HB.out⟩)
                                 ·skip
                                  rintro v237 w13 ⟨hS_, h0_, h1_, h2_, h3_⟩
                                  have n0_ : Aside0 (Kd.R (Kd.int .u8) 5 w13 w.heap.size (fun _ => True) v237 y236) := ⟨h0_⟩
                                  have n1_ : Aside0 (Kd.R k42 42 w13 w.heap.size (fun _ => True) (.slice Ao9 x230001_1.length co9) x230001_1) := ⟨h1_⟩
                                  have n2_ : Aside0 (w13.heap[gb229]? = some (.cells #[.int .i64 1099511627775, .slice Ao9 x230001_1.length co9, .slice none 0 0] 28 (0, 0))) := ⟨h2_⟩
                                  have n3_ : Aside0 (Below w.heap.size w w13) := ⟨h3_⟩
                                  clear HO_230001
                                  clear BK229
                                  clear HB
                                  clear h0_ h1_ h2_ h3_
                                  have HO238 := n0_
                                  have HO_230001 := n1_
                                  have BK229 := n2_
                                  have HB := n3_
                                  clear n0_ n1_ n2_ n3_
                                  have hHeld : w13.cell? ⟨gb229, 0, none⟩ = some (.int .i64 1099511627775) ∧ w13.cell? ⟨gb229, 1, none⟩ = some (.slice Ao9 x230001_1.length co9) ∧ w13.cell? ⟨gb229, 2, none⟩ = some (.slice none 0 0) := hS_
                                  refine norm_ (a' := ?_) ?_ ?_
                                  rotate_left
                                  ·simp only [putAll, Act.put, sA, sB, sC]
                                   rfl
                                  refine three_ (i := 10) (j := 12) (k := 16) (Ni := some 27) (Nj := some 29) (Nk := some 33) fz0_9 fz0_3 fz0_1 rfl rfl rfl rfl rfl rfl (three_of HT_.out (by kernel_rfl)) (by decide) (by decide) (by decide) (fun K hK => ?_) (fun K hK => ?_) (fun K hK => ?_)
                                  ·skip
                                   refine R_lit_step (Kd.int .u8) _ 5 ?hg (N := 27) ?hd (xs := ([(wrap64 (97 + (wrap64 (Int.tdiv x4_1 26)))) % 256, (wrap64 (97 + (Int.tmod x4_1 26))) % 256] : List Int)) (inner := [.int .u8 ((wrap64 (97 + (wrap64 (Int.tdiv x4_1 26)))) % 256), .int .u8 ((wrap64 (97 + (Int.tmod x4_1 26))) % 256)]) (ok := fun _ => True) (okp := fun _ => True) ?hr ?hp (fun _ hk => hk) trivial (Below.refl _ _) (Nat.le_refl _) (by simp) ?_; (case hd => rfl); (case hg => rfl); (case hr => first | (go_simp; done) | (go_simp; rfl)); (case hp => exact (Reps.one (show Kd.M (Kd.int .u8) _ _ _ ((wrap64 (97 + (wrap64 (Int.tdiv x4_1 26)))) % 256) [.int .u8 ((wrap64 (97 + (wrap64 (Int.tdiv x4_1 26)))) % 256)] from rfl) (Reps.one (show Kd.M (Kd.int .u8) _ _ _ ((wrap64 (97 + (Int.tmod x4_1 26))) % 256) [.int .u8 ((wrap64 (97 + (Int.tmod x4_1 26))) % 256)] from rfl) (Reps.none _ _))))
                                   intro v231 w14 ho15 hb hg_ hnew_
                                   clear hg_ hnew_
                                   (first | rw [← Ny230.out] at ho15 | (simp only [Int.reduceToNat] at ho15; rw [← Ny230.out] at ho15))
                                   have n0_ := Aside0.mk (R_below (by (with_reducible repeat (first | apply R_alloc | apply R_drewN | apply R_drew)); exact HO_230001.out) hb)
                                   have n1_ := Aside0.mk (R_elder' (by (with_reducible repeat (first | apply R_alloc | apply R_drewN | apply R_drew)); exact HO238.out) (R_base ho15) hb)
                                   have n2_ := Aside0.mk (R_lower (R_new' ho15 (R_lt (by (with_reducible repeat (first | apply R_alloc | apply R_drewN | apply R_drew)); exact HO238.out))) (below_size (by repeat (first | exact HB.out | apply below_alloc | apply pw_below_drewN | apply below_drew1 | refine below_set ?_ GE229.out))))
                                   have n3_ := Aside0.mk (blk_below (g := gb229) (o := .cells #[.int .i64 1099511627775, .slice Ao9 x230001_1.length co9, .slice none 0 0] 28 (0, 0)) (by (with_reducible repeat (first | refine blk_drewN ?_ _ | refine blk_drew ?_ | refine blk_alloc ?_ _)); exact BK229.out) hb)
                                   have n4_ := Aside0.mk (below_step (by repeat (first | exact HB.out | apply below_alloc | apply pw_below_drewN | apply below_drew1 | refine below_set ?_ GE229.out)) hb)
                                   clear HO_230001
                                   clear HO238
                                   clear BK229
                                   clear HB
                                   have HO_230001 := n0_
                                   have HO238 := n1_
                                   have HO232 := n2_
                                   have BK229 := n3_
                                   have HB := n4_
                                   clear n0_ n1_ n2_ n3_ n4_
                                   clear hb ho15
                                   refine hK.out _ _ ⟨(blk_cell BK229.out 0).trans rfl, (blk_cell BK229.out 1).trans rfl, (blk_cell BK229.out 2).trans rfl⟩ (fun hHeld => ?_)
                                   clear hK K
                                   refine norm_ (a' := ?_) ?_ ?_
                                   rotate_left
                                   ·show Act.put _ (some 27) _ = _
                                    simp only [Act.put, sA, sB, sC, i64_w, i32_w]
                                    rfl
                                   exact norm_ (by simp only [putAll, Act.put, sA, sB, sC] <;> rfl) (hJ10_15 (v231, v237) _ ⟨hHeld, (by (with_reducible repeat (first | apply R_alloc | apply R_drewN | apply R_drew)); exact R_mono HO232.out (fun _ hk => hk.2)), (by (with_reducible repeat (first | apply R_alloc | apply R_drewN | apply R_drew)); exact R_mono HO238.out (fun _ hk => hk.2)), HO_230001.out, BK229.out, HB.out⟩)
                                  ·skip
                                   refine R_make_step (Kd.int .u8) _ 5 (by rfl) (N := 29) rfl 23 _ _ rfl 62 rfl rfl Try.underlying23 (.int .u8 0) 1 info5 rfl (by decide) (by omega) 0 (ok := fun _ => True) (okp := fun _ => True) rfl (fun _ hk => hk) trivial (by omega) (by omega) (Below.refl _ _) (Nat.le_refl _) ?_
                                   intro v234 w14 ho15 hb hg_ hnew_
                                   clear hg_ hnew_
                                   (first | rw [← Ny233.out] at ho15 | (simp only [Int.reduceToNat] at ho15; rw [← Ny233.out] at ho15))
                                   have n0_ := Aside0.mk (R_below (by (with_reducible repeat (first | apply R_alloc | apply R_drewN | apply R_drew)); exact HO_230001.out) hb)
                                   have n1_ := Aside0.mk (R_elder' (by (with_reducible repeat (first | apply R_alloc | apply R_drewN | apply R_drew)); exact HO238.out) (R_base ho15) hb)
                                   have n2_ := Aside0.mk (R_lower (R_new' ho15 (R_lt (by (with_reducible repeat (first | apply R_alloc | apply R_drewN | apply R_drew)); exact HO238.out))) (below_size (by repeat (first | exact HB.out | apply below_alloc | apply pw_below_drewN | apply below_drew1 | refine below_set ?_ GE229.out))))
                                   have n3_ := Aside0.mk (blk_below (g := gb229) (o := .cells #[.int .i64 1099511627775, .slice Ao9 x230001_1.length co9, .slice none 0 0] 28 (0, 0)) (by (with_reducible repeat (first | refine blk_drewN ?_ _ | refine blk_drew ?_ | refine blk_alloc ?_ _)); exact BK229.out) hb)
                                   have n4_ := Aside0.mk (below_step (by repeat (first | exact HB.out | apply below_alloc | apply pw_below_drewN | apply below_drew1 | refine below_set ?_ GE229.out)) hb)
                                   clear HO_230001
                                   clear HO238
                                   clear BK229
                                   clear HB
                                   have HO_230001 := n0_
                                   have HO238 := n1_
                                   have HO235 := n2_
                                   have BK229 := n3_
                                   have HB := n4_
                                   clear n0_ n1_ n2_ n3_ n4_
                                   clear hb ho15
                                   refine hK.out _ _ ⟨(blk_cell BK229.out 0).trans rfl, (blk_cell BK229.out 1).trans rfl, (blk_cell BK229.out 2).trans rfl⟩ (fun hHeld => ?_)
                                   clear hK K
                                   refine norm_ (a' := ?_) ?_ ?_
                                   rotate_left
                                   ·show Act.put _ (some 29) _ = _
                                    simp only [Act.put, sA, sB, sC, i64_w, i32_w]
                                    rfl
                                   exact norm_ (by simp only [putAll, Act.put, sA, sB, sC] <;> rfl) (hJ12_15 (v234, v237) _ ⟨hHeld, (by (with_reducible repeat (first | apply R_alloc | apply R_drewN | apply R_drew)); exact R_mono HO235.out (fun _ hk => hk.2)), (by (with_reducible repeat (first | apply R_alloc | apply R_drewN | apply R_drew)); exact R_mono HO238.out (fun _ hk => hk.2)), HO_230001.out, BK229.out, HB.out⟩)
                                  ·skip
                                   have hcv14 := own_string (P := Try.prog) Try.underlying23 Try.underlying5 Try.underlying9 (Kd.own_of_R HO238.out)
                                   refine value_ (w1 := ?_) (v := ?_) (by rfl) rfl ?_ ?_
                                   rotate_left 2
                                   ·go_simp
                                    constructor
                                    ·rfl
                                    ·rfl
                                   clear hcv14
                                   refine hK.out _ _ ⟨(blk_cell BK229.out 0).trans rfl, (blk_cell BK229.out 1).trans rfl, (blk_cell BK229.out 2).trans rfl⟩ (fun hHeld => ?_)
                                   clear hK K
                                   refine norm_ (a' := ?_) ?_ ?_
                                   rotate_left
                                   ·show Act.put _ (some 33) _ = _
                                    simp only [Act.put, sA, sB, sC, i64_w, i32_w]
                                    rfl
                                   exact norm_ (by simp only [putAll, Act.put, sA, sB, sC] <;> rfl) (hJ15_16 (v237) _ ⟨hHeld, HO238.out, HO_230001.out, BK229.out, HB.out⟩)
                                ·skip
                                 rintro v234 w13 ⟨hS_, h0_, h1_, h2_, h3_⟩
                                 have n0_ : Aside0 (Kd.R (Kd.int .u8) 5 w13 w.heap.size (fun _ => True) v234 y233) := ⟨h0_⟩
                                 have n1_ : Aside0 (Kd.R k42 42 w13 w.heap.size (fun _ => True) (.slice Ao9 x230001_1.length co9) x230001_1) := ⟨h1_⟩
                                 have n2_ : Aside0 (w13.heap[gb229]? = some (.cells #[.int .i64 1099511627775, .slice Ao9 x230001_1.length co9, .slice none 0 0] 28 (0, 0))) := ⟨h2_⟩
                                 have n3_ : Aside0 (Below w.heap.size w w13) := ⟨h3_⟩
                                 clear HO_230001
                                 clear BK229
                                 clear HB
                                 clear h0_ h1_ h2_ h3_
                                 have HO235 := n0_
                                 have HO_230001 := n1_
                                 have BK229 := n2_
                                 have HB := n3_
                                 clear n0_ n1_ n2_ n3_
                                 have hHeld : w13.cell? ⟨gb229, 0, none⟩ = some (.int .i64 1099511627775) ∧ w13.cell? ⟨gb229, 1, none⟩ = some (.slice Ao9 x230001_1.length co9) ∧ w13.cell? ⟨gb229, 2, none⟩ = some (.slice none 0 0) := hS_
                                 refine norm_ (a' := ?_) ?_ ?_
                                 rotate_left
                                 ·simp only [putAll, Act.put, sA, sB, sC]
                                  rfl
                                 refine three_ (i := 10) (j := 13) (k := 15) (Ni := some 27) (Nj := some 30) (Nk := some 32) fz0_11 fz0_5 fz0_3 rfl rfl rfl rfl rfl rfl (three_of HT_.out (by kernel_rfl)) (by decide) (by decide) (by decide) (fun K hK => ?_) (fun K hK => ?_) (fun K hK => ?_)
                                 ·skip
                                  refine R_lit_step (Kd.int .u8) _ 5 ?hg (N := 27) ?hd (xs := ([(wrap64 (97 + (wrap64 (Int.tdiv x4_1 26)))) % 256, (wrap64 (97 + (Int.tmod x4_1 26))) % 256] : List Int)) (inner := [.int .u8 ((wrap64 (97 + (wrap64 (Int.tdiv x4_1 26)))) % 256), .int .u8 ((wrap64 (97 + (Int.tmod x4_1 26))) % 256)]) (ok := fun _ => True) (okp := fun _ => True) ?hr ?hp (fun _ hk => hk) trivial (Below.refl _ _) (Nat.le_refl _) (by simp) ?_; (case hd => rfl); (case hg => rfl); (case hr => first | (go_simp; done) | (go_simp; rfl)); (case hp => exact (Reps.one (show Kd.M (Kd.int .u8) _ _ _ ((wrap64 (97 + (wrap64 (Int.tdiv x4_1 26)))) % 256) [.int .u8 ((wrap64 (97 + (wrap64 (Int.tdiv x4_1 26)))) % 256)] from rfl) (Reps.one (show Kd.M (Kd.int .u8) _ _ _ ((wrap64 (97 + (Int.tmod x4_1 26))) % 256) [.int .u8 ((wrap64 (97 + (Int.tmod x4_1 26))) % 256)] from rfl) (Reps.none _ _))))
                                  intro v231 w14 ho15 hb hg_ hnew_
                                  clear hg_ hnew_
                                  (first | rw [← Ny230.out] at ho15 | (simp only [Int.reduceToNat] at ho15; rw [← Ny230.out] at ho15))
                                  have n0_ := Aside0.mk (R_below (by (with_reducible repeat (first | apply R_alloc | apply R_drewN | apply R_drew)); exact HO_230001.out) hb)
                                  have n1_ := Aside0.mk (R_elder' (by (with_reducible repeat (first | apply R_alloc | apply R_drewN | apply R_drew)); exact HO235.out) (R_base ho15) hb)
                                  have n2_ := Aside0.mk (R_lower (R_new' ho15 (R_lt (by (with_reducible repeat (first | apply R_alloc | apply R_drewN | apply R_drew)); exact HO235.out))) (below_size (by repeat (first | exact HB.out | apply below_alloc | apply pw_below_drewN | apply below_drew1 | refine below_set ?_ GE229.out))))
                                  have n3_ := Aside0.mk (blk_below (g := gb229) (o := .cells #[.int .i64 1099511627775, .slice Ao9 x230001_1.length co9, .slice none 0 0] 28 (0, 0)) (by (with_reducible repeat (first | refine blk_drewN ?_ _ | refine blk_drew ?_ | refine blk_alloc ?_ _)); exact BK229.out) hb)
                                  have n4_ := Aside0.mk (below_step (by repeat (first | exact HB.out | apply below_alloc | apply pw_below_drewN | apply below_drew1 | refine below_set ?_ GE229.out)) hb)
                                  clear HO_230001
                                  clear HO235
                                  clear BK229
                                  clear HB
                                  have HO_230001 := n0_
                                  have HO235 := n1_
                                  have HO232 := n2_
                                  have BK229 := n3_
                                  have HB := n4_
                                  clear n0_ n1_ n2_ n3_ n4_
                                  clear hb ho15
                                  refine hK.out _ _ ⟨(blk_cell BK229.out 0).trans rfl, (blk_cell BK229.out 1).trans rfl, (blk_cell BK229.out 2).trans rfl⟩ (fun hHeld => ?_)
                                  clear hK K
                                  refine norm_ (a' := ?_) ?_ ?_
                                  rotate_left
                                  ·show Act.put _ (some 27) _ = _
                                   simp only [Act.put, sA, sB, sC, i64_w, i32_w]
                                   rfl
                                  exact norm_ (by simp only [putAll, Act.put, sA, sB, sC] <;> rfl) (hJ10_12 (v231, v234) _ ⟨hHeld, (by (with_reducible repeat (first | apply R_alloc | apply R_drewN | apply R_drew)); exact R_mono HO232.out (fun _ hk => hk.2)), (by (with_reducible repeat (first | apply R_alloc | apply R_drewN | apply R_drew)); exact R_mono HO235.out (fun _ hk => hk.2)), HO_230001.out, BK229.out, HB.out⟩)
                                 ·skip
                                  have hcv14 := own_string (P := Try.prog) Try.underlying23 Try.underlying5 Try.underlying9 (Kd.own_of_R HO235.out)
                                  refine value_ (w1 := ?_) (v := ?_) (by rfl) rfl ?_ ?_
                                  rotate_left 2
                                  ·go_simp
                                   constructor
                                   ·rfl
                                   ·rfl
                                  clear hcv14
                                  refine hK.out _ _ ⟨(blk_cell BK229.out 0).trans rfl, (blk_cell BK229.out 1).trans rfl, (blk_cell BK229.out 2).trans rfl⟩ (fun hHeld => ?_)
                                  clear hK K
                                  refine norm_ (a' := ?_) ?_ ?_
                                  rotate_left
                                  ·show Act.put _ (some 30) _ = _
                                   simp only [Act.put, sA, sB, sC, i64_w, i32_w]
                                   rfl
                                  exact norm_ (by simp only [putAll, Act.put, sA, sB, sC] <;> rfl) (hJ12_13 (v234) _ ⟨hHeld, HO235.out, HO_230001.out, BK229.out, HB.out⟩)
                                 ·skip
                                  refine R_make_step (Kd.int .u8) _ 5 (by rfl) (N := 32) rfl 23 _ _ rfl 256 rfl rfl Try.underlying23 (.int .u8 0) 1 info5 rfl (by decide) (by omega) 0 (ok := fun _ => True) (okp := fun _ => True) rfl (fun _ hk => hk) trivial (by omega) (by omega) (Below.refl _ _) (Nat.le_refl _) ?_
                                  intro v237 w14 ho15 hb hg_ hnew_
                                  clear hg_ hnew_
                                  (first | rw [← Ny236.out] at ho15 | (simp only [Int.reduceToNat] at ho15; rw [← Ny236.out] at ho15))
                                  have n0_ := Aside0.mk (R_below (by (with_reducible repeat (first | apply R_alloc | apply R_drewN | apply R_drew)); exact HO_230001.out) hb)
                                  have n1_ := Aside0.mk (R_elder' (by (with_reducible repeat (first | apply R_alloc | apply R_drewN | apply R_drew)); exact HO235.out) (R_base ho15) hb)
                                  have n2_ := Aside0.mk (R_lower (R_new' ho15 (R_lt (by (with_reducible repeat (first | apply R_alloc | apply R_drewN | apply R_drew)); exact HO235.out))) (below_size (by repeat (first | exact HB.out | apply below_alloc | apply pw_below_drewN | apply below_drew1 | refine below_set ?_ GE229.out))))
                                  have n3_ := Aside0.mk (blk_below (g := gb229) (o := .cells #[.int .i64 1099511627775, .slice Ao9 x230001_1.length co9, .slice none 0 0] 28 (0, 0)) (by (with_reducible repeat (first | refine blk_drewN ?_ _ | refine blk_drew ?_ | refine blk_alloc ?_ _)); exact BK229.out) hb)
                                  have n4_ := Aside0.mk (below_step (by repeat (first | exact HB.out | apply below_alloc | apply pw_below_drewN | apply below_drew1 | refine below_set ?_ GE229.out)) hb)
                                  clear HO_230001
                                  clear HO235
                                  clear BK229
                                  clear HB
                                  have HO_230001 := n0_
                                  have HO235 := n1_
                                  have HO238 := n2_
                                  have BK229 := n3_
                                  have HB := n4_
                                  clear n0_ n1_ n2_ n3_ n4_
                                  clear hb ho15
                                  refine hK.out _ _ ⟨(blk_cell BK229.out 0).trans rfl, (blk_cell BK229.out 1).trans rfl, (blk_cell BK229.out 2).trans rfl⟩ (fun hHeld => ?_)
                                  clear hK K
                                  refine norm_ (a' := ?_) ?_ ?_
                                  rotate_left
                                  ·show Act.put _ (some 32) _ = _
                                   simp only [Act.put, sA, sB, sC, i64_w, i32_w]
                                   rfl
                                  exact norm_ (by simp only [putAll, Act.put, sA, sB, sC] <;> rfl) (hJ12_15 (v234, v237) _ ⟨hHeld, (by (with_reducible repeat (first | apply R_alloc | apply R_drewN | apply R_drew)); exact R_mono HO235.out (fun _ hk => hk.2)), (by (with_reducible repeat (first | apply R_alloc | apply R_drewN | apply R_drew)); exact R_mono HO238.out (fun _ hk => hk.2)), HO_230001.out, BK229.out, HB.out⟩)
                               ·skip
                                rintro v231 w13 ⟨hS_, h0_, h1_, h2_, h3_⟩
                                have n0_ : Aside0 (Kd.R (Kd.int .u8) 5 w13 w.heap.size (fun _ => True) v231 y230) := ⟨h0_⟩
                                have n1_ : Aside0 (Kd.R k42 42 w13 w.heap.size (fun _ => True) (.slice Ao9 x230001_1.length co9) x230001_1) := ⟨h1_⟩
                                have n2_ : Aside0 (w13.heap[gb229]? = some (.cells #[.int .i64 1099511627775, .slice Ao9 x230001_1.length co9, .slice none 0 0] 28 (0, 0))) := ⟨h2_⟩
                                have n3_ : Aside0 (Below w.heap.size w w13) := ⟨h3_⟩
                                clear HO_230001
                                clear BK229
                                clear HB
                                clear h0_ h1_ h2_ h3_
                                have HO232 := n0_
                                have HO_230001 := n1_
                                have BK229 := n2_
                                have HB := n3_
                                clear n0_ n1_ n2_ n3_
                                have hHeld : w13.cell? ⟨gb229, 0, none⟩ = some (.int .i64 1099511627775) ∧ w13.cell? ⟨gb229, 1, none⟩ = some (.slice Ao9 x230001_1.length co9) ∧ w13.cell? ⟨gb229, 2, none⟩ = some (.slice none 0 0) := hS_
                                refine norm_ (a' := ?_) ?_ ?_
                                rotate_left
                                ·simp only [putAll, Act.put, sA, sB, sC]
                                 rfl
                                refine three_ (i := 11) (j := 12) (k := 15) (Ni := some 28) (Nj := some 29) (Nk := some 32) fz0_17 fz0_11 fz0_9 rfl rfl rfl rfl rfl rfl (three_of HT_.out (by kernel_rfl)) (by decide) (by decide) (by decide) (fun K hK => ?_) (fun K hK => ?_) (fun K hK => ?_)
                                ·skip
                                 have hcv14 := own_string (P := Try.prog) Try.underlying23 Try.underlying5 Try.underlying9 (Kd.own_of_R HO232.out)
                                 refine value_ (w1 := ?_) (v := ?_) (by rfl) rfl ?_ ?_
                                 rotate_left 2
                                 ·go_simp
                                  constructor
                                  ·rfl
                                  ·rfl
                                 clear hcv14
                                 refine hK.out _ _ ⟨(blk_cell BK229.out 0).trans rfl, (blk_cell BK229.out 1).trans rfl, (blk_cell BK229.out 2).trans rfl⟩ (fun hHeld => ?_)
                                 clear hK K
                                 refine norm_ (a' := ?_) ?_ ?_
                                 rotate_left
                                 ·show Act.put _ (some 28) _ = _
                                  simp only [Act.put, sA, sB, sC, i64_w, i32_w]
                                  rfl
                                 exact norm_ (by simp only [putAll, Act.put, sA, sB, sC] <;> rfl) (hJ10_11 (v231) _ ⟨hHeld, HO232.out, HO_230001.out, BK229.out, HB.out⟩)
                                ·skip
                                 refine R_make_step (Kd.int .u8) _ 5 (by rfl) (N := 29) rfl 23 _ _ rfl 62 rfl rfl Try.underlying23 (.int .u8 0) 1 info5 rfl (by decide) (by omega) 0 (ok := fun _ => True) (okp := fun _ => True) rfl (fun _ hk => hk) trivial (by omega) (by omega) (Below.refl _ _) (Nat.le_refl _) ?_
                                 intro v234 w14 ho15 hb hg_ hnew_
                                 clear hg_ hnew_
                                 (first | rw [← Ny233.out] at ho15 | (simp only [Int.reduceToNat] at ho15; rw [← Ny233.out] at ho15))
                                 have n0_ := Aside0.mk (R_below (by (with_reducible repeat (first | apply R_alloc | apply R_drewN | apply R_drew)); exact HO_230001.out) hb)
                                 have n1_ := Aside0.mk (R_elder' (by (with_reducible repeat (first | apply R_alloc | apply R_drewN | apply R_drew)); exact HO232.out) (R_base ho15) hb)
                                 have n2_ := Aside0.mk (R_lower (R_new' ho15 (R_lt (by (with_reducible repeat (first | apply R_alloc | apply R_drewN | apply R_drew)); exact HO232.out))) (below_size (by repeat (first | exact HB.out | apply below_alloc | apply pw_below_drewN | apply below_drew1 | refine below_set ?_ GE229.out))))
                                 have n3_ := Aside0.mk (blk_below (g := gb229) (o := .cells #[.int .i64 1099511627775, .slice Ao9 x230001_1.length co9, .slice none 0 0] 28 (0, 0)) (by (with_reducible repeat (first | refine blk_drewN ?_ _ | refine blk_drew ?_ | refine blk_alloc ?_ _)); exact BK229.out) hb)
                                 have n4_ := Aside0.mk (below_step (by repeat (first | exact HB.out | apply below_alloc | apply pw_below_drewN | apply below_drew1 | refine below_set ?_ GE229.out)) hb)
                                 clear HO_230001
                                 clear HO232
                                 clear BK229
                                 clear HB
                                 have HO_230001 := n0_
                                 have HO232 := n1_
                                 have HO235 := n2_
                                 have BK229 := n3_
                                 have HB := n4_
                                 clear n0_ n1_ n2_ n3_ n4_
                                 clear hb ho15
                                 refine hK.out _ _ ⟨(blk_cell BK229.out 0).trans rfl, (blk_cell BK229.out 1).trans rfl, (blk_cell BK229.out 2).trans rfl⟩ (fun hHeld => ?_)
                                 clear hK K
                                 refine norm_ (a' := ?_) ?_ ?_
                                 rotate_left
                                 ·show Act.put _ (some 29) _ = _
                                  simp only [Act.put, sA, sB, sC, i64_w, i32_w]
                                  rfl
                                 exact norm_ (by simp only [putAll, Act.put, sA, sB, sC] <;> rfl) (hJ10_12 (v231, v234) _ ⟨hHeld, (by (with_reducible repeat (first | apply R_alloc | apply R_drewN | apply R_drew)); exact R_mono HO232.out (fun _ hk => hk.2)), (by (with_reducible repeat (first | apply R_alloc | apply R_drewN | apply R_drew)); exact R_mono HO235.out (fun _ hk => hk.2)), HO_230001.out, BK229.out, HB.out⟩)
                                ·skip
                                 refine R_make_step (Kd.int .u8) _ 5 (by rfl) (N := 32) rfl 23 _ _ rfl 256 rfl rfl Try.underlying23 (.int .u8 0) 1 info5 rfl (by decide) (by omega) 0 (ok := fun _ => True) (okp := fun _ => True) rfl (fun _ hk => hk) trivial (by omega) (by omega) (Below.refl _ _) (Nat.le_refl _) ?_
                                 intro v237 w14 ho15 hb hg_ hnew_
                                 clear hg_ hnew_
                                 (first | rw [← Ny236.out] at ho15 | (simp only [Int.reduceToNat] at ho15; rw [← Ny236.out] at ho15))
                                 have n0_ := Aside0.mk (R_below (by (with_reducible repeat (first | apply R_alloc | apply R_drewN | apply R_drew)); exact HO_230001.out) hb)
                                 have n1_ := Aside0.mk (R_elder' (by (with_reducible repeat (first | apply R_alloc | apply R_drewN | apply R_drew)); exact HO232.out) (R_base ho15) hb)
                                 have n2_ := Aside0.mk (R_lower (R_new' ho15 (R_lt (by (with_reducible repeat (first | apply R_alloc | apply R_drewN | apply R_drew)); exact HO232.out))) (below_size (by repeat (first | exact HB.out | apply below_alloc | apply pw_below_drewN | apply below_drew1 | refine below_set ?_ GE229.out))))
                                 have n3_ := Aside0.mk (blk_below (g := gb229) (o := .cells #[.int .i64 1099511627775, .slice Ao9 x230001_1.length co9, .slice none 0 0] 28 (0, 0)) (by (with_reducible repeat (first | refine blk_drewN ?_ _ | refine blk_drew ?_ | refine blk_alloc ?_ _)); exact BK229.out) hb)
                                 have n4_ := Aside0.mk (below_step (by repeat (first | exact HB.out | apply below_alloc | apply pw_below_drewN | apply below_drew1 | refine below_set ?_ GE229.out)) hb)
                                 clear HO_230001
                                 clear HO232
                                 clear BK229
                                 clear HB
                                 have HO_230001 := n0_
                                 have HO232 := n1_
                                 have HO238 := n2_
                                 have BK229 := n3_
                                 have HB := n4_
                                 clear n0_ n1_ n2_ n3_ n4_
                                 clear hb ho15
                                 refine hK.out _ _ ⟨(blk_cell BK229.out 0).trans rfl, (blk_cell BK229.out 1).trans rfl, (blk_cell BK229.out 2).trans rfl⟩ (fun hHeld => ?_)
                                 clear hK K
                                 refine norm_ (a' := ?_) ?_ ?_
                                 rotate_left
                                 ·show Act.put _ (some 32) _ = _
                                  simp only [Act.put, sA, sB, sC, i64_w, i32_w]
                                  rfl
                                 exact norm_ (by simp only [putAll, Act.put, sA, sB, sC] <;> rfl) (hJ10_15 (v231, v237) _ ⟨hHeld, (by (with_reducible repeat (first | apply R_alloc | apply R_drewN | apply R_drew)); exact R_mono HO232.out (fun _ hk => hk.2)), (by (with_reducible repeat (first | apply R_alloc | apply R_drewN | apply R_drew)); exact R_mono HO238.out (fun _ hk => hk.2)), HO_230001.out, BK229.out, HB.out⟩)
                              ·skip
                               rintro v237 w14 ⟨hS_, h0_, h1_, h2_, h3_⟩
                               have n0_ : Aside0 (Kd.R (Kd.int .u8) 5 w14 w.heap.size (fun _ => True) v237 y236) := ⟨h0_⟩
                               have n1_ : Aside0 (Kd.R k42 42 w14 w.heap.size (fun _ => True) (.slice Ao9 x230001_1.length co9) x230001_1) := ⟨h1_⟩
                               have n2_ : Aside0 (w14.heap[gb229]? = some (.cells #[.int .i64 1099511627775, .slice Ao9 x230001_1.length co9, .slice none 0 0] 28 (0, 0))) := ⟨h2_⟩
                               have n3_ : Aside0 (Below w.heap.size w w14) := ⟨h3_⟩
                               clear HO_230001
                               clear BK229
                               clear HB
                               clear h0_ h1_ h2_ h3_
                               have HO238 := n0_
                               have HO_230001 := n1_
                               have BK229 := n2_
                               have HB := n3_
                               clear n0_ n1_ n2_ n3_
                               have hHeld : w14.cell? ⟨gb229, 0, none⟩ = some (.int .i64 1099511627775) ∧ w14.cell? ⟨gb229, 1, none⟩ = some (.slice Ao9 x230001_1.length co9) ∧ w14.cell? ⟨gb229, 2, none⟩ = some (.slice none 0 0) := hS_
                               refine norm_ (a' := ?_) ?_ ?_
                               rotate_left
                               ·simp only [putAll, Act.put, sA, sB, sC]
                                rfl
                               refine two_ (i := 10) (j := 12) (Ni := some 27) (Nj := some 29) fz0_10 fz0_4 rfl rfl rfl rfl (two_of HT_.out (by kernel_rfl)) (by decide) (by decide) (fun K hK => ?_) (fun K hK => ?_)
                               ·skip
                                refine R_lit_step (Kd.int .u8) _ 5 ?hg (N := 27) ?hd (xs := ([(wrap64 (97 + (wrap64 (Int.tdiv x4_1 26)))) % 256, (wrap64 (97 + (Int.tmod x4_1 26))) % 256] : List Int)) (inner := [.int .u8 ((wrap64 (97 + (wrap64 (Int.tdiv x4_1 26)))) % 256), .int .u8 ((wrap64 (97 + (Int.tmod x4_1 26))) % 256)]) (ok := fun _ => True) (okp := fun _ => True) ?hr ?hp (fun _ hk => hk) trivial (Below.refl _ _) (Nat.le_refl _) (by simp) ?_; (case hd => rfl); (case hg => rfl); (case hr => first | (go_simp; done) | (go_simp; rfl)); (case hp => exact (Reps.one (show Kd.M (Kd.int .u8) _ _ _ ((wrap64 (97 + (wrap64 (Int.tdiv x4_1 26)))) % 256) [.int .u8 ((wrap64 (97 + (wrap64 (Int.tdiv x4_1 26)))) % 256)] from rfl) (Reps.one (show Kd.M (Kd.int .u8) _ _ _ ((wrap64 (97 + (Int.tmod x4_1 26))) % 256) [.int .u8 ((wrap64 (97 + (Int.tmod x4_1 26))) % 256)] from rfl) (Reps.none _ _))))
                                intro v231 w15 ho16 hb hg_ hnew_
                                clear hg_ hnew_
                                (first | rw [← Ny230.out] at ho16 | (simp only [Int.reduceToNat] at ho16; rw [← Ny230.out] at ho16))
                                have n0_ := Aside0.mk (R_below (by (with_reducible repeat (first | apply R_alloc | apply R_drewN | apply R_drew)); exact HO_230001.out) hb)
                                have n1_ := Aside0.mk (R_elder' (by (with_reducible repeat (first | apply R_alloc | apply R_drewN | apply R_drew)); exact HO238.out) (R_base ho16) hb)
                                have n2_ := Aside0.mk (R_lower (R_new' ho16 (R_lt (by (with_reducible repeat (first | apply R_alloc | apply R_drewN | apply R_drew)); exact HO238.out))) (below_size (by repeat (first | exact HB.out | apply below_alloc | apply pw_below_drewN | apply below_drew1 | refine below_set ?_ GE229.out))))
                                have n3_ := Aside0.mk (blk_below (g := gb229) (o := .cells #[.int .i64 1099511627775, .slice Ao9 x230001_1.length co9, .slice none 0 0] 28 (0, 0)) (by (with_reducible repeat (first | refine blk_drewN ?_ _ | refine blk_drew ?_ | refine blk_alloc ?_ _)); exact BK229.out) hb)
                                have n4_ := Aside0.mk (below_step (by repeat (first | exact HB.out | apply below_alloc | apply pw_below_drewN | apply below_drew1 | refine below_set ?_ GE229.out)) hb)
                                clear HO_230001
                                clear HO238
                                clear BK229
                                clear HB
                                have HO_230001 := n0_
                                have HO238 := n1_
                                have HO232 := n2_
                                have BK229 := n3_
                                have HB := n4_
                                clear n0_ n1_ n2_ n3_ n4_
                                clear hb ho16
                                refine hK.out _ _ ⟨(blk_cell BK229.out 0).trans rfl, (blk_cell BK229.out 1).trans rfl, (blk_cell BK229.out 2).trans rfl⟩ (fun hHeld => ?_)
                                clear hK K
                                refine norm_ (a' := ?_) ?_ ?_
                                rotate_left
                                ·show Act.put _ (some 27) _ = _
                                 simp only [Act.put, sA, sB, sC, i64_w, i32_w]
                                 rfl
                                exact norm_ (by simp only [putAll, Act.put, sA, sB, sC] <;> rfl) (hJ10_15_16 (v231, v237) _ ⟨hHeld, (by (with_reducible repeat (first | apply R_alloc | apply R_drewN | apply R_drew)); exact R_mono HO232.out (fun _ hk => hk.2)), (by (with_reducible repeat (first | apply R_alloc | apply R_drewN | apply R_drew)); exact R_mono HO238.out (fun _ hk => hk.2)), HO_230001.out, BK229.out, HB.out⟩)
                               ·skip
                                refine R_make_step (Kd.int .u8) _ 5 (by rfl) (N := 29) rfl 23 _ _ rfl 62 rfl rfl Try.underlying23 (.int .u8 0) 1 info5 rfl (by decide) (by omega) 0 (ok := fun _ => True) (okp := fun _ => True) rfl (fun _ hk => hk) trivial (by omega) (by omega) (Below.refl _ _) (Nat.le_refl _) ?_
                                intro v234 w15 ho16 hb hg_ hnew_
                                clear hg_ hnew_
                                (first | rw [← Ny233.out] at ho16 | (simp only [Int.reduceToNat] at ho16; rw [← Ny233.out] at ho16))
                                have n0_ := Aside0.mk (R_below (by (with_reducible repeat (first | apply R_alloc | apply R_drewN | apply R_drew)); exact HO_230001.out) hb)
                                have n1_ := Aside0.mk (R_elder' (by (with_reducible repeat (first | apply R_alloc | apply R_drewN | apply R_drew)); exact HO238.out) (R_base ho16) hb)
                                have n2_ := Aside0.mk (R_lower (R_new' ho16 (R_lt (by (with_reducible repeat (first | apply R_alloc | apply R_drewN | apply R_drew)); exact HO238.out))) (below_size (by repeat (first | exact HB.out | apply below_alloc | apply pw_below_drewN | apply below_drew1 | refine below_set ?_ GE229.out))))
                                have n3_ := Aside0.mk (blk_below (g := gb229) (o := .cells #[.int .i64 1099511627775, .slice Ao9 x230001_1.length co9, .slice none 0 0] 28 (0, 0)) (by (with_reducible repeat (first | refine blk_drewN ?_ _ | refine blk_drew ?_ | refine blk_alloc ?_ _)); exact BK229.out) hb)
                                have n4_ := Aside0.mk (below_step (by repeat (first | exact HB.out | apply below_alloc | apply pw_below_drewN | apply below_drew1 | refine below_set ?_ GE229.out)) hb)
                                clear HO_230001
                                clear HO238
                                clear BK229
                                clear HB
                                have HO_230001 := n0_
                                have HO238 := n1_
                                have HO235 := n2_
                                have BK229 := n3_
                                have HB := n4_
                                clear n0_ n1_ n2_ n3_ n4_
                                clear hb ho16
                                refine hK.out _ _ ⟨(blk_cell BK229.out 0).trans rfl, (blk_cell BK229.out 1).trans rfl, (blk_cell BK229.out 2).trans rfl⟩ (fun hHeld => ?_)
                                clear hK K
                                refine norm_ (a' := ?_) ?_ ?_
                                rotate_left
                                ·show Act.put _ (some 29) _ = _
                                 simp only [Act.put, sA, sB, sC, i64_w, i32_w]
                                 rfl
                                exact norm_ (by simp only [putAll, Act.put, sA, sB, sC] <;> rfl) (hJ12_15_16 (v234, v237) _ ⟨hHeld, (by (with_reducible repeat (first | apply R_alloc | apply R_drewN | apply R_drew)); exact R_mono HO235.out (fun _ hk => hk.2)), (by (with_reducible repeat (first | apply R_alloc | apply R_drewN | apply R_drew)); exact R_mono HO238.out (fun _ hk => hk.2)), HO_230001.out, BK229.out, HB.out⟩)
                             ·skip
                              rintro ⟨v234, v237⟩ w15 ⟨hS_, h0_, h1_, h2_, h3_, h4_⟩
                              have n0_ : Aside0 (Kd.R (Kd.int .u8) 5 w15 w.heap.size (fun k_ => some k_ ≠ (v237 : Value).ownBlock) v234 y233) := ⟨h0_⟩
                              have n1_ : Aside0 (Kd.R (Kd.int .u8) 5 w15 w.heap.size (fun k_ => some k_ ≠ (v234 : Value).ownBlock) v237 y236) := ⟨h1_⟩
                              have n2_ : Aside0 (Kd.R k42 42 w15 w.heap.size (fun _ => True) (.slice Ao9 x230001_1.length co9) x230001_1) := ⟨h2_⟩
                              have n3_ : Aside0 (w15.heap[gb229]? = some (.cells #[.int .i64 1099511627775, .slice Ao9 x230001_1.length co9, .slice none 0 0] 28 (0, 0))) := ⟨h3_⟩
                              have n4_ : Aside0 (Below w.heap.size w w15) := ⟨h4_⟩
                              clear HO_230001
                              clear BK229
                              clear HB
                              clear h0_ h1_ h2_ h3_ h4_
                              have HO235 := n0_
                              have HO238 := n1_
                              have HO_230001 := n2_
                              have BK229 := n3_
                              have HB := n4_
                              clear n0_ n1_ n2_ n3_ n4_
                              have hHeld : w15.cell? ⟨gb229, 0, none⟩ = some (.int .i64 1099511627775) ∧ w15.cell? ⟨gb229, 1, none⟩ = some (.slice Ao9 x230001_1.length co9) ∧ w15.cell? ⟨gb229, 2, none⟩ = some (.slice none 0 0) := hS_
                              refine norm_ (a' := ?_) ?_ ?_
                              rotate_left
                              ·simp only [putAll, Act.put, sA, sB, sC]
                               rfl
                              refine three_ (i := 10) (j := 13) (k := 16) (Ni := some 27) (Nj := some 30) (Nk := some 33) fz0_12 fz0_6 fz0_4 rfl rfl rfl rfl rfl rfl (three_of HT_.out (by kernel_rfl)) (by decide) (by decide) (by decide) (fun K hK => ?_) (fun K hK => ?_) (fun K hK => ?_)
                              ·skip
                               refine R_lit_step (Kd.int .u8) _ 5 ?hg (N := 27) ?hd (xs := ([(wrap64 (97 + (wrap64 (Int.tdiv x4_1 26)))) % 256, (wrap64 (97 + (Int.tmod x4_1 26))) % 256] : List Int)) (inner := [.int .u8 ((wrap64 (97 + (wrap64 (Int.tdiv x4_1 26)))) % 256), .int .u8 ((wrap64 (97 + (Int.tmod x4_1 26))) % 256)]) (ok := fun _ => True) (okp := fun _ => True) ?hr ?hp (fun _ hk => hk) trivial (Below.refl _ _) (Nat.le_refl _) (by simp) ?_; (case hd => rfl); (case hg => rfl); (case hr => first | (go_simp; done) | (go_simp; rfl)); (case hp => exact (Reps.one (show Kd.M (Kd.int .u8) _ _ _ ((wrap64 (97 + (wrap64 (Int.tdiv x4_1 26)))) % 256) [.int .u8 ((wrap64 (97 + (wrap64 (Int.tdiv x4_1 26)))) % 256)] from rfl) (Reps.one (show Kd.M (Kd.int .u8) _ _ _ ((wrap64 (97 + (Int.tmod x4_1 26))) % 256) [.int .u8 ((wrap64 (97 + (Int.tmod x4_1 26))) % 256)] from rfl) (Reps.none _ _))))
                               intro v231 w16 ho17 hb hg_ hnew_
                               clear hg_ hnew_
                               (first | rw [← Ny230.out] at ho17 | (simp only [Int.reduceToNat] at ho17; rw [← Ny230.out] at ho17))
                               have n0_ := Aside0.mk (R_below (by (with_reducible repeat (first | apply R_alloc | apply R_drewN | apply R_drew)); exact HO_230001.out) hb)
                               have n1_ := Aside0.mk (R_elder' (by (with_reducible repeat (first | apply R_alloc | apply R_drewN | apply R_drew)); exact HO235.out) (R_base ho17) hb)
                               have n2_ := Aside0.mk (R_elder' (by (with_reducible repeat (first | apply R_alloc | apply R_drewN | apply R_drew)); exact HO238.out) (R_base ho17) hb)
                               have n3_ := Aside0.mk (R_lower (R_new' (R_new' ho17 (R_lt (by (with_reducible repeat (first | apply R_alloc | apply R_drewN | apply R_drew)); exact HO235.out))) (R_lt (by (with_reducible repeat (first | apply R_alloc | apply R_drewN | apply R_drew)); exact HO238.out))) (below_size (by repeat (first | exact HB.out | apply below_alloc | apply pw_below_drewN | apply below_drew1 | refine below_set ?_ GE229.out))))
                               have n4_ := Aside0.mk (blk_below (g := gb229) (o := .cells #[.int .i64 1099511627775, .slice Ao9 x230001_1.length co9, .slice none 0 0] 28 (0, 0)) (by (with_reducible repeat (first | refine blk_drewN ?_ _ | refine blk_drew ?_ | refine blk_alloc ?_ _)); exact BK229.out) hb)
                               have n5_ := Aside0.mk (below_step (by repeat (first | exact HB.out | apply below_alloc | apply pw_below_drewN | apply below_drew1 | refine below_set ?_ GE229.out)) hb)
                               clear HO_230001
                               clear HO235
                               clear HO238
                               clear BK229
                               clear HB
                               have HO_230001 := n0_
                               have HO235 := n1_
                               have HO238 := n2_
                               have HO232 := n3_
                               have BK229 := n4_
                               have HB := n5_
                               clear n0_ n1_ n2_ n3_ n4_ n5_
                               clear hb ho17
                               refine hK.out _ _ ⟨(blk_cell BK229.out 0).trans rfl, (blk_cell BK229.out 1).trans rfl, (blk_cell BK229.out 2).trans rfl⟩ (fun hHeld => ?_)
                               clear hK K
                               refine norm_ (a' := ?_) ?_ ?_
                               rotate_left
                               ·show Act.put _ (some 27) _ = _
                                simp only [Act.put, sA, sB, sC, i64_w, i32_w]
                                rfl
                               exact norm_ (by simp only [putAll, Act.put, sA, sB, sC] <;> rfl) (hJ10_12_15 (v231, v234, v237) _ ⟨hHeld, (by (with_reducible repeat (first | apply R_alloc | apply R_drewN | apply R_drew)); exact R_mono HO232.out (fun _ hk => ⟨hk.1.2, hk.2⟩)), (by (with_reducible repeat (first | apply R_alloc | apply R_drewN | apply R_drew)); exact R_mono HO235.out (fun _ hk => ⟨hk.2, hk.1⟩)), (by (with_reducible repeat (first | apply R_alloc | apply R_drewN | apply R_drew)); exact R_mono HO238.out (fun _ hk => ⟨hk.2, hk.1⟩)), HO_230001.out, BK229.out, HB.out⟩)
                              ·skip
                               have hcv16 := own_string (P := Try.prog) Try.underlying23 Try.underlying5 Try.underlying9 (Kd.own_of_R HO235.out)
                               refine value_ (w1 := ?_) (v := ?_) (by rfl) rfl ?_ ?_
                               rotate_left 2
                               ·go_simp
                                constructor
                                ·rfl
                                ·rfl
                               clear hcv16
                               refine hK.out _ _ ⟨(blk_cell BK229.out 0).trans rfl, (blk_cell BK229.out 1).trans rfl, (blk_cell BK229.out 2).trans rfl⟩ (fun hHeld => ?_)
                               clear hK K
                               refine norm_ (a' := ?_) ?_ ?_
                               rotate_left
                               ·show Act.put _ (some 30) _ = _
                                simp only [Act.put, sA, sB, sC, i64_w, i32_w]
                                rfl
                               exact norm_ (by simp only [putAll, Act.put, sA, sB, sC] <;> rfl) (hJ12_13_15 (v234, v237) _ ⟨hHeld, HO235.out, HO238.out, HO_230001.out, BK229.out, HB.out⟩)
                              ·skip
                               have hcv16 := own_string (P := Try.prog) Try.underlying23 Try.underlying5 Try.underlying9 (Kd.own_of_R HO238.out)
                               refine value_ (w1 := ?_) (v := ?_) (by rfl) rfl ?_ ?_
                               rotate_left 2
                               ·go_simp
                                constructor
                                ·rfl
                                ·rfl
                               clear hcv16
                               refine hK.out _ _ ⟨(blk_cell BK229.out 0).trans rfl, (blk_cell BK229.out 1).trans rfl, (blk_cell BK229.out 2).trans rfl⟩ (fun hHeld => ?_)
                               clear hK K
                               refine norm_ (a' := ?_) ?_ ?_
                               rotate_left
                               ·show Act.put _ (some 33) _ = _
                                simp only [Act.put, sA, sB, sC, i64_w, i32_w]
                                rfl
                               exact norm_ (by simp only [putAll, Act.put, sA, sB, sC] <;> rfl) (hJ12_15_16 (v234, v237) _ ⟨hHeld, HO235.out, HO238.out, HO_230001.out, BK229.out, HB.out⟩)
                            ·skip
                             rintro v234 w14 ⟨hS_, h0_, h1_, h2_, h3_⟩
                             have n0_ : Aside0 (Kd.R (Kd.int .u8) 5 w14 w.heap.size (fun _ => True) v234 y233) := ⟨h0_⟩
                             have n1_ : Aside0 (Kd.R k42 42 w14 w.heap.size (fun _ => True) (.slice Ao9 x230001_1.length co9) x230001_1) := ⟨h1_⟩
                             have n2_ : Aside0 (w14.heap[gb229]? = some (.cells #[.int .i64 1099511627775, .slice Ao9 x230001_1.length co9, .slice none 0 0] 28 (0, 0))) := ⟨h2_⟩
                             have n3_ : Aside0 (Below w.heap.size w w14) := ⟨h3_⟩
                             clear HO_230001
                             clear BK229
                             clear HB
                             clear h0_ h1_ h2_ h3_
                             have HO235 := n0_
                             have HO_230001 := n1_
                             have BK229 := n2_
                             have HB := n3_
                             clear n0_ n1_ n2_ n3_
                             have hHeld : w14.cell? ⟨gb229, 0, none⟩ = some (.int .i64 1099511627775) ∧ w14.cell? ⟨gb229, 1, none⟩ = some (.slice Ao9 x230001_1.length co9) ∧ w14.cell? ⟨gb229, 2, none⟩ = some (.slice none 0 0) := hS_
                             refine norm_ (a' := ?_) ?_ ?_
                             rotate_left
                             ·simp only [putAll, Act.put, sA, sB, sC]
                              rfl
                             refine two_ (i := 10) (j := 15) (Ni := some 27) (Nj := some 32) fz0_14 fz0_6 rfl rfl rfl rfl (two_of HT_.out (by kernel_rfl)) (by decide) (by decide) (fun K hK => ?_) (fun K hK => ?_)
                             ·skip
                              refine R_lit_step (Kd.int .u8) _ 5 ?hg (N := 27) ?hd (xs := ([(wrap64 (97 + (wrap64 (Int.tdiv x4_1 26)))) % 256, (wrap64 (97 + (Int.tmod x4_1 26))) % 256] : List Int)) (inner := [.int .u8 ((wrap64 (97 + (wrap64 (Int.tdiv x4_1 26)))) % 256), .int .u8 ((wrap64 (97 + (Int.tmod x4_1 26))) % 256)]) (ok := fun _ => True) (okp := fun _ => True) ?hr ?hp (fun _ hk => hk) trivial (Below.refl _ _) (Nat.le_refl _) (by simp) ?_; (case hd => rfl); (case hg => rfl); (case hr => first | (go_simp; done) | (go_simp; rfl)); (case hp => exact (Reps.one (show Kd.M (Kd.int .u8) _ _ _ ((wrap64 (97 + (wrap64 (Int.tdiv x4_1 26)))) % 256) [.int .u8 ((wrap64 (97 + (wrap64 (Int.tdiv x4_1 26)))) % 256)] from rfl) (Reps.one (show Kd.M (Kd.int .u8) _ _ _ ((wrap64 (97 + (Int.tmod x4_1 26))) % 256) [.int .u8 ((wrap64 (97 + (Int.tmod x4_1 26))) % 256)] from rfl) (Reps.none _ _))))
                              intro v231 w15 ho16 hb hg_ hnew_
                              clear hg_ hnew_
                              (first | rw [← Ny230.out] at ho16 | (simp only [Int.reduceToNat] at ho16; rw [← Ny230.out] at ho16))
                              have n0_ := Aside0.mk (R_below (by (with_reducible repeat (first | apply R_alloc | apply R_drewN | apply R_drew)); exact HO_230001.out) hb)
                              have n1_ := Aside0.mk (R_elder' (by (with_reducible repeat (first | apply R_alloc | apply R_drewN | apply R_drew)); exact HO235.out) (R_base ho16) hb)
                              have n2_ := Aside0.mk (R_lower (R_new' ho16 (R_lt (by (with_reducible repeat (first | apply R_alloc | apply R_drewN | apply R_drew)); exact HO235.out))) (below_size (by repeat (first | exact HB.out | apply below_alloc | apply pw_below_drewN | apply below_drew1 | refine below_set ?_ GE229.out))))
                              have n3_ := Aside0.mk (blk_below (g := gb229) (o := .cells #[.int .i64 1099511627775, .slice Ao9 x230001_1.length co9, .slice none 0 0] 28 (0, 0)) (by (with_reducible repeat (first | refine blk_drewN ?_ _ | refine blk_drew ?_ | refine blk_alloc ?_ _)); exact BK229.out) hb)
                              have n4_ := Aside0.mk (below_step (by repeat (first | exact HB.out | apply below_alloc | apply pw_below_drewN | apply below_drew1 | refine below_set ?_ GE229.out)) hb)
                              clear HO_230001
                              clear HO235
                              clear BK229
                              clear HB
                              have HO_230001 := n0_
                              have HO235 := n1_
                              have HO232 := n2_
                              have BK229 := n3_
                              have HB := n4_
                              clear n0_ n1_ n2_ n3_ n4_
                              clear hb ho16
                              refine hK.out _ _ ⟨(blk_cell BK229.out 0).trans rfl, (blk_cell BK229.out 1).trans rfl, (blk_cell BK229.out 2).trans rfl⟩ (fun hHeld => ?_)
                              clear hK K
                              refine norm_ (a' := ?_) ?_ ?_
                              rotate_left
                              ·show Act.put _ (some 27) _ = _
                               simp only [Act.put, sA, sB, sC, i64_w, i32_w]
                               rfl
                              exact norm_ (by simp only [putAll, Act.put, sA, sB, sC] <;> rfl) (hJ10_12_13 (v231, v234) _ ⟨hHeld, (by (with_reducible repeat (first | apply R_alloc | apply R_drewN | apply R_drew)); exact R_mono HO232.out (fun _ hk => hk.2)), (by (with_reducible repeat (first | apply R_alloc | apply R_drewN | apply R_drew)); exact R_mono HO235.out (fun _ hk => hk.2)), HO_230001.out, BK229.out, HB.out⟩)
                             ·skip
                              refine R_make_step (Kd.int .u8) _ 5 (by rfl) (N := 32) rfl 23 _ _ rfl 256 rfl rfl Try.underlying23 (.int .u8 0) 1 info5 rfl (by decide) (by omega) 0 (ok := fun _ => True) (okp := fun _ => True) rfl (fun _ hk => hk) trivial (by omega) (by omega) (Below.refl _ _) (Nat.le_refl _) ?_
                              intro v237 w15 ho16 hb hg_ hnew_
                              clear hg_ hnew_
                              (first | rw [← Ny236.out] at ho16 | (simp only [Int.reduceToNat] at ho16; rw [← Ny236.out] at ho16))
                              have n0_ := Aside0.mk (R_below (by (with_reducible repeat (first | apply R_alloc | apply R_drewN | apply R_drew)); exact HO_230001.out) hb)
                              have n1_ := Aside0.mk (R_elder' (by (with_reducible repeat (first | apply R_alloc | apply R_drewN | apply R_drew)); exact HO235.out) (R_base ho16) hb)
                              have n2_ := Aside0.mk (R_lower (R_new' ho16 (R_lt (by (with_reducible repeat (first | apply R_alloc | apply R_drewN | apply R_drew)); exact HO235.out))) (below_size (by repeat (first | exact HB.out | apply below_alloc | apply pw_below_drewN | apply below_drew1 | refine below_set ?_ GE229.out))))
                              have n3_ := Aside0.mk (blk_below (g := gb229) (o := .cells #[.int .i64 1099511627775, .slice Ao9 x230001_1.length co9, .slice none 0 0] 28 (0, 0)) (by (with_reducible repeat (first | refine blk_drewN ?_ _ | refine blk_drew ?_ | refine blk_alloc ?_ _)); exact BK229.out) hb)
                              have n4_ := Aside0.mk (below_step (by repeat (first | exact HB.out | apply below_alloc | apply pw_below_drewN | apply below_drew1 | refine below_set ?_ GE229.out)) hb)
                              clear HO_230001
                              clear HO235
                              clear BK229
                              clear HB
                              have HO_230001 := n0_
                              have HO235 := n1_
                              have HO238 := n2_
                              have BK229 := n3_
                              have HB := n4_
                              clear n0_ n1_ n2_ n3_ n4_
                              clear hb ho16
                              refine hK.out _ _ ⟨(blk_cell BK229.out 0).trans rfl, (blk_cell BK229.out 1).trans rfl, (blk_cell BK229.out 2).trans rfl⟩ (fun hHeld => ?_)
                              clear hK K
                              refine norm_ (a' := ?_) ?_ ?_
                              rotate_left
                              ·show Act.put _ (some 32) _ = _
                               simp only [Act.put, sA, sB, sC, i64_w, i32_w]
                               rfl
                              exact norm_ (by simp only [putAll, Act.put, sA, sB, sC] <;> rfl) (hJ12_13_15 (v234, v237) _ ⟨hHeld, (by (with_reducible repeat (first | apply R_alloc | apply R_drewN | apply R_drew)); exact R_mono HO235.out (fun _ hk => hk.2)), (by (with_reducible repeat (first | apply R_alloc | apply R_drewN | apply R_drew)); exact R_mono HO238.out (fun _ hk => hk.2)), HO_230001.out, BK229.out, HB.out⟩)
                           ·skip
                            rintro ⟨v231, v237⟩ w15 ⟨hS_, h0_, h1_, h2_, h3_, h4_⟩
                            have n0_ : Aside0 (Kd.R (Kd.int .u8) 5 w15 w.heap.size (fun k_ => some k_ ≠ (v237 : Value).ownBlock) v231 y230) := ⟨h0_⟩
                            have n1_ : Aside0 (Kd.R (Kd.int .u8) 5 w15 w.heap.size (fun k_ => some k_ ≠ (v231 : Value).ownBlock) v237 y236) := ⟨h1_⟩
                            have n2_ : Aside0 (Kd.R k42 42 w15 w.heap.size (fun _ => True) (.slice Ao9 x230001_1.length co9) x230001_1) := ⟨h2_⟩
                            have n3_ : Aside0 (w15.heap[gb229]? = some (.cells #[.int .i64 1099511627775, .slice Ao9 x230001_1.length co9, .slice none 0 0] 28 (0, 0))) := ⟨h3_⟩
                            have n4_ : Aside0 (Below w.heap.size w w15) := ⟨h4_⟩
                            clear HO_230001
                            clear BK229
                            clear HB
                            clear h0_ h1_ h2_ h3_ h4_
                            have HO232 := n0_
                            have HO238 := n1_
                            have HO_230001 := n2_
                            have BK229 := n3_
                            have HB := n4_
                            clear n0_ n1_ n2_ n3_ n4_
                            have hHeld : w15.cell? ⟨gb229, 0, none⟩ = some (.int .i64 1099511627775) ∧ w15.cell? ⟨gb229, 1, none⟩ = some (.slice Ao9 x230001_1.length co9) ∧ w15.cell? ⟨gb229, 2, none⟩ = some (.slice none 0 0) := hS_
                            refine norm_ (a' := ?_) ?_ ?_
                            rotate_left
                            ·simp only [putAll, Act.put, sA, sB, sC]
                             rfl
                            refine three_ (i := 11) (j := 12) (k := 16) (Ni := some 28) (Nj := some 29) (Nk := some 33) fz0_18 fz0_12 fz0_10 rfl rfl rfl rfl rfl rfl (three_of HT_.out (by kernel_rfl)) (by decide) (by decide) (by decide) (fun K hK => ?_) (fun K hK => ?_) (fun K hK => ?_)
                            ·skip
                             have hcv16 := own_string (P := Try.prog) Try.underlying23 Try.underlying5 Try.underlying9 (Kd.own_of_R HO232.out)
                             refine value_ (w1 := ?_) (v := ?_) (by rfl) rfl ?_ ?_
                             rotate_left 2
                             ·go_simp
                              constructor
                              ·rfl
                              ·rfl
                             clear hcv16
                             refine hK.out _ _ ⟨(blk_cell BK229.out 0).trans rfl, (blk_cell BK229.out 1).trans rfl, (blk_cell BK229.out 2).trans rfl⟩ (fun hHeld => ?_)
                             clear hK K
                             refine norm_ (a' := ?_) ?_ ?_
                             rotate_left
                             ·show Act.put _ (some 28) _ = _
                              simp only [Act.put, sA, sB, sC, i64_w, i32_w]
                              rfl
                             exact norm_ (by simp only [putAll, Act.put, sA, sB, sC] <;> rfl) (hJ10_11_15 (v231, v237) _ ⟨hHeld, HO232.out, HO238.out, HO_230001.out, BK229.out, HB.out⟩)
                            ·skip
                             refine R_make_step (Kd.int .u8) _ 5 (by rfl) (N := 29) rfl 23 _ _ rfl 62 rfl rfl Try.underlying23 (.int .u8 0) 1 info5 rfl (by decide) (by omega) 0 (ok := fun _ => True) (okp := fun _ => True) rfl (fun _ hk => hk) trivial (by omega) (by omega) (Below.refl _ _) (Nat.le_refl _) ?_
                             intro v234 w16 ho17 hb hg_ hnew_
                             clear hg_ hnew_
                             (first | rw [← Ny233.out] at ho17 | (simp only [Int.reduceToNat] at ho17; rw [← Ny233.out] at ho17))
                             have n0_ := Aside0.mk (R_below (by (with_reducible repeat (first | apply R_alloc | apply R_drewN | apply R_drew)); exact HO_230001.out) hb)
                             have n1_ := Aside0.mk (R_elder' (by (with_reducible repeat (first | apply R_alloc | apply R_drewN | apply R_drew)); exact HO232.out) (R_base ho17) hb)
                             have n2_ := Aside0.mk (R_elder' (by (with_reducible repeat (first | apply R_alloc | apply R_drewN | apply R_drew)); exact HO238.out) (R_base ho17) hb)
                             have n3_ := Aside0.mk (R_lower (R_new' (R_new' ho17 (R_lt (by (with_reducible repeat (first | apply R_alloc | apply R_drewN | apply R_drew)); exact HO232.out))) (R_lt (by (with_reducible repeat (first | apply R_alloc | apply R_drewN | apply R_drew)); exact HO238.out))) (below_size (by repeat (first | exact HB.out | apply below_alloc | apply pw_below_drewN | apply below_drew1 | refine below_set ?_ GE229.out))))
                             have n4_ := Aside0.mk (blk_below (g := gb229) (o := .cells #[.int .i64 1099511627775, .slice Ao9 x230001_1.length co9, .slice none 0 0] 28 (0, 0)) (by (with_reducible repeat (first | refine blk_drewN ?_ _ | refine blk_drew ?_ | refine blk_alloc ?_ _)); exact BK229.out) hb)
                             have n5_ := Aside0.mk (below_step (by repeat (first | exact HB.out | apply below_alloc | apply pw_below_drewN | apply below_drew1 | refine below_set ?_ GE229.out)) hb)
                             clear HO_230001
                             clear HO232
                             clear HO238
                             clear BK229
                             clear HB
                             have HO_230001 := n0_
                             have HO232 := n1_
                             have HO238 := n2_
                             have HO235 := n3_
                             have BK229 := n4_
                             have HB := n5_
                             clear n0_ n1_ n2_ n3_ n4_ n5_
                             clear hb ho17
                             refine hK.out _ _ ⟨(blk_cell BK229.out 0).trans rfl, (blk_cell BK229.out 1).trans rfl, (blk_cell BK229.out 2).trans rfl⟩ (fun hHeld => ?_)
                             clear hK K
                             refine norm_ (a' := ?_) ?_ ?_
                             rotate_left
                             ·show Act.put _ (some 29) _ = _
                              simp only [Act.put, sA, sB, sC, i64_w, i32_w]
                              rfl
                             exact norm_ (by simp only [putAll, Act.put, sA, sB, sC] <;> rfl) (hJ10_12_15 (v231, v234, v237) _ ⟨hHeld, (by (with_reducible repeat (first | apply R_alloc | apply R_drewN | apply R_drew)); exact R_mono HO232.out (fun _ hk => ⟨hk.2, hk.1⟩)), (by (with_reducible repeat (first | apply R_alloc | apply R_drewN | apply R_drew)); exact R_mono HO235.out (fun _ hk => ⟨hk.1.2, hk.2⟩)), HO238.out, HO_230001.out, BK229.out, HB.out⟩)
                            ·skip
                             have hcv16 := own_string (P := Try.prog) Try.underlying23 Try.underlying5 Try.underlying9 (Kd.own_of_R HO238.out)
                             refine value_ (w1 := ?_) (v := ?_) (by rfl) rfl ?_ ?_
                             rotate_left 2
                             ·go_simp
                              constructor
                              ·rfl
                              ·rfl
                             clear hcv16
                             refine hK.out _ _ ⟨(blk_cell BK229.out 0).trans rfl, (blk_cell BK229.out 1).trans rfl, (blk_cell BK229.out 2).trans rfl⟩ (fun hHeld => ?_)
                             clear hK K
                             refine norm_ (a' := ?_) ?_ ?_
                             rotate_left
                             ·show Act.put _ (some 33) _ = _
                              simp only [Act.put, sA, sB, sC, i64_w, i32_w]
                              rfl
                             exact norm_ (by simp only [putAll, Act.put, sA, sB, sC] <;> rfl) (hJ10_15_16 (v231, v237) _ ⟨hHeld, HO232.out, HO238.out, HO_230001.out, BK229.out, HB.out⟩)
                          ·skip
                           rintro ⟨v231, v234⟩ w15 ⟨hS_, h0_, h1_, h2_, h3_, h4_⟩
                           have n0_ : Aside0 (Kd.R (Kd.int .u8) 5 w15 w.heap.size (fun k_ => some k_ ≠ (v234 : Value).ownBlock) v231 y230) := ⟨h0_⟩
                           have n1_ : Aside0 (Kd.R (Kd.int .u8) 5 w15 w.heap.size (fun k_ => some k_ ≠ (v231 : Value).ownBlock) v234 y233) := ⟨h1_⟩
                           have n2_ : Aside0 (Kd.R k42 42 w15 w.heap.size (fun _ => True) (.slice Ao9 x230001_1.length co9) x230001_1) := ⟨h2_⟩
                           have n3_ : Aside0 (w15.heap[gb229]? = some (.cells #[.int .i64 1099511627775, .slice Ao9 x230001_1.length co9, .slice none 0 0] 28 (0, 0))) := ⟨h3_⟩
                           have n4_ : Aside0 (Below w.heap.size w w15) := ⟨h4_⟩
                           clear HO_230001
                           clear BK229
                           clear HB
                           clear h0_ h1_ h2_ h3_ h4_
                           have HO232 := n0_
                           have HO235 := n1_
                           have HO_230001 := n2_
                           have BK229 := n3_
                           have HB := n4_
                           clear n0_ n1_ n2_ n3_ n4_
                           have hHeld : w15.cell? ⟨gb229, 0, none⟩ = some (.int .i64 1099511627775) ∧ w15.cell? ⟨gb229, 1, none⟩ = some (.slice Ao9 x230001_1.length co9) ∧ w15.cell? ⟨gb229, 2, none⟩ = some (.slice none 0 0) := hS_
                           refine norm_ (a' := ?_) ?_ ?_
                           rotate_left
                           ·simp only [putAll, Act.put, sA, sB, sC]
                            rfl
                           refine three_ (i := 11) (j := 13) (k := 15) (Ni := some 28) (Nj := some 30) (Nk := some 32) fz0_20 fz0_14 fz0_12 rfl rfl rfl rfl rfl rfl (three_of HT_.out (by kernel_rfl)) (by decide) (by decide) (by decide) (fun K hK => ?_) (fun K hK => ?_) (fun K hK => ?_)
                           ·skip
                            have hcv16 := own_string (P := Try.prog) Try.underlying23 Try.underlying5 Try.underlying9 (Kd.own_of_R HO232.out)
                            refine value_ (w1 := ?_) (v := ?_) (by rfl) rfl ?_ ?_
                            rotate_left 2
                            ·go_simp
                             constructor
                             ·rfl
                             ·rfl
                            clear hcv16
                            refine hK.out _ _ ⟨(blk_cell BK229.out 0).trans rfl, (blk_cell BK229.out 1).trans rfl, (blk_cell BK229.out 2).trans rfl⟩ (fun hHeld => ?_)
                            clear hK K
                            refine norm_ (a' := ?_) ?_ ?_
                            rotate_left
                            ·show Act.put _ (some 28) _ = _
                             simp only [Act.put, sA, sB, sC, i64_w, i32_w]
                             rfl
                            exact norm_ (by simp only [putAll, Act.put, sA, sB, sC] <;> rfl) (hJ10_11_12 (v231, v234) _ ⟨hHeld, HO232.out, HO235.out, HO_230001.out, BK229.out, HB.out⟩)
                           ·skip
                            have hcv16 := own_string (P := Try.prog) Try.underlying23 Try.underlying5 Try.underlying9 (Kd.own_of_R HO235.out)
                            refine value_ (w1 := ?_) (v := ?_) (by rfl) rfl ?_ ?_
                            rotate_left 2
                            ·go_simp
                             constructor
                             ·rfl
                             ·rfl
                            clear hcv16
                            refine hK.out _ _ ⟨(blk_cell BK229.out 0).trans rfl, (blk_cell BK229.out 1).trans rfl, (blk_cell BK229.out 2).trans rfl⟩ (fun hHeld => ?_)
                            clear hK K
                            refine norm_ (a' := ?_) ?_ ?_
                            rotate_left
                            ·show Act.put _ (some 30) _ = _
                             simp only [Act.put, sA, sB, sC, i64_w, i32_w]
                             rfl
                            exact norm_ (by simp only [putAll, Act.put, sA, sB, sC] <;> rfl) (hJ10_12_13 (v231, v234) _ ⟨hHeld, HO232.out, HO235.out, HO_230001.out, BK229.out, HB.out⟩)
                           ·skip
                            refine R_make_step (Kd.int .u8) _ 5 (by rfl) (N := 32) rfl 23 _ _ rfl 256 rfl rfl Try.underlying23 (.int .u8 0) 1 info5 rfl (by decide) (by omega) 0 (ok := fun _ => True) (okp := fun _ => True) rfl (fun _ hk => hk) trivial (by omega) (by omega) (Below.refl _ _) (Nat.le_refl _) ?_
                            intro v237 w16 ho17 hb hg_ hnew_
                            clear hg_ hnew_
                            (first | rw [← Ny236.out] at ho17 | (simp only [Int.reduceToNat] at ho17; rw [← Ny236.out] at ho17))
                            have n0_ := Aside0.mk (R_below (by (with_reducible repeat (first | apply R_alloc | apply R_drewN | apply R_drew)); exact HO_230001.out) hb)
                            have n1_ := Aside0.mk (R_elder' (by (with_reducible repeat (first | apply R_alloc | apply R_drewN | apply R_drew)); exact HO232.out) (R_base ho17) hb)
                            have n2_ := Aside0.mk (R_elder' (by (with_reducible repeat (first | apply R_alloc | apply R_drewN | apply R_drew)); exact HO235.out) (R_base ho17) hb)
                            have n3_ := Aside0.mk (R_lower (R_new' (R_new' ho17 (R_lt (by (with_reducible repeat (first | apply R_alloc | apply R_drewN | apply R_drew)); exact HO232.out))) (R_lt (by (with_reducible repeat (first | apply R_alloc | apply R_drewN | apply R_drew)); exact HO235.out))) (below_size (by repeat (first | exact HB.out | apply below_alloc | apply pw_below_drewN | apply below_drew1 | refine below_set ?_ GE229.out))))
                            have n4_ := Aside0.mk (blk_below (g := gb229) (o := .cells #[.int .i64 1099511627775, .slice Ao9 x230001_1.length co9, .slice none 0 0] 28 (0, 0)) (by (with_reducible repeat (first | refine blk_drewN ?_ _ | refine blk_drew ?_ | refine blk_alloc ?_ _)); exact BK229.out) hb)
                            have n5_ := Aside0.mk (below_step (by repeat (first | exact HB.out | apply below_alloc | apply pw_below_drewN | apply below_drew1 | refine below_set ?_ GE229.out)) hb)
                            clear HO_230001
                            clear HO232
                            clear HO235
                            clear BK229
                            clear HB
                            have HO_230001 := n0_
                            have HO232 := n1_
                            have HO235 := n2_
                            have HO238 := n3_
                            have BK229 := n4_
                            have HB := n5_
                            clear n0_ n1_ n2_ n3_ n4_ n5_
                            clear hb ho17
                            refine hK.out _ _ ⟨(blk_cell BK229.out 0).trans rfl, (blk_cell BK229.out 1).trans rfl, (blk_cell BK229.out 2).trans rfl⟩ (fun hHeld => ?_)
                            clear hK K
                            refine norm_ (a' := ?_) ?_ ?_
                            rotate_left
                            ·show Act.put _ (some 32) _ = _
                             simp only [Act.put, sA, sB, sC, i64_w, i32_w]
                             rfl
                            exact norm_ (by simp only [putAll, Act.put, sA, sB, sC] <;> rfl) (hJ10_12_15 (v231, v234, v237) _ ⟨hHeld, HO232.out, HO235.out, (by (with_reducible repeat (first | apply R_alloc | apply R_drewN | apply R_drew)); exact R_mono HO238.out (fun _ hk => ⟨hk.1.2, hk.2⟩)), HO_230001.out, BK229.out, HB.out⟩)
                         ·skip
                          rintro v231 w14 ⟨hS_, h0_, h1_, h2_, h3_⟩
                          have n0_ : Aside0 (Kd.R (Kd.int .u8) 5 w14 w.heap.size (fun _ => True) v231 y230) := ⟨h0_⟩
                          have n1_ : Aside0 (Kd.R k42 42 w14 w.heap.size (fun _ => True) (.slice Ao9 x230001_1.length co9) x230001_1) := ⟨h1_⟩
                          have n2_ : Aside0 (w14.heap[gb229]? = some (.cells #[.int .i64 1099511627775, .slice Ao9 x230001_1.length co9, .slice none 0 0] 28 (0, 0))) := ⟨h2_⟩
                          have n3_ : Aside0 (Below w.heap.size w w14) := ⟨h3_⟩
                          clear HO_230001
                          clear BK229
                          clear HB
                          clear h0_ h1_ h2_ h3_
                          have HO232 := n0_
                          have HO_230001 := n1_
                          have BK229 := n2_
                          have HB := n3_
                          clear n0_ n1_ n2_ n3_
                          have hHeld : w14.cell? ⟨gb229, 0, none⟩ = some (.int .i64 1099511627775) ∧ w14.cell? ⟨gb229, 1, none⟩ = some (.slice Ao9 x230001_1.length co9) ∧ w14.cell? ⟨gb229, 2, none⟩ = some (.slice none 0 0) := hS_
                          refine norm_ (a' := ?_) ?_ ?_
                          rotate_left
                          ·simp only [putAll, Act.put, sA, sB, sC]
                           rfl
                          refine two_ (i := 12) (j := 15) (Ni := some 29) (Nj := some 32) fz0_20 fz0_18 rfl rfl rfl rfl (two_of HT_.out (by kernel_rfl)) (by decide) (by decide) (fun K hK => ?_) (fun K hK => ?_)
                          ·skip
                           refine R_make_step (Kd.int .u8) _ 5 (by rfl) (N := 29) rfl 23 _ _ rfl 62 rfl rfl Try.underlying23 (.int .u8 0) 1 info5 rfl (by decide) (by omega) 0 (ok := fun _ => True) (okp := fun _ => True) rfl (fun _ hk => hk) trivial (by omega) (by omega) (Below.refl _ _) (Nat.le_refl _) ?_
                           intro v234 w15 ho16 hb hg_ hnew_
                           clear hg_ hnew_
                           (first | rw [← Ny233.out] at ho16 | (simp only [Int.reduceToNat] at ho16; rw [← Ny233.out] at ho16))
                           have n0_ := Aside0.mk (R_below (by (with_reducible repeat (first | apply R_alloc | apply R_drewN | apply R_drew)); exact HO_230001.out) hb)
                           have n1_ := Aside0.mk (R_elder' (by (with_reducible repeat (first | apply R_alloc | apply R_drewN | apply R_drew)); exact HO232.out) (R_base ho16) hb)
                           have n2_ := Aside0.mk (R_lower (R_new' ho16 (R_lt (by (with_reducible repeat (first | apply R_alloc | apply R_drewN | apply R_drew)); exact HO232.out))) (below_size (by repeat (first | exact HB.out | apply below_alloc | apply pw_below_drewN | apply below_drew1 | refine below_set ?_ GE229.out))))
                           have n3_ := Aside0.mk (blk_below (g := gb229) (o := .cells #[.int .i64 1099511627775, .slice Ao9 x230001_1.length co9, .slice none 0 0] 28 (0, 0)) (by (with_reducible repeat (first | refine blk_drewN ?_ _ | refine blk_drew ?_ | refine blk_alloc ?_ _)); exact BK229.out) hb)
                           have n4_ := Aside0.mk (below_step (by repeat (first | exact HB.out | apply below_alloc | apply pw_below_drewN | apply below_drew1 | refine below_set ?_ GE229.out)) hb)
                           clear HO_230001
                           clear HO232
                           clear BK229
                           clear HB
                           have HO_230001 := n0_
                           have HO232 := n1_
                           have HO235 := n2_
                           have BK229 := n3_
                           have HB := n4_
                           clear n0_ n1_ n2_ n3_ n4_
                           clear hb ho16
                           refine hK.out _ _ ⟨(blk_cell BK229.out 0).trans rfl, (blk_cell BK229.out 1).trans rfl, (blk_cell BK229.out 2).trans rfl⟩ (fun hHeld => ?_)
                           clear hK K
                           refine norm_ (a' := ?_) ?_ ?_
                           rotate_left
                           ·show Act.put _ (some 29) _ = _
                            simp only [Act.put, sA, sB, sC, i64_w, i32_w]
                            rfl
                           exact norm_ (by simp only [putAll, Act.put, sA, sB, sC] <;> rfl) (hJ10_11_12 (v231, v234) _ ⟨hHeld, (by (with_reducible repeat (first | apply R_alloc | apply R_drewN | apply R_drew)); exact R_mono HO232.out (fun _ hk => hk.2)), (by (with_reducible repeat (first | apply R_alloc | apply R_drewN | apply R_drew)); exact R_mono HO235.out (fun _ hk => hk.2)), HO_230001.out, BK229.out, HB.out⟩)
                          ·skip
                           refine R_make_step (Kd.int .u8) _ 5 (by rfl) (N := 32) rfl 23 _ _ rfl 256 rfl rfl Try.underlying23 (.int .u8 0) 1 info5 rfl (by decide) (by omega) 0 (ok := fun _ => True) (okp := fun _ => True) rfl (fun _ hk => hk) trivial (by omega) (by omega) (Below.refl _ _) (Nat.le_refl _) ?_
                           intro v237 w15 ho16 hb hg_ hnew_
                           clear hg_ hnew_
                           (first | rw [← Ny236.out] at ho16 | (simp only [Int.reduceToNat] at ho16; rw [← Ny236.out] at ho16))
                           have n0_ := Aside0.mk (R_below (by (with_reducible repeat (first | apply R_alloc | apply R_drewN | apply R_drew)); exact HO_230001.out) hb)
                           have n1_ := Aside0.mk (R_elder' (by (with_reducible repeat (first | apply R_alloc | apply R_drewN | apply R_drew)); exact HO232.out) (R_base ho16) hb)
                           have n2_ := Aside0.mk (R_lower (R_new' ho16 (R_lt (by (with_reducible repeat (first | apply R_alloc | apply R_drewN | apply R_drew)); exact HO232.out))) (below_size (by repeat (first | exact HB.out | apply below_alloc | apply pw_below_drewN | apply below_drew1 | refine below_set ?_ GE229.out))))
                           have n3_ := Aside0.mk (blk_below (g := gb229) (o := .cells #[.int .i64 1099511627775, .slice Ao9 x230001_1.length co9, .slice none 0 0] 28 (0, 0)) (by (with_reducible repeat (first | refine blk_drewN ?_ _ | refine blk_drew ?_ | refine blk_alloc ?_ _)); exact BK229.out) hb)
                           have n4_ := Aside0.mk (below_step (by repeat (first | exact HB.out | apply below_alloc | apply pw_below_drewN | apply below_drew1 | refine below_set ?_ GE229.out)) hb)
                           clear HO_230001
                           clear HO232
                           clear BK229
                           clear HB
                           have HO_230001 := n0_
                           have HO232 := n1_
                           have HO238 := n2_
                           have BK229 := n3_
                           have HB := n4_
                           clear n0_ n1_ n2_ n3_ n4_
                           clear hb ho16
                           refine hK.out _ _ ⟨(blk_cell BK229.out 0).trans rfl, (blk_cell BK229.out 1).trans rfl, (blk_cell BK229.out 2).trans rfl⟩ (fun hHeld => ?_)
                           clear hK K
                           refine norm_ (a' := ?_) ?_ ?_
                           rotate_left
                           ·show Act.put _ (some 32) _ = _
                            simp only [Act.put, sA, sB, sC, i64_w, i32_w]
                            rfl
                           exact norm_ (by simp only [putAll, Act.put, sA, sB, sC] <;> rfl) (hJ10_11_15 (v231, v237) _ ⟨hHeld, (by (with_reducible repeat (first | apply R_alloc | apply R_drewN | apply R_drew)); exact R_mono HO232.out (fun _ hk => hk.2)), (by (with_reducible repeat (first | apply R_alloc | apply R_drewN | apply R_drew)); exact R_mono HO238.out (fun _ hk => hk.2)), HO_230001.out, BK229.out, HB.out⟩)
                        ·skip
                         rintro ⟨v234, v237⟩ w16 ⟨hS_, h0_, h1_, h2_, h3_, h4_⟩
                         have n0_ : Aside0 (Kd.R (Kd.int .u8) 5 w16 w.heap.size (fun k_ => some k_ ≠ (v237 : Value).ownBlock) v234 y233) := ⟨h0_⟩
                         have n1_ : Aside0 (Kd.R (Kd.int .u8) 5 w16 w.heap.size (fun k_ => some k_ ≠ (v234 : Value).ownBlock) v237 y236) := ⟨h1_⟩
                         have n2_ : Aside0 (Kd.R k42 42 w16 w.heap.size (fun _ => True) (.slice Ao9 x230001_1.length co9) x230001_1) := ⟨h2_⟩
                         have n3_ : Aside0 (w16.heap[gb229]? = some (.cells #[.int .i64 1099511627775, .slice Ao9 x230001_1.length co9, .slice none 0 0] 28 (0, 0))) := ⟨h3_⟩
                         have n4_ : Aside0 (Below w.heap.size w w16) := ⟨h4_⟩
                         clear HO_230001
                         clear BK229
                         clear HB
                         clear h0_ h1_ h2_ h3_ h4_
                         have HO235 := n0_
                         have HO238 := n1_
                         have HO_230001 := n2_
                         have BK229 := n3_
                         have HB := n4_
                         clear n0_ n1_ n2_ n3_ n4_
                         have hHeld : w16.cell? ⟨gb229, 0, none⟩ = some (.int .i64 1099511627775) ∧ w16.cell? ⟨gb229, 1, none⟩ = some (.slice Ao9 x230001_1.length co9) ∧ w16.cell? ⟨gb229, 2, none⟩ = some (.slice none 0 0) := hS_
                         refine norm_ (a' := ?_) ?_ ?_
                         rotate_left
                         ·simp only [putAll, Act.put, sA, sB, sC]
                          rfl
                         refine two_ (i := 10) (j := 13) (Ni := some 27) (Nj := some 30) fz0_13 fz0_7 rfl rfl rfl rfl (two_of HT_.out (by kernel_rfl)) (by decide) (by decide) (fun K hK => ?_) (fun K hK => ?_)
                         ·skip
                          refine R_lit_step (Kd.int .u8) _ 5 ?hg (N := 27) ?hd (xs := ([(wrap64 (97 + (wrap64 (Int.tdiv x4_1 26)))) % 256, (wrap64 (97 + (Int.tmod x4_1 26))) % 256] : List Int)) (inner := [.int .u8 ((wrap64 (97 + (wrap64 (Int.tdiv x4_1 26)))) % 256), .int .u8 ((wrap64 (97 + (Int.tmod x4_1 26))) % 256)]) (ok := fun _ => True) (okp := fun _ => True) ?hr ?hp (fun _ hk => hk) trivial (Below.refl _ _) (Nat.le_refl _) (by simp) ?_; (case hd => rfl); (case hg => rfl); (case hr => first | (go_simp; done) | (go_simp; rfl)); (case hp => exact (Reps.one (show Kd.M (Kd.int .u8) _ _ _ ((wrap64 (97 + (wrap64 (Int.tdiv x4_1 26)))) % 256) [.int .u8 ((wrap64 (97 + (wrap64 (Int.tdiv x4_1 26)))) % 256)] from rfl) (Reps.one (show Kd.M (Kd.int .u8) _ _ _ ((wrap64 (97 + (Int.tmod x4_1 26))) % 256) [.int .u8 ((wrap64 (97 + (Int.tmod x4_1 26))) % 256)] from rfl) (Reps.none _ _))))
                          intro v231 w17 ho18 hb hg_ hnew_
                          clear hg_ hnew_
                          (first | rw [← Ny230.out] at ho18 | (simp only [Int.reduceToNat] at ho18; rw [← Ny230.out] at ho18))
                          have n0_ := Aside0.mk (R_below (by (with_reducible repeat (first | apply R_alloc | apply R_drewN | apply R_drew)); exact HO_230001.out) hb)
                          have n1_ := Aside0.mk (R_elder' (by (with_reducible repeat (first | apply R_alloc | apply R_drewN | apply R_drew)); exact HO235.out) (R_base ho18) hb)
                          have n2_ := Aside0.mk (R_elder' (by (with_reducible repeat (first | apply R_alloc | apply R_drewN | apply R_drew)); exact HO238.out) (R_base ho18) hb)
                          have n3_ := Aside0.mk (R_lower (R_new' (R_new' ho18 (R_lt (by (with_reducible repeat (first | apply R_alloc | apply R_drewN | apply R_drew)); exact HO235.out))) (R_lt (by (with_reducible repeat (first | apply R_alloc | apply R_drewN | apply R_drew)); exact HO238.out))) (below_size (by repeat (first | exact HB.out | apply below_alloc | apply pw_below_drewN | apply below_drew1 | refine below_set ?_ GE229.out))))
                          have n4_ := Aside0.mk (blk_below (g := gb229) (o := .cells #[.int .i64 1099511627775, .slice Ao9 x230001_1.length co9, .slice none 0 0] 28 (0, 0)) (by (with_reducible repeat (first | refine blk_drewN ?_ _ | refine blk_drew ?_ | refine blk_alloc ?_ _)); exact BK229.out) hb)
                          have n5_ := Aside0.mk (below_step (by repeat (first | exact HB.out | apply below_alloc | apply pw_below_drewN | apply below_drew1 | refine below_set ?_ GE229.out)) hb)
                          clear HO_230001
                          clear HO235
                          clear HO238
                          clear BK229
                          clear HB
                          have HO_230001 := n0_
                          have HO235 := n1_
                          have HO238 := n2_
                          have HO232 := n3_
                          have BK229 := n4_
                          have HB := n5_
                          clear n0_ n1_ n2_ n3_ n4_ n5_
                          clear hb ho18
                          refine hK.out _ _ ⟨(blk_cell BK229.out 0).trans rfl, (blk_cell BK229.out 1).trans rfl, (blk_cell BK229.out 2).trans rfl⟩ (fun hHeld => ?_)
                          clear hK K
                          refine norm_ (a' := ?_) ?_ ?_
                          rotate_left
                          ·show Act.put _ (some 27) _ = _
                           simp only [Act.put, sA, sB, sC, i64_w, i32_w]
                           rfl
                          exact norm_ (by simp only [putAll, Act.put, sA, sB, sC] <;> rfl) (hJ10_12_15_16 (v231, v234, v237) _ ⟨hHeld, (by (with_reducible repeat (first | apply R_alloc | apply R_drewN | apply R_drew)); exact R_mono HO232.out (fun _ hk => ⟨hk.1.2, hk.2⟩)), (by (with_reducible repeat (first | apply R_alloc | apply R_drewN | apply R_drew)); exact R_mono HO235.out (fun _ hk => ⟨hk.2, hk.1⟩)), (by (with_reducible repeat (first | apply R_alloc | apply R_drewN | apply R_drew)); exact R_mono HO238.out (fun _ hk => ⟨hk.2, hk.1⟩)), HO_230001.out, BK229.out, HB.out⟩)
                         ·skip
                          have hcv17 := own_string (P := Try.prog) Try.underlying23 Try.underlying5 Try.underlying9 (Kd.own_of_R HO235.out)
                          refine value_ (w1 := ?_) (v := ?_) (by rfl) rfl ?_ ?_
                          rotate_left 2
                          ·go_simp
                           constructor
                           ·rfl
                           ·rfl
                          clear hcv17
                          refine hK.out _ _ ⟨(blk_cell BK229.out 0).trans rfl, (blk_cell BK229.out 1).trans rfl, (blk_cell BK229.out 2).trans rfl⟩ (fun hHeld => ?_)
                          clear hK K
                          refine norm_ (a' := ?_) ?_ ?_
                          rotate_left
                          ·show Act.put _ (some 30) _ = _
                           simp only [Act.put, sA, sB, sC, i64_w, i32_w]
                           rfl
                          exact norm_ (by simp only [putAll, Act.put, sA, sB, sC] <;> rfl) (hJ12_13_15_16 (v234, v237) _ ⟨hHeld, HO235.out, HO238.out, HO_230001.out, BK229.out, HB.out⟩)
                       ·skip
                        rintro ⟨v234, v237⟩ w16 ⟨hS_, h0_, h1_, h2_, h3_, h4_⟩
                        have n0_ : Aside0 (Kd.R (Kd.int .u8) 5 w16 w.heap.size (fun k_ => some k_ ≠ (v237 : Value).ownBlock) v234 y233) := ⟨h0_⟩
                        have n1_ : Aside0 (Kd.R (Kd.int .u8) 5 w16 w.heap.size (fun k_ => some k_ ≠ (v234 : Value).ownBlock) v237 y236) := ⟨h1_⟩
                        have n2_ : Aside0 (Kd.R k42 42 w16 w.heap.size (fun _ => True) (.slice Ao9 x230001_1.length co9) x230001_1) := ⟨h2_⟩
                        have n3_ : Aside0 (w16.heap[gb229]? = some (.cells #[.int .i64 1099511627775, .slice Ao9 x230001_1.length co9, .slice none 0 0] 28 (0, 0))) := ⟨h3_⟩
                        have n4_ : Aside0 (Below w.heap.size w w16) := ⟨h4_⟩
                        clear HO_230001
                        clear BK229
                        clear HB
                        clear h0_ h1_ h2_ h3_ h4_
                        have HO235 := n0_
                        have HO238 := n1_
                        have HO_230001 := n2_
                        have BK229 := n3_
                        have HB := n4_
                        clear n0_ n1_ n2_ n3_ n4_
                        have hHeld : w16.cell? ⟨gb229, 0, none⟩ = some (.int .i64 1099511627775) ∧ w16.cell? ⟨gb229, 1, none⟩ = some (.slice Ao9 x230001_1.length co9) ∧ w16.cell? ⟨gb229, 2, none⟩ = some (.slice none 0 0) := hS_
                        refine norm_ (a' := ?_) ?_ ?_
                        rotate_left
                        ·simp only [putAll, Act.put, sA, sB, sC]
                         rfl
                        refine two_ (i := 10) (j := 16) (Ni := some 27) (Nj := some 33) fz0_15 fz0_7 rfl rfl rfl rfl (two_of HT_.out (by kernel_rfl)) (by decide) (by decide) (fun K hK => ?_) (fun K hK => ?_)
                        ·skip
                         refine R_lit_step (Kd.int .u8) _ 5 ?hg (N := 27) ?hd (xs := ([(wrap64 (97 + (wrap64 (Int.tdiv x4_1 26)))) % 256, (wrap64 (97 + (Int.tmod x4_1 26))) % 256] : List Int)) (inner := [.int .u8 ((wrap64 (97 + (wrap64 (Int.tdiv x4_1 26)))) % 256), .int .u8 ((wrap64 (97 + (Int.tmod x4_1 26))) % 256)]) (ok := fun _ => True) (okp := fun _ => True) ?hr ?hp (fun _ hk => hk) trivial (Below.refl _ _) (Nat.le_refl _) (by simp) ?_; (case hd => rfl); (case hg => rfl); (case hr => first | (go_simp; done) | (go_simp; rfl)); (case hp => exact (Reps.one (show Kd.M (Kd.int .u8) _ _ _ ((wrap64 (97 + (wrap64 (Int.tdiv x4_1 26)))) % 256) [.int .u8 ((wrap64 (97 + (wrap64 (Int.tdiv x4_1 26)))) % 256)] from rfl) (Reps.one (show Kd.M (Kd.int .u8) _ _ _ ((wrap64 (97 + (Int.tmod x4_1 26))) % 256) [.int .u8 ((wrap64 (97 + (Int.tmod x4_1 26))) % 256)] from rfl) (Reps.none _ _))))
                         intro v231 w17 ho18 hb hg_ hnew_
                         clear hg_ hnew_
                         (first | rw [← Ny230.out] at ho18 | (simp only [Int.reduceToNat] at ho18; rw [← Ny230.out] at ho18))
                         have n0_ := Aside0.mk (R_below (by (with_reducible repeat (first | apply R_alloc | apply R_drewN | apply R_drew)); exact HO_230001.out) hb)
                         have n1_ := Aside0.mk (R_elder' (by (with_reducible repeat (first | apply R_alloc | apply R_drewN | apply R_drew)); exact HO235.out) (R_base ho18) hb)
                         have n2_ := Aside0.mk (R_elder' (by (with_reducible repeat (first | apply R_alloc | apply R_drewN | apply R_drew)); exact HO238.out) (R_base ho18) hb)
                         have n3_ := Aside0.mk (R_lower (R_new' (R_new' ho18 (R_lt (by (with_reducible repeat (first | apply R_alloc | apply R_drewN | apply R_drew)); exact HO235.out))) (R_lt (by (with_reducible repeat (first | apply R_alloc | apply R_drewN | apply R_drew)); exact HO238.out))) (below_size (by repeat (first | exact HB.out | apply below_alloc | apply pw_below_drewN | apply below_drew1 | refine below_set ?_ GE229.out))))
                         have n4_ := Aside0.mk (blk_below (g := gb229) (o := .cells #[.int .i64 1099511627775, .slice Ao9 x230001_1.length co9, .slice none 0 0] 28 (0, 0)) (by (with_reducible repeat (first | refine blk_drewN ?_ _ | refine blk_drew ?_ | refine blk_alloc ?_ _)); exact BK229.out) hb)
                         have n5_ := Aside0.mk (below_step (by repeat (first | exact HB.out | apply below_alloc | apply pw_below_drewN | apply below_drew1 | refine below_set ?_ GE229.out)) hb)
                         clear HO_230001
                         clear HO235
                         clear HO238
                         clear BK229
                         clear HB
                         have HO_230001 := n0_
                         have HO235 := n1_
                         have HO238 := n2_
                         have HO232 := n3_
                         have BK229 := n4_
                         have HB := n5_
                         clear n0_ n1_ n2_ n3_ n4_ n5_
                         clear hb ho18
                         refine hK.out _ _ ⟨(blk_cell BK229.out 0).trans rfl, (blk_cell BK229.out 1).trans rfl, (blk_cell BK229.out 2).trans rfl⟩ (fun hHeld => ?_)
                         clear hK K
                         refine norm_ (a' := ?_) ?_ ?_
                         rotate_left
                         ·show Act.put _ (some 27) _ = _
                          simp only [Act.put, sA, sB, sC, i64_w, i32_w]
                          rfl
                         exact norm_ (by simp only [putAll, Act.put, sA, sB, sC] <;> rfl) (hJ10_12_13_15 (v231, v234, v237) _ ⟨hHeld, (by (with_reducible repeat (first | apply R_alloc | apply R_drewN | apply R_drew)); exact R_mono HO232.out (fun _ hk => ⟨hk.1.2, hk.2⟩)), (by (with_reducible repeat (first | apply R_alloc | apply R_drewN | apply R_drew)); exact R_mono HO235.out (fun _ hk => ⟨hk.2, hk.1⟩)), (by (with_reducible repeat (first | apply R_alloc | apply R_drewN | apply R_drew)); exact R_mono HO238.out (fun _ hk => ⟨hk.2, hk.1⟩)), HO_230001.out, BK229.out, HB.out⟩)
                        ·skip
                         have hcv17 := own_string (P := Try.prog) Try.underlying23 Try.underlying5 Try.underlying9 (Kd.own_of_R HO238.out)
                         refine value_ (w1 := ?_) (v := ?_) (by rfl) rfl ?_ ?_
                         rotate_left 2
                         ·go_simp
                          constructor
                          ·rfl
                          ·rfl
                         clear hcv17
                         refine hK.out _ _ ⟨(blk_cell BK229.out 0).trans rfl, (blk_cell BK229.out 1).trans rfl, (blk_cell BK229.out 2).trans rfl⟩ (fun hHeld => ?_)
                         clear hK K
                         refine norm_ (a' := ?_) ?_ ?_
                         rotate_left
                         ·show Act.put _ (some 33) _ = _
                          simp only [Act.put, sA, sB, sC, i64_w, i32_w]
                          rfl
                         exact norm_ (by simp only [putAll, Act.put, sA, sB, sC] <;> rfl) (hJ12_13_15_16 (v234, v237) _ ⟨hHeld, HO235.out, HO238.out, HO_230001.out, BK229.out, HB.out⟩)
                      ·skip
                       rintro ⟨v231, v237⟩ w16 ⟨hS_, h0_, h1_, h2_, h3_, h4_⟩
                       have n0_ : Aside0 (Kd.R (Kd.int .u8) 5 w16 w.heap.size (fun k_ => some k_ ≠ (v237 : Value).ownBlock) v231 y230) := ⟨h0_⟩
                       have n1_ : Aside0 (Kd.R (Kd.int .u8) 5 w16 w.heap.size (fun k_ => some k_ ≠ (v231 : Value).ownBlock) v237 y236) := ⟨h1_⟩
                       have n2_ : Aside0 (Kd.R k42 42 w16 w.heap.size (fun _ => True) (.slice Ao9 x230001_1.length co9) x230001_1) := ⟨h2_⟩
                       have n3_ : Aside0 (w16.heap[gb229]? = some (.cells #[.int .i64 1099511627775, .slice Ao9 x230001_1.length co9, .slice none 0 0] 28 (0, 0))) := ⟨h3_⟩
                       have n4_ : Aside0 (Below w.heap.size w w16) := ⟨h4_⟩
                       clear HO_230001
                       clear BK229
                       clear HB
                       clear h0_ h1_ h2_ h3_ h4_
                       have HO232 := n0_
                       have HO238 := n1_
                       have HO_230001 := n2_
                       have BK229 := n3_
                       have HB := n4_
                       clear n0_ n1_ n2_ n3_ n4_
                       have hHeld : w16.cell? ⟨gb229, 0, none⟩ = some (.int .i64 1099511627775) ∧ w16.cell? ⟨gb229, 1, none⟩ = some (.slice Ao9 x230001_1.length co9) ∧ w16.cell? ⟨gb229, 2, none⟩ = some (.slice none 0 0) := hS_
                       refine norm_ (a' := ?_) ?_ ?_
                       rotate_left
                       ·simp only [putAll, Act.put, sA, sB, sC]
                        rfl
                       refine two_ (i := 11) (j := 12) (Ni := some 28) (Nj := some 29) fz0_19 fz0_13 rfl rfl rfl rfl (two_of HT_.out (by kernel_rfl)) (by decide) (by decide) (fun K hK => ?_) (fun K hK => ?_)
                       ·skip
                        have hcv17 := own_string (P := Try.prog) Try.underlying23 Try.underlying5 Try.underlying9 (Kd.own_of_R HO232.out)
                        refine value_ (w1 := ?_) (v := ?_) (by rfl) rfl ?_ ?_
                        rotate_left 2
                        ·go_simp
                         constructor
                         ·rfl
                         ·rfl
                        clear hcv17
                        refine hK.out _ _ ⟨(blk_cell BK229.out 0).trans rfl, (blk_cell BK229.out 1).trans rfl, (blk_cell BK229.out 2).trans rfl⟩ (fun hHeld => ?_)
                        clear hK K
                        refine norm_ (a' := ?_) ?_ ?_
                        rotate_left
                        ·show Act.put _ (some 28) _ = _
                         simp only [Act.put, sA, sB, sC, i64_w, i32_w]
                         rfl
                        exact norm_ (by simp only [putAll, Act.put, sA, sB, sC] <;> rfl) (hJ10_11_15_16 (v231, v237) _ ⟨hHeld, HO232.out, HO238.out, HO_230001.out, BK229.out, HB.out⟩)
                       ·skip
                        refine R_make_step (Kd.int .u8) _ 5 (by rfl) (N := 29) rfl 23 _ _ rfl 62 rfl rfl Try.underlying23 (.int .u8 0) 1 info5 rfl (by decide) (by omega) 0 (ok := fun _ => True) (okp := fun _ => True) rfl (fun _ hk => hk) trivial (by omega) (by omega) (Below.refl _ _) (Nat.le_refl _) ?_
                        intro v234 w17 ho18 hb hg_ hnew_
                        clear hg_ hnew_
                        (first | rw [← Ny233.out] at ho18 | (simp only [Int.reduceToNat] at ho18; rw [← Ny233.out] at ho18))
                        have n0_ := Aside0.mk (R_below (by (with_reducible repeat (first | apply R_alloc | apply R_drewN | apply R_drew)); exact HO_230001.out) hb)
                        have n1_ := Aside0.mk (R_elder' (by (with_reducible repeat (first | apply R_alloc | apply R_drewN | apply R_drew)); exact HO232.out) (R_base ho18) hb)
                        have n2_ := Aside0.mk (R_elder' (by (with_reducible repeat (first | apply R_alloc | apply R_drewN | apply R_drew)); exact HO238.out) (R_base ho18) hb)
                        have n3_ := Aside0.mk (R_lower (R_new' (R_new' ho18 (R_lt (by (with_reducible repeat (first | apply R_alloc | apply R_drewN | apply R_drew)); exact HO232.out))) (R_lt (by (with_reducible repeat (first | apply R_alloc | apply R_drewN | apply R_drew)); exact HO238.out))) (below_size (by repeat (first | exact HB.out | apply below_alloc | apply pw_below_drewN | apply below_drew1 | refine below_set ?_ GE229.out))))
                        have n4_ := Aside0.mk (blk_below (g := gb229) (o := .cells #[.int .i64 1099511627775, .slice Ao9 x230001_1.length co9, .slice none 0 0] 28 (0, 0)) (by (with_reducible repeat (first | refine blk_drewN ?_ _ | refine blk_drew ?_ | refine blk_alloc ?_ _)); exact BK229.out) hb)
                        have n5_ := Aside0.mk (below_step (by repeat (first | exact HB.out | apply below_alloc | apply pw_below_drewN | apply below_drew1 | refine below_set ?_ GE229.out)) hb)
                        clear HO_230001
                        clear HO232
                        clear HO238
                        clear BK229
                        clear HB
                        have HO_230001 := n0_
                        have HO232 := n1_
                        have HO238 := n2_
                        have HO235 := n3_
                        have BK229 := n4_
                        have HB := n5_
                        clear n0_ n1_ n2_ n3_ n4_ n5_
                        clear hb ho18
                        refine hK.out _ _ ⟨(blk_cell BK229.out 0).trans rfl, (blk_cell BK229.out 1).trans rfl, (blk_cell BK229.out 2).trans rfl⟩ (fun hHeld => ?_)
                        clear hK K
                        refine norm_ (a' := ?_) ?_ ?_
                        rotate_left
                        ·show Act.put _ (some 29) _ = _
                         simp only [Act.put, sA, sB, sC, i64_w, i32_w]
                         rfl
                        exact norm_ (by simp only [putAll, Act.put, sA, sB, sC] <;> rfl) (hJ10_12_15_16 (v231, v234, v237) _ ⟨hHeld, (by (with_reducible repeat (first | apply R_alloc | apply R_drewN | apply R_drew)); exact R_mono HO232.out (fun _ hk => ⟨hk.2, hk.1⟩)), (by (with_reducible repeat (first | apply R_alloc | apply R_drewN | apply R_drew)); exact R_mono HO235.out (fun _ hk => ⟨hk.1.2, hk.2⟩)), HO238.out, HO_230001.out, BK229.out, HB.out⟩)
                     ·skip
                      rintro ⟨v231, v234, v237⟩ w17 ⟨hS_, h0_, h1_, h2_, h3_, h4_, h5_⟩
                      have n0_ : Aside0 (Kd.R (Kd.int .u8) 5 w17 w.heap.size (fun k_ => some k_ ≠ (v234 : Value).ownBlock ∧ some k_ ≠ (v237 : Value).ownBlock) v231 y230) := ⟨h0_⟩
                      have n1_ : Aside0 (Kd.R (Kd.int .u8) 5 w17 w.heap.size (fun k_ => some k_ ≠ (v231 : Value).ownBlock ∧ some k_ ≠ (v237 : Value).ownBlock) v234 y233) := ⟨h1_⟩
                      have n2_ : Aside0 (Kd.R (Kd.int .u8) 5 w17 w.heap.size (fun k_ => some k_ ≠ (v231 : Value).ownBlock ∧ some k_ ≠ (v234 : Value).ownBlock) v237 y236) := ⟨h2_⟩
                      have n3_ : Aside0 (Kd.R k42 42 w17 w.heap.size (fun _ => True) (.slice Ao9 x230001_1.length co9) x230001_1) := ⟨h3_⟩
                      have n4_ : Aside0 (w17.heap[gb229]? = some (.cells #[.int .i64 1099511627775, .slice Ao9 x230001_1.length co9, .slice none 0 0] 28 (0, 0))) := ⟨h4_⟩
                      have n5_ : Aside0 (Below w.heap.size w w17) := ⟨h5_⟩
                      clear HO_230001
                      clear BK229
                      clear HB
                      clear h0_ h1_ h2_ h3_ h4_ h5_
                      have HO232 := n0_
                      have HO235 := n1_
                      have HO238 := n2_
                      have HO_230001 := n3_
                      have BK229 := n4_
                      have HB := n5_
                      clear n0_ n1_ n2_ n3_ n4_ n5_
                      have hHeld : w17.cell? ⟨gb229, 0, none⟩ = some (.int .i64 1099511627775) ∧ w17.cell? ⟨gb229, 1, none⟩ = some (.slice Ao9 x230001_1.length co9) ∧ w17.cell? ⟨gb229, 2, none⟩ = some (.slice none 0 0) := hS_
                      refine norm_ (a' := ?_) ?_ ?_
                      rotate_left
                      ·simp only [putAll, Act.put, sA, sB, sC]
                       rfl
                      refine three_ (i := 11) (j := 13) (k := 16) (Ni := some 28) (Nj := some 30) (Nk := some 33) fz0_21 fz0_15 fz0_13 rfl rfl rfl rfl rfl rfl (three_of HT_.out (by kernel_rfl)) (by decide) (by decide) (by decide) (fun K hK => ?_) (fun K hK => ?_) (fun K hK => ?_)
                      ·skip
                       have hcv18 := own_string (P := Try.prog) Try.underlying23 Try.underlying5 Try.underlying9 (Kd.own_of_R HO232.out)
                       refine value_ (w1 := ?_) (v := ?_) (by rfl) rfl ?_ ?_
                       rotate_left 2
                       ·go_simp
                        constructor
                        ·rfl
                        ·rfl
                       clear hcv18
                       refine hK.out _ _ ⟨(blk_cell BK229.out 0).trans rfl, (blk_cell BK229.out 1).trans rfl, (blk_cell BK229.out 2).trans rfl⟩ (fun hHeld => ?_)
                       clear hK K
                       refine norm_ (a' := ?_) ?_ ?_
                       rotate_left
                       ·show Act.put _ (some 28) _ = _
                        simp only [Act.put, sA, sB, sC, i64_w, i32_w]
                        rfl
                       exact norm_ (by simp only [putAll, Act.put, sA, sB, sC] <;> rfl) (hJ10_11_12_15 (v231, v234, v237) _ ⟨hHeld, HO232.out, HO235.out, HO238.out, HO_230001.out, BK229.out, HB.out⟩)
                      ·skip
                       have hcv18 := own_string (P := Try.prog) Try.underlying23 Try.underlying5 Try.underlying9 (Kd.own_of_R HO235.out)
                       refine value_ (w1 := ?_) (v := ?_) (by rfl) rfl ?_ ?_
                       rotate_left 2
                       ·go_simp
                        constructor
                        ·rfl
                        ·rfl
                       clear hcv18
                       refine hK.out _ _ ⟨(blk_cell BK229.out 0).trans rfl, (blk_cell BK229.out 1).trans rfl, (blk_cell BK229.out 2).trans rfl⟩ (fun hHeld => ?_)
                       clear hK K
                       refine norm_ (a' := ?_) ?_ ?_
                       rotate_left
                       ·show Act.put _ (some 30) _ = _
                        simp only [Act.put, sA, sB, sC, i64_w, i32_w]
                        rfl
                       exact norm_ (by simp only [putAll, Act.put, sA, sB, sC] <;> rfl) (hJ10_12_13_15 (v231, v234, v237) _ ⟨hHeld, HO232.out, HO235.out, HO238.out, HO_230001.out, BK229.out, HB.out⟩)
                      ·skip
                       have hcv18 := own_string (P := Try.prog) Try.underlying23 Try.underlying5 Try.underlying9 (Kd.own_of_R HO238.out)
                       refine value_ (w1 := ?_) (v := ?_) (by rfl) rfl ?_ ?_
                       rotate_left 2
                       ·go_simp
                        constructor
                        ·rfl
                        ·rfl
                       clear hcv18
                       refine hK.out _ _ ⟨(blk_cell BK229.out 0).trans rfl, (blk_cell BK229.out 1).trans rfl, (blk_cell BK229.out 2).trans rfl⟩ (fun hHeld => ?_)
                       clear hK K
                       refine norm_ (a' := ?_) ?_ ?_
                       rotate_left
                       ·show Act.put _ (some 33) _ = _
                        simp only [Act.put, sA, sB, sC, i64_w, i32_w]
                        rfl
                       exact norm_ (by simp only [putAll, Act.put, sA, sB, sC] <;> rfl) (hJ10_12_15_16 (v231, v234, v237) _ ⟨hHeld, HO232.out, HO235.out, HO238.out, HO_230001.out, BK229.out, HB.out⟩)
                    ·skip
                     rintro ⟨v231, v234⟩ w16 ⟨hS_, h0_, h1_, h2_, h3_, h4_⟩
                     have n0_ : Aside0 (Kd.R (Kd.int .u8) 5 w16 w.heap.size (fun k_ => some k_ ≠ (v234 : Value).ownBlock) v231 y230) := ⟨h0_⟩
                     have n1_ : Aside0 (Kd.R (Kd.int .u8) 5 w16 w.heap.size (fun k_ => some k_ ≠ (v231 : Value).ownBlock) v234 y233) := ⟨h1_⟩
                     have n2_ : Aside0 (Kd.R k42 42 w16 w.heap.size (fun _ => True) (.slice Ao9 x230001_1.length co9) x230001_1) := ⟨h2_⟩
                     have n3_ : Aside0 (w16.heap[gb229]? = some (.cells #[.int .i64 1099511627775, .slice Ao9 x230001_1.length co9, .slice none 0 0] 28 (0, 0))) := ⟨h3_⟩
                     have n4_ : Aside0 (Below w.heap.size w w16) := ⟨h4_⟩
                     clear HO_230001
                     clear BK229
                     clear HB
                     clear h0_ h1_ h2_ h3_ h4_
                     have HO232 := n0_
                     have HO235 := n1_
                     have HO_230001 := n2_
                     have BK229 := n3_
                     have HB := n4_
                     clear n0_ n1_ n2_ n3_ n4_
                     have hHeld : w16.cell? ⟨gb229, 0, none⟩ = some (.int .i64 1099511627775) ∧ w16.cell? ⟨gb229, 1, none⟩ = some (.slice Ao9 x230001_1.length co9) ∧ w16.cell? ⟨gb229, 2, none⟩ = some (.slice none 0 0) := hS_
                     refine norm_ (a' := ?_) ?_ ?_
                     rotate_left
                     ·simp only [putAll, Act.put, sA, sB, sC]
                      rfl
                     refine two_ (i := 11) (j := 15) (Ni := some 28) (Nj := some 32) fz0_23 fz0_15 rfl rfl rfl rfl (two_of HT_.out (by kernel_rfl)) (by decide) (by decide) (fun K hK => ?_) (fun K hK => ?_)
                     ·skip
                      have hcv17 := own_string (P := Try.prog) Try.underlying23 Try.underlying5 Try.underlying9 (Kd.own_of_R HO232.out)
                      refine value_ (w1 := ?_) (v := ?_) (by rfl) rfl ?_ ?_
                      rotate_left 2
                      ·go_simp
                       constructor
                       ·rfl
                       ·rfl
                      clear hcv17
                      refine hK.out _ _ ⟨(blk_cell BK229.out 0).trans rfl, (blk_cell BK229.out 1).trans rfl, (blk_cell BK229.out 2).trans rfl⟩ (fun hHeld => ?_)
                      clear hK K
                      refine norm_ (a' := ?_) ?_ ?_
                      rotate_left
                      ·show Act.put _ (some 28) _ = _
                       simp only [Act.put, sA, sB, sC, i64_w, i32_w]
                       rfl
                      refine pure_ (i := 14) (N := some 31) (v := ?_) (a' := ?_) fz0_26 rfl rfl (any_of HT_.out (by kernel_rfl)) (fun _ _ _ h => h) (Or.inl ⟨by rfl, ?_⟩) ?_ ?_
                      rotate_left
                      ·intro w'
                       go_simp
                       with_reducible rfl
                      rotate_left
                      ·simp only [Act.put, sA, sB, sC, i64_w, i32_w]
                       rfl
                      exact norm_ (by simp only [putAll, Act.put, sA, sB, sC] <;> rfl) (hJ10_11_12_13 (v231, v234) _ ⟨hHeld, HO232.out, HO235.out, HO_230001.out, BK229.out, HB.out⟩)
                     ·skip
                      refine R_make_step (Kd.int .u8) _ 5 (by rfl) (N := 32) rfl 23 _ _ rfl 256 rfl rfl Try.underlying23 (.int .u8 0) 1 info5 rfl (by decide) (by omega) 0 (ok := fun _ => True) (okp := fun _ => True) rfl (fun _ hk => hk) trivial (by omega) (by omega) (Below.refl _ _) (Nat.le_refl _) ?_
                      intro v237 w17 ho18 hb hg_ hnew_
                      clear hg_ hnew_
                      (first | rw [← Ny236.out] at ho18 | (simp only [Int.reduceToNat] at ho18; rw [← Ny236.out] at ho18))
                      have n0_ := Aside0.mk (R_below (by (with_reducible repeat (first | apply R_alloc | apply R_drewN | apply R_drew)); exact HO_230001.out) hb)
                      have n1_ := Aside0.mk (R_elder' (by (with_reducible repeat (first | apply R_alloc | apply R_drewN | apply R_drew)); exact HO232.out) (R_base ho18) hb)
                      have n2_ := Aside0.mk (R_elder' (by (with_reducible repeat (first | apply R_alloc | apply R_drewN | apply R_drew)); exact HO235.out) (R_base ho18) hb)
                      have n3_ := Aside0.mk (R_lower (R_new' (R_new' ho18 (R_lt (by (with_reducible repeat (first | apply R_alloc | apply R_drewN | apply R_drew)); exact HO232.out))) (R_lt (by (with_reducible repeat (first | apply R_alloc | apply R_drewN | apply R_drew)); exact HO235.out))) (below_size (by repeat (first | exact HB.out | apply below_alloc | apply pw_below_drewN | apply below_drew1 | refine below_set ?_ GE229.out))))
                      have n4_ := Aside0.mk (blk_below (g := gb229) (o := .cells #[.int .i64 1099511627775, .slice Ao9 x230001_1.length co9, .slice none 0 0] 28 (0, 0)) (by (with_reducible repeat (first | refine blk_drewN ?_ _ | refine blk_drew ?_ | refine blk_alloc ?_ _)); exact BK229.out) hb)
                      have n5_ := Aside0.mk (below_step (by repeat (first | exact HB.out | apply below_alloc | apply pw_below_drewN | apply below_drew1 | refine below_set ?_ GE229.out)) hb)
                      clear HO_230001
                      clear HO232
                      clear HO235
                      clear BK229
                      clear HB
                      have HO_230001 := n0_
                      have HO232 := n1_
                      have HO235 := n2_
                      have HO238 := n3_
                      have BK229 := n4_
                      have HB := n5_
                      clear n0_ n1_ n2_ n3_ n4_ n5_
                      clear hb ho18
                      refine hK.out _ _ ⟨(blk_cell BK229.out 0).trans rfl, (blk_cell BK229.out 1).trans rfl, (blk_cell BK229.out 2).trans rfl⟩ (fun hHeld => ?_)
                      clear hK K
                      refine norm_ (a' := ?_) ?_ ?_
                      rotate_left
                      ·show Act.put _ (some 32) _ = _
                       simp only [Act.put, sA, sB, sC, i64_w, i32_w]
                       rfl
                      exact norm_ (by simp only [putAll, Act.put, sA, sB, sC] <;> rfl) (hJ10_12_13_15 (v231, v234, v237) _ ⟨hHeld, HO232.out, HO235.out, (by (with_reducible repeat (first | apply R_alloc | apply R_drewN | apply R_drew)); exact R_mono HO238.out (fun _ hk => ⟨hk.1.2, hk.2⟩)), HO_230001.out, BK229.out, HB.out⟩)
                   ·skip
                    rintro ⟨v231, v237⟩ w16 ⟨hS_, h0_, h1_, h2_, h3_, h4_⟩
                    have n0_ : Aside0 (Kd.R (Kd.int .u8) 5 w16 w.heap.size (fun k_ => some k_ ≠ (v237 : Value).ownBlock) v231 y230) := ⟨h0_⟩
                    have n1_ : Aside0 (Kd.R (Kd.int .u8) 5 w16 w.heap.size (fun k_ => some k_ ≠ (v231 : Value).ownBlock) v237 y236) := ⟨h1_⟩
                    have n2_ : Aside0 (Kd.R k42 42 w16 w.heap.size (fun _ => True) (.slice Ao9 x230001_1.length co9) x230001_1) := ⟨h2_⟩
                    have n3_ : Aside0 (w16.heap[gb229]? = some (.cells #[.int .i64 1099511627775, .slice Ao9 x230001_1.length co9, .slice none 0 0] 28 (0, 0))) := ⟨h3_⟩
                    have n4_ : Aside0 (Below w.heap.size w w16) := ⟨h4_⟩
                    clear HO_230001
                    clear BK229
                    clear HB
                    clear h0_ h1_ h2_ h3_ h4_
                    have HO232 := n0_
                    have HO238 := n1_
                    have HO_230001 := n2_
                    have BK229 := n3_
                    have HB := n4_
                    clear n0_ n1_ n2_ n3_ n4_
                    have hHeld : w16.cell? ⟨gb229, 0, none⟩ = some (.int .i64 1099511627775) ∧ w16.cell? ⟨gb229, 1, none⟩ = some (.slice Ao9 x230001_1.length co9) ∧ w16.cell? ⟨gb229, 2, none⟩ = some (.slice none 0 0) := hS_
                    refine norm_ (a' := ?_) ?_ ?_
                    rotate_left
                    ·simp only [putAll, Act.put, sA, sB, sC]
                     rfl
                    refine two_ (i := 12) (j := 16) (Ni := some 29) (Nj := some 33) fz0_21 fz0_19 rfl rfl rfl rfl (two_of HT_.out (by kernel_rfl)) (by decide) (by decide) (fun K hK => ?_) (fun K hK => ?_)
                    ·skip
                     refine R_make_step (Kd.int .u8) _ 5 (by rfl) (N := 29) rfl 23 _ _ rfl 62 rfl rfl Try.underlying23 (.int .u8 0) 1 info5 rfl (by decide) (by omega) 0 (ok := fun _ => True) (okp := fun _ => True) rfl (fun _ hk => hk) trivial (by omega) (by omega) (Below.refl _ _) (Nat.le_refl _) ?_
                     intro v234 w17 ho18 hb hg_ hnew_
                     clear hg_ hnew_
                     (first | rw [← Ny233.out] at ho18 | (simp only [Int.reduceToNat] at ho18; rw [← Ny233.out] at ho18))
                     have n0_ := Aside0.mk (R_below (by (with_reducible repeat (first | apply R_alloc | apply R_drewN | apply R_drew)); exact HO_230001.out) hb)
                     have n1_ := Aside0.mk (R_elder' (by (with_reducible repeat (first | apply R_alloc | apply R_drewN | apply R_drew)); exact HO232.out) (R_base ho18) hb)
                     have n2_ := Aside0.mk (R_elder' (by (with_reducible repeat (first | apply R_alloc | apply R_drewN | apply R_drew)); exact HO238.out) (R_base ho18) hb)
                     have n3_ := Aside0.mk (R_lower (R_new' (R_new' ho18 (R_lt (by (with_reducible repeat (first | apply R_alloc | apply R_drewN | apply R_drew)); exact HO232.out))) (R_lt (by (with_reducible repeat (first | apply R_alloc | apply R_drewN | apply R_drew)); exact HO238.out))) (below_size (by repeat (first | exact HB.out | apply below_alloc | apply pw_below_drewN | apply below_drew1 | refine below_set ?_ GE229.out))))
                     have n4_ := Aside0.mk (blk_below (g := gb229) (o := .cells #[.int .i64 1099511627775, .slice Ao9 x230001_1.length co9, .slice none 0 0] 28 (0, 0)) (by (with_reducible repeat (first | refine blk_drewN ?_ _ | refine blk_drew ?_ | refine blk_alloc ?_ _)); exact BK229.out) hb)
                     have n5_ := Aside0.mk (below_step (by repeat (first | exact HB.out | apply below_alloc | apply pw_below_drewN | apply below_drew1 | refine below_set ?_ GE229.out)) hb)
                     clear HO_230001
                     clear HO232
                     clear HO238
                     clear BK229
                     clear HB
                     have HO_230001 := n0_
                     have HO232 := n1_
                     have HO238 := n2_
                     have HO235 := n3_
                     have BK229 := n4_
                     have HB := n5_
                     clear n0_ n1_ n2_ n3_ n4_ n5_
                     clear hb ho18
                     refine hK.out _ _ ⟨(blk_cell BK229.out 0).trans rfl, (blk_cell BK229.out 1).trans rfl, (blk_cell BK229.out 2).trans rfl⟩ (fun hHeld => ?_)
                     clear hK K
                     refine norm_ (a' := ?_) ?_ ?_
                     rotate_left
                     ·show Act.put _ (some 29) _ = _
                      simp only [Act.put, sA, sB, sC, i64_w, i32_w]
                      rfl
                     exact norm_ (by simp only [putAll, Act.put, sA, sB, sC] <;> rfl) (hJ10_11_12_15 (v231, v234, v237) _ ⟨hHeld, (by (with_reducible repeat (first | apply R_alloc | apply R_drewN | apply R_drew)); exact R_mono HO232.out (fun _ hk => ⟨hk.2, hk.1⟩)), (by (with_reducible repeat (first | apply R_alloc | apply R_drewN | apply R_drew)); exact R_mono HO235.out (fun _ hk => ⟨hk.1.2, hk.2⟩)), HO238.out, HO_230001.out, BK229.out, HB.out⟩)
                    ·skip
                     have hcv17 := own_string (P := Try.prog) Try.underlying23 Try.underlying5 Try.underlying9 (Kd.own_of_R HO238.out)
                     refine value_ (w1 := ?_) (v := ?_) (by rfl) rfl ?_ ?_
                     rotate_left 2
                     ·go_simp
                      constructor
                      ·rfl
                      ·rfl
                     clear hcv17
                     refine hK.out _ _ ⟨(blk_cell BK229.out 0).trans rfl, (blk_cell BK229.out 1).trans rfl, (blk_cell BK229.out 2).trans rfl⟩ (fun hHeld => ?_)
                     clear hK K
                     refine norm_ (a' := ?_) ?_ ?_
                     rotate_left
                     ·show Act.put _ (some 33) _ = _
                      simp only [Act.put, sA, sB, sC, i64_w, i32_w]
                      rfl
                     exact norm_ (by simp only [putAll, Act.put, sA, sB, sC] <;> rfl) (hJ10_11_15_16 (v231, v237) _ ⟨hHeld, HO232.out, HO238.out, HO_230001.out, BK229.out, HB.out⟩)
                  ·skip
                   rintro ⟨v231, v234⟩ w16 ⟨hS_, h0_, h1_, h2_, h3_, h4_⟩
                   have n0_ : Aside0 (Kd.R (Kd.int .u8) 5 w16 w.heap.size (fun k_ => some k_ ≠ (v234 : Value).ownBlock) v231 y230) := ⟨h0_⟩
                   have n1_ : Aside0 (Kd.R (Kd.int .u8) 5 w16 w.heap.size (fun k_ => some k_ ≠ (v231 : Value).ownBlock) v234 y233) := ⟨h1_⟩
                   have n2_ : Aside0 (Kd.R k42 42 w16 w.heap.size (fun _ => True) (.slice Ao9 x230001_1.length co9) x230001_1) := ⟨h2_⟩
                   have n3_ : Aside0 (w16.heap[gb229]? = some (.cells #[.int .i64 1099511627775, .slice Ao9 x230001_1.length co9, .slice none 0 0] 28 (0, 0))) := ⟨h3_⟩
                   have n4_ : Aside0 (Below w.heap.size w w16) := ⟨h4_⟩
                   clear HO_230001
                   clear BK229
                   clear HB
                   clear h0_ h1_ h2_ h3_ h4_
                   have HO232 := n0_
                   have HO235 := n1_
                   have HO_230001 := n2_
                   have BK229 := n3_
                   have HB := n4_
                   clear n0_ n1_ n2_ n3_ n4_
                   have hHeld : w16.cell? ⟨gb229, 0, none⟩ = some (.int .i64 1099511627775) ∧ w16.cell? ⟨gb229, 1, none⟩ = some (.slice Ao9 x230001_1.length co9) ∧ w16.cell? ⟨gb229, 2, none⟩ = some (.slice none 0 0) := hS_
                   refine norm_ (a' := ?_) ?_ ?_
                   rotate_left
                   ·simp only [putAll, Act.put, sA, sB, sC]
                    rfl
                   refine two_ (i := 13) (j := 15) (Ni := some 30) (Nj := some 32) fz0_23 fz0_21 rfl rfl rfl rfl (two_of HT_.out (by kernel_rfl)) (by decide) (by decide) (fun K hK => ?_) (fun K hK => ?_)
                   ·skip
                    have hcv17 := own_string (P := Try.prog) Try.underlying23 Try.underlying5 Try.underlying9 (Kd.own_of_R HO235.out)
                    refine value_ (w1 := ?_) (v := ?_) (by rfl) rfl ?_ ?_
                    rotate_left 2
                    ·go_simp
                     constructor
                     ·rfl
                     ·rfl
                    clear hcv17
                    refine hK.out _ _ ⟨(blk_cell BK229.out 0).trans rfl, (blk_cell BK229.out 1).trans rfl, (blk_cell BK229.out 2).trans rfl⟩ (fun hHeld => ?_)
                    clear hK K
                    refine norm_ (a' := ?_) ?_ ?_
                    rotate_left
                    ·show Act.put _ (some 30) _ = _
                     simp only [Act.put, sA, sB, sC, i64_w, i32_w]
                     rfl
                    refine pure_ (i := 14) (N := some 31) (v := ?_) (a' := ?_) fz0_26 rfl rfl (any_of HT_.out (by kernel_rfl)) (fun _ _ _ h => h) (Or.inl ⟨by rfl, ?_⟩) ?_ ?_
                    rotate_left
                    ·intro w'
                     go_simp
                     with_reducible rfl
                    rotate_left
                    ·simp only [Act.put, sA, sB, sC, i64_w, i32_w]
                     rfl
                    exact norm_ (by simp only [putAll, Act.put, sA, sB, sC] <;> rfl) (hJ10_11_12_13 (v231, v234) _ ⟨hHeld, HO232.out, HO235.out, HO_230001.out, BK229.out, HB.out⟩)
                   ·skip
                    refine R_make_step (Kd.int .u8) _ 5 (by rfl) (N := 32) rfl 23 _ _ rfl 256 rfl rfl Try.underlying23 (.int .u8 0) 1 info5 rfl (by decide) (by omega) 0 (ok := fun _ => True) (okp := fun _ => True) rfl (fun _ hk => hk) trivial (by omega) (by omega) (Below.refl _ _) (Nat.le_refl _) ?_
                    intro v237 w17 ho18 hb hg_ hnew_
                    clear hg_ hnew_
                    (first | rw [← Ny236.out] at ho18 | (simp only [Int.reduceToNat] at ho18; rw [← Ny236.out] at ho18))
                    have n0_ := Aside0.mk (R_below (by (with_reducible repeat (first | apply R_alloc | apply R_drewN | apply R_drew)); exact HO_230001.out) hb)
                    have n1_ := Aside0.mk (R_elder' (by (with_reducible repeat (first | apply R_alloc | apply R_drewN | apply R_drew)); exact HO232.out) (R_base ho18) hb)
                    have n2_ := Aside0.mk (R_elder' (by (with_reducible repeat (first | apply R_alloc | apply R_drewN | apply R_drew)); exact HO235.out) (R_base ho18) hb)
                    have n3_ := Aside0.mk (R_lower (R_new' (R_new' ho18 (R_lt (by (with_reducible repeat (first | apply R_alloc | apply R_drewN | apply R_drew)); exact HO232.out))) (R_lt (by (with_reducible repeat (first | apply R_alloc | apply R_drewN | apply R_drew)); exact HO235.out))) (below_size (by repeat (first | exact HB.out | apply below_alloc | apply pw_below_drewN | apply below_drew1 | refine below_set ?_ GE229.out))))
                    have n4_ := Aside0.mk (blk_below (g := gb229) (o := .cells #[.int .i64 1099511627775, .slice Ao9 x230001_1.length co9, .slice none 0 0] 28 (0, 0)) (by (with_reducible repeat (first | refine blk_drewN ?_ _ | refine blk_drew ?_ | refine blk_alloc ?_ _)); exact BK229.out) hb)
                    have n5_ := Aside0.mk (below_step (by repeat (first | exact HB.out | apply below_alloc | apply pw_below_drewN | apply below_drew1 | refine below_set ?_ GE229.out)) hb)
                    clear HO_230001
                    clear HO232
                    clear HO235
                    clear BK229
                    clear HB
                    have HO_230001 := n0_
                    have HO232 := n1_
                    have HO235 := n2_
                    have HO238 := n3_
                    have BK229 := n4_
                    have HB := n5_
                    clear n0_ n1_ n2_ n3_ n4_ n5_
                    clear hb ho18
                    refine hK.out _ _ ⟨(blk_cell BK229.out 0).trans rfl, (blk_cell BK229.out 1).trans rfl, (blk_cell BK229.out 2).trans rfl⟩ (fun hHeld => ?_)
                    clear hK K
                    refine norm_ (a' := ?_) ?_ ?_
                    rotate_left
                    ·show Act.put _ (some 32) _ = _
                     simp only [Act.put, sA, sB, sC, i64_w, i32_w]
                     rfl
                    exact norm_ (by simp only [putAll, Act.put, sA, sB, sC] <;> rfl) (hJ10_11_12_15 (v231, v234, v237) _ ⟨hHeld, HO232.out, HO235.out, (by (with_reducible repeat (first | apply R_alloc | apply R_drewN | apply R_drew)); exact R_mono HO238.out (fun _ hk => ⟨hk.1.2, hk.2⟩)), HO_230001.out, BK229.out, HB.out⟩)
                 ·skip
                  rintro ⟨v234, v237⟩ w17 ⟨hS_, h0_, h1_, h2_, h3_, h4_⟩
                  have n0_ : Aside0 (Kd.R (Kd.int .u8) 5 w17 w.heap.size (fun k_ => some k_ ≠ (v237 : Value).ownBlock) v234 y233) := ⟨h0_⟩
                  have n1_ : Aside0 (Kd.R (Kd.int .u8) 5 w17 w.heap.size (fun k_ => some k_ ≠ (v234 : Value).ownBlock) v237 y236) := ⟨h1_⟩
                  have n2_ : Aside0 (Kd.R k42 42 w17 w.heap.size (fun _ => True) (.slice Ao9 x230001_1.length co9) x230001_1) := ⟨h2_⟩
                  have n3_ : Aside0 (w17.heap[gb229]? = some (.cells #[.int .i64 1099511627775, .slice Ao9 x230001_1.length co9, .slice none 0 0] 28 (0, 0))) := ⟨h3_⟩
                  have n4_ : Aside0 (Below w.heap.size w w17) := ⟨h4_⟩
                  clear HO_230001
                  clear BK229
                  clear HB
                  clear h0_ h1_ h2_ h3_ h4_
                  have HO235 := n0_
                  have HO238 := n1_
                  have HO_230001 := n2_
                  have BK229 := n3_
                  have HB := n4_
                  clear n0_ n1_ n2_ n3_ n4_
                  have hHeld : w17.cell? ⟨gb229, 0, none⟩ = some (.int .i64 1099511627775) ∧ w17.cell? ⟨gb229, 1, none⟩ = some (.slice Ao9 x230001_1.length co9) ∧ w17.cell? ⟨gb229, 2, none⟩ = some (.slice none 0 0) := hS_
                  refine norm_ (a' := ?_) ?_ ?_
                  rotate_left
                  ·simp only [putAll, Act.put, sA, sB, sC]
                   rfl
                  refine one_ (i := 10) (N := some 27) fz0_16 rfl rfl (one_of HT_.out (by kernel_rfl)) (by decide) (fun K hK => ?_)
                  refine R_lit_step (Kd.int .u8) _ 5 ?hg (N := 27) ?hd (xs := ([(wrap64 (97 + (wrap64 (Int.tdiv x4_1 26)))) % 256, (wrap64 (97 + (Int.tmod x4_1 26))) % 256] : List Int)) (inner := [.int .u8 ((wrap64 (97 + (wrap64 (Int.tdiv x4_1 26)))) % 256), .int .u8 ((wrap64 (97 + (Int.tmod x4_1 26))) % 256)]) (ok := fun _ => True) (okp := fun _ => True) ?hr ?hp (fun _ hk => hk) trivial (Below.refl _ _) (Nat.le_refl _) (by simp) ?_; (case hd => rfl); (case hg => rfl); (case hr => first | (go_simp; done) | (go_simp; rfl)); (case hp => exact (Reps.one (show Kd.M (Kd.int .u8) _ _ _ ((wrap64 (97 + (wrap64 (Int.tdiv x4_1 26)))) % 256) [.int .u8 ((wrap64 (97 + (wrap64 (Int.tdiv x4_1 26)))) % 256)] from rfl) (Reps.one (show Kd.M (Kd.int .u8) _ _ _ ((wrap64 (97 + (Int.tmod x4_1 26))) % 256) [.int .u8 ((wrap64 (97 + (Int.tmod x4_1 26))) % 256)] from rfl) (Reps.none _ _))))
                  intro v231 w18 ho19 hb hg_ hnew_
                  clear hg_ hnew_
                  (first | rw [← Ny230.out] at ho19 | (simp only [Int.reduceToNat] at ho19; rw [← Ny230.out] at ho19))
                  have n0_ := Aside0.mk (R_below (by (with_reducible repeat (first | apply R_alloc | apply R_drewN | apply R_drew)); exact HO_230001.out) hb)
                  have n1_ := Aside0.mk (R_elder' (by (with_reducible repeat (first | apply R_alloc | apply R_drewN | apply R_drew)); exact HO235.out) (R_base ho19) hb)
                  have n2_ := Aside0.mk (R_elder' (by (with_reducible repeat (first | apply R_alloc | apply R_drewN | apply R_drew)); exact HO238.out) (R_base ho19) hb)
                  have n3_ := Aside0.mk (R_lower (R_new' (R_new' ho19 (R_lt (by (with_reducible repeat (first | apply R_alloc | apply R_drewN | apply R_drew)); exact HO235.out))) (R_lt (by (with_reducible repeat (first | apply R_alloc | apply R_drewN | apply R_drew)); exact HO238.out))) (below_size (by repeat (first | exact HB.out | apply below_alloc | apply pw_below_drewN | apply below_drew1 | refine below_set ?_ GE229.out))))
                  have n4_ := Aside0.mk (blk_below (g := gb229) (o := .cells #[.int .i64 1099511627775, .slice Ao9 x230001_1.length co9, .slice none 0 0] 28 (0, 0)) (by (with_reducible repeat (first | refine blk_drewN ?_ _ | refine blk_drew ?_ | refine blk_alloc ?_ _)); exact BK229.out) hb)
                  have n5_ := Aside0.mk (below_step (by repeat (first | exact HB.out | apply below_alloc | apply pw_below_drewN | apply below_drew1 | refine below_set ?_ GE229.out)) hb)
                  clear HO_230001
                  clear HO235
                  clear HO238
                  clear BK229
                  clear HB
                  have HO_230001 := n0_
                  have HO235 := n1_
                  have HO238 := n2_
                  have HO232 := n3_
                  have BK229 := n4_
                  have HB := n5_
                  clear n0_ n1_ n2_ n3_ n4_ n5_
                  clear hb ho19
                  refine hK.out _ _ ⟨(blk_cell BK229.out 0).trans rfl, (blk_cell BK229.out 1).trans rfl, (blk_cell BK229.out 2).trans rfl⟩ (fun hHeld => ?_)
                  clear hK K
                  refine norm_ (a' := ?_) ?_ ?_
                  rotate_left
                  ·show Act.put _ (some 27) _ = _
                   simp only [Act.put, sA, sB, sC, i64_w, i32_w]
                   rfl
                  exact norm_ (by simp only [putAll, Act.put, sA, sB, sC] <;> rfl) (hJ10_12_13_15_16 (v231, v234, v237) _ ⟨hHeld, (by (with_reducible repeat (first | apply R_alloc | apply R_drewN | apply R_drew)); exact R_mono HO232.out (fun _ hk => ⟨hk.1.2, hk.2⟩)), (by (with_reducible repeat (first | apply R_alloc | apply R_drewN | apply R_drew)); exact R_mono HO235.out (fun _ hk => ⟨hk.2, hk.1⟩)), (by (with_reducible repeat (first | apply R_alloc | apply R_drewN | apply R_drew)); exact R_mono HO238.out (fun _ hk => ⟨hk.2, hk.1⟩)), HO_230001.out, BK229.out, HB.out⟩)
                ·skip
                 rintro ⟨v231, v234, v237⟩ w18 ⟨hS_, h0_, h1_, h2_, h3_, h4_, h5_⟩
                 have n0_ : Aside0 (Kd.R (Kd.int .u8) 5 w18 w.heap.size (fun k_ => some k_ ≠ (v234 : Value).ownBlock ∧ some k_ ≠ (v237 : Value).ownBlock) v231 y230) := ⟨h0_⟩
                 have n1_ : Aside0 (Kd.R (Kd.int .u8) 5 w18 w.heap.size (fun k_ => some k_ ≠ (v231 : Value).ownBlock ∧ some k_ ≠ (v237 : Value).ownBlock) v234 y233) := ⟨h1_⟩
                 have n2_ : Aside0 (Kd.R (Kd.int .u8) 5 w18 w.heap.size (fun k_ => some k_ ≠ (v231 : Value).ownBlock ∧ some k_ ≠ (v234 : Value).ownBlock) v237 y236) := ⟨h2_⟩
                 have n3_ : Aside0 (Kd.R k42 42 w18 w.heap.size (fun _ => True) (.slice Ao9 x230001_1.length co9) x230001_1) := ⟨h3_⟩
                 have n4_ : Aside0 (w18.heap[gb229]? = some (.cells #[.int .i64 1099511627775, .slice Ao9 x230001_1.length co9, .slice none 0 0] 28 (0, 0))) := ⟨h4_⟩
                 have n5_ : Aside0 (Below w.heap.size w w18) := ⟨h5_⟩
                 clear HO_230001
                 clear BK229
                 clear HB
                 clear h0_ h1_ h2_ h3_ h4_ h5_
                 have HO232 := n0_
                 have HO235 := n1_
                 have HO238 := n2_
                 have HO_230001 := n3_
                 have BK229 := n4_
                 have HB := n5_
                 clear n0_ n1_ n2_ n3_ n4_ n5_
                 have hHeld : w18.cell? ⟨gb229, 0, none⟩ = some (.int .i64 1099511627775) ∧ w18.cell? ⟨gb229, 1, none⟩ = some (.slice Ao9 x230001_1.length co9) ∧ w18.cell? ⟨gb229, 2, none⟩ = some (.slice none 0 0) := hS_
                 refine norm_ (a' := ?_) ?_ ?_
                 rotate_left
                 ·simp only [putAll, Act.put, sA, sB, sC]
                  rfl
                 refine two_ (i := 11) (j := 13) (Ni := some 28) (Nj := some 30) fz0_22 fz0_16 rfl rfl rfl rfl (two_of HT_.out (by kernel_rfl)) (by decide) (by decide) (fun K hK => ?_) (fun K hK => ?_)
                 ·skip
                  have hcv19 := own_string (P := Try.prog) Try.underlying23 Try.underlying5 Try.underlying9 (Kd.own_of_R HO232.out)
                  refine value_ (w1 := ?_) (v := ?_) (by rfl) rfl ?_ ?_
                  rotate_left 2
                  ·go_simp
                   constructor
                   ·rfl
                   ·rfl
                  clear hcv19
                  refine hK.out _ _ ⟨(blk_cell BK229.out 0).trans rfl, (blk_cell BK229.out 1).trans rfl, (blk_cell BK229.out 2).trans rfl⟩ (fun hHeld => ?_)
                  clear hK K
                  refine norm_ (a' := ?_) ?_ ?_
                  rotate_left
                  ·show Act.put _ (some 28) _ = _
                   simp only [Act.put, sA, sB, sC, i64_w, i32_w]
                   rfl
                  exact norm_ (by simp only [putAll, Act.put, sA, sB, sC] <;> rfl) (hJ10_11_12_15_16 (v231, v234, v237) _ ⟨hHeld, HO232.out, HO235.out, HO238.out, HO_230001.out, BK229.out, HB.out⟩)
                 ·skip
                  have hcv19 := own_string (P := Try.prog) Try.underlying23 Try.underlying5 Try.underlying9 (Kd.own_of_R HO235.out)
                  refine value_ (w1 := ?_) (v := ?_) (by rfl) rfl ?_ ?_
                  rotate_left 2
                  ·go_simp
                   constructor
                   ·rfl
                   ·rfl
                  clear hcv19
                  refine hK.out _ _ ⟨(blk_cell BK229.out 0).trans rfl, (blk_cell BK229.out 1).trans rfl, (blk_cell BK229.out 2).trans rfl⟩ (fun hHeld => ?_)
                  clear hK K
                  refine norm_ (a' := ?_) ?_ ?_
                  rotate_left
                  ·show Act.put _ (some 30) _ = _
                   simp only [Act.put, sA, sB, sC, i64_w, i32_w]
                   rfl
                  exact norm_ (by simp only [putAll, Act.put, sA, sB, sC] <;> rfl) (hJ10_12_13_15_16 (v231, v234, v237) _ ⟨hHeld, HO232.out, HO235.out, HO238.out, HO_230001.out, BK229.out, HB.out⟩)
               ·skip
                rintro ⟨v231, v234, v237⟩ w18 ⟨hS_, h0_, h1_, h2_, h3_, h4_, h5_⟩
                have n0_ : Aside0 (Kd.R (Kd.int .u8) 5 w18 w.heap.size (fun k_ => some k_ ≠ (v234 : Value).ownBlock ∧ some k_ ≠ (v237 : Value).ownBlock) v231 y230) := ⟨h0_⟩
                have n1_ : Aside0 (Kd.R (Kd.int .u8) 5 w18 w.heap.size (fun k_ => some k_ ≠ (v231 : Value).ownBlock ∧ some k_ ≠ (v237 : Value).ownBlock) v234 y233) := ⟨h1_⟩
                have n2_ : Aside0 (Kd.R (Kd.int .u8) 5 w18 w.heap.size (fun k_ => some k_ ≠ (v231 : Value).ownBlock ∧ some k_ ≠ (v234 : Value).ownBlock) v237 y236) := ⟨h2_⟩
                have n3_ : Aside0 (Kd.R k42 42 w18 w.heap.size (fun _ => True) (.slice Ao9 x230001_1.length co9) x230001_1) := ⟨h3_⟩
                have n4_ : Aside0 (w18.heap[gb229]? = some (.cells #[.int .i64 1099511627775, .slice Ao9 x230001_1.length co9, .slice none 0 0] 28 (0, 0))) := ⟨h4_⟩
                have n5_ : Aside0 (Below w.heap.size w w18) := ⟨h5_⟩
                clear HO_230001
                clear BK229
                clear HB
                clear h0_ h1_ h2_ h3_ h4_ h5_
                have HO232 := n0_
                have HO235 := n1_
                have HO238 := n2_
                have HO_230001 := n3_
                have BK229 := n4_
                have HB := n5_
                clear n0_ n1_ n2_ n3_ n4_ n5_
                have hHeld : w18.cell? ⟨gb229, 0, none⟩ = some (.int .i64 1099511627775) ∧ w18.cell? ⟨gb229, 1, none⟩ = some (.slice Ao9 x230001_1.length co9) ∧ w18.cell? ⟨gb229, 2, none⟩ = some (.slice none 0 0) := hS_
                refine norm_ (a' := ?_) ?_ ?_
                rotate_left
                ·simp only [putAll, Act.put, sA, sB, sC]
                 rfl
                refine two_ (i := 11) (j := 16) (Ni := some 28) (Nj := some 33) fz0_24 fz0_16 rfl rfl rfl rfl (two_of HT_.out (by kernel_rfl)) (by decide) (by decide) (fun K hK => ?_) (fun K hK => ?_)
                ·skip
                 have hcv19 := own_string (P := Try.prog) Try.underlying23 Try.underlying5 Try.underlying9 (Kd.own_of_R HO232.out)
                 refine value_ (w1 := ?_) (v := ?_) (by rfl) rfl ?_ ?_
                 rotate_left 2
                 ·go_simp
                  constructor
                  ·rfl
                  ·rfl
                 clear hcv19
                 refine hK.out _ _ ⟨(blk_cell BK229.out 0).trans rfl, (blk_cell BK229.out 1).trans rfl, (blk_cell BK229.out 2).trans rfl⟩ (fun hHeld => ?_)
                 clear hK K
                 refine norm_ (a' := ?_) ?_ ?_
                 rotate_left
                 ·show Act.put _ (some 28) _ = _
                  simp only [Act.put, sA, sB, sC, i64_w, i32_w]
                  rfl
                 refine pure_ (i := 14) (N := some 31) (v := ?_) (a' := ?_) fz0_27 rfl rfl (any_of HT_.out (by kernel_rfl)) (fun _ _ _ h => h) (Or.inl ⟨by rfl, ?_⟩) ?_ ?_
                 rotate_left
                 ·intro w'
                  go_simp
                  with_reducible rfl
                 rotate_left
                 ·simp only [Act.put, sA, sB, sC, i64_w, i32_w]
                  rfl
                 exact norm_ (by simp only [putAll, Act.put, sA, sB, sC] <;> rfl) (hJ10_11_12_13_15 (v231, v234, v237) _ ⟨hHeld, HO232.out, HO235.out, HO238.out, HO_230001.out, BK229.out, HB.out⟩)
                ·skip
                 have hcv19 := own_string (P := Try.prog) Try.underlying23 Try.underlying5 Try.underlying9 (Kd.own_of_R HO238.out)
                 refine value_ (w1 := ?_) (v := ?_) (by rfl) rfl ?_ ?_
                 rotate_left 2
                 ·go_simp
                  constructor
                  ·rfl
                  ·rfl
                 clear hcv19
                 refine hK.out _ _ ⟨(blk_cell BK229.out 0).trans rfl, (blk_cell BK229.out 1).trans rfl, (blk_cell BK229.out 2).trans rfl⟩ (fun hHeld => ?_)
                 clear hK K
                 refine norm_ (a' := ?_) ?_ ?_
                 rotate_left
                 ·show Act.put _ (some 33) _ = _
                  simp only [Act.put, sA, sB, sC, i64_w, i32_w]
                  rfl
                 exact norm_ (by simp only [putAll, Act.put, sA, sB, sC] <;> rfl) (hJ10_12_13_15_16 (v231, v234, v237) _ ⟨hHeld, HO232.out, HO235.out, HO238.out, HO_230001.out, BK229.out, HB.out⟩)
              ·skip
               rintro ⟨v231, v237⟩ w17 ⟨hS_, h0_, h1_, h2_, h3_, h4_⟩
               have n0_ : Aside0 (Kd.R (Kd.int .u8) 5 w17 w.heap.size (fun k_ => some k_ ≠ (v237 : Value).ownBlock) v231 y230) := ⟨h0_⟩
               have n1_ : Aside0 (Kd.R (Kd.int .u8) 5 w17 w.heap.size (fun k_ => some k_ ≠ (v231 : Value).ownBlock) v237 y236) := ⟨h1_⟩
               have n2_ : Aside0 (Kd.R k42 42 w17 w.heap.size (fun _ => True) (.slice Ao9 x230001_1.length co9) x230001_1) := ⟨h2_⟩
               have n3_ : Aside0 (w17.heap[gb229]? = some (.cells #[.int .i64 1099511627775, .slice Ao9 x230001_1.length co9, .slice none 0 0] 28 (0, 0))) := ⟨h3_⟩
               have n4_ : Aside0 (Below w.heap.size w w17) := ⟨h4_⟩
               clear HO_230001
               clear BK229
               clear HB
               clear h0_ h1_ h2_ h3_ h4_
               have HO232 := n0_
               have HO238 := n1_
               have HO_230001 := n2_
               have BK229 := n3_
               have HB := n4_
               clear n0_ n1_ n2_ n3_ n4_
               have hHeld : w17.cell? ⟨gb229, 0, none⟩ = some (.int .i64 1099511627775) ∧ w17.cell? ⟨gb229, 1, none⟩ = some (.slice Ao9 x230001_1.length co9) ∧ w17.cell? ⟨gb229, 2, none⟩ = some (.slice none 0 0) := hS_
               refine norm_ (a' := ?_) ?_ ?_
               rotate_left
               ·simp only [putAll, Act.put, sA, sB, sC]
                rfl
               refine one_ (i := 12) (N := some 29) fz0_22 rfl rfl (one_of HT_.out (by kernel_rfl)) (by decide) (fun K hK => ?_)
               refine R_make_step (Kd.int .u8) _ 5 (by rfl) (N := 29) rfl 23 _ _ rfl 62 rfl rfl Try.underlying23 (.int .u8 0) 1 info5 rfl (by decide) (by omega) 0 (ok := fun _ => True) (okp := fun _ => True) rfl (fun _ hk => hk) trivial (by omega) (by omega) (Below.refl _ _) (Nat.le_refl _) ?_
               intro v234 w18 ho19 hb hg_ hnew_
               clear hg_ hnew_
               (first | rw [← Ny233.out] at ho19 | (simp only [Int.reduceToNat] at ho19; rw [← Ny233.out] at ho19))
               have n0_ := Aside0.mk (R_below (by (with_reducible repeat (first | apply R_alloc | apply R_drewN | apply R_drew)); exact HO_230001.out) hb)
               have n1_ := Aside0.mk (R_elder' (by (with_reducible repeat (first | apply R_alloc | apply R_drewN | apply R_drew)); exact HO232.out) (R_base ho19) hb)
               have n2_ := Aside0.mk (R_elder' (by (with_reducible repeat (first | apply R_alloc | apply R_drewN | apply R_drew)); exact HO238.out) (R_base ho19) hb)
               have n3_ := Aside0.mk (R_lower (R_new' (R_new' ho19 (R_lt (by (with_reducible repeat (first | apply R_alloc | apply R_drewN | apply R_drew)); exact HO232.out))) (R_lt (by (with_reducible repeat (first | apply R_alloc | apply R_drewN | apply R_drew)); exact HO238.out))) (below_size (by repeat (first | exact HB.out | apply below_alloc | apply pw_below_drewN | apply below_drew1 | refine below_set ?_ GE229.out))))
               have n4_ := Aside0.mk (blk_below (g := gb229) (o := .cells #[.int .i64 1099511627775, .slice Ao9 x230001_1.length co9, .slice none 0 0] 28 (0, 0)) (by (with_reducible repeat (first | refine blk_drewN ?_ _ | refine blk_drew ?_ | refine blk_alloc ?_ _)); exact BK229.out) hb)
               have n5_ := Aside0.mk (below_step (by repeat (first | exact HB.out | apply below_alloc | apply pw_below_drewN | apply below_drew1 | refine below_set ?_ GE229.out)) hb)
               clear HO_230001
               clear HO232
               clear HO238
               clear BK229
               clear HB
               have HO_230001 := n0_
               have HO232 := n1_
               have HO238 := n2_
               have HO235 := n3_
               have BK229 := n4_
               have HB := n5_
               clear n0_ n1_ n2_ n3_ n4_ n5_
               clear hb ho19
               refine hK.out _ _ ⟨(blk_cell BK229.out 0).trans rfl, (blk_cell BK229.out 1).trans rfl, (blk_cell BK229.out 2).trans rfl⟩ (fun hHeld => ?_)
               clear hK K
               refine norm_ (a' := ?_) ?_ ?_
               rotate_left
               ·show Act.put _ (some 29) _ = _
                simp only [Act.put, sA, sB, sC, i64_w, i32_w]
                rfl
               exact norm_ (by simp only [putAll, Act.put, sA, sB, sC] <;> rfl) (hJ10_11_12_15_16 (v231, v234, v237) _ ⟨hHeld, (by (with_reducible repeat (first | apply R_alloc | apply R_drewN | apply R_drew)); exact R_mono HO232.out (fun _ hk => ⟨hk.2, hk.1⟩)), (by (with_reducible repeat (first | apply R_alloc | apply R_drewN | apply R_drew)); exact R_mono HO235.out (fun _ hk => ⟨hk.1.2, hk.2⟩)), HO238.out, HO_230001.out, BK229.out, HB.out⟩)
             ·skip
              rintro ⟨v231, v234, v237⟩ w18 ⟨hS_, h0_, h1_, h2_, h3_, h4_, h5_⟩
              have n0_ : Aside0 (Kd.R (Kd.int .u8) 5 w18 w.heap.size (fun k_ => some k_ ≠ (v234 : Value).ownBlock ∧ some k_ ≠ (v237 : Value).ownBlock) v231 y230) := ⟨h0_⟩
              have n1_ : Aside0 (Kd.R (Kd.int .u8) 5 w18 w.heap.size (fun k_ => some k_ ≠ (v231 : Value).ownBlock ∧ some k_ ≠ (v237 : Value).ownBlock) v234 y233) := ⟨h1_⟩
              have n2_ : Aside0 (Kd.R (Kd.int .u8) 5 w18 w.heap.size (fun k_ => some k_ ≠ (v231 : Value).ownBlock ∧ some k_ ≠ (v234 : Value).ownBlock) v237 y236) := ⟨h2_⟩
              have n3_ : Aside0 (Kd.R k42 42 w18 w.heap.size (fun _ => True) (.slice Ao9 x230001_1.length co9) x230001_1) := ⟨h3_⟩
              have n4_ : Aside0 (w18.heap[gb229]? = some (.cells #[.int .i64 1099511627775, .slice Ao9 x230001_1.length co9, .slice none 0 0] 28 (0, 0))) := ⟨h4_⟩
              have n5_ : Aside0 (Below w.heap.size w w18) := ⟨h5_⟩
              clear HO_230001
              clear BK229
              clear HB
              clear h0_ h1_ h2_ h3_ h4_ h5_
              have HO232 := n0_
              have HO235 := n1_
              have HO238 := n2_
              have HO_230001 := n3_
              have BK229 := n4_
              have HB := n5_
              clear n0_ n1_ n2_ n3_ n4_ n5_
              have hHeld : w18.cell? ⟨gb229, 0, none⟩ = some (.int .i64 1099511627775) ∧ w18.cell? ⟨gb229, 1, none⟩ = some (.slice Ao9 x230001_1.length co9) ∧ w18.cell? ⟨gb229, 2, none⟩ = some (.slice none 0 0) := hS_
              refine norm_ (a' := ?_) ?_ ?_
              rotate_left
              ·simp only [putAll, Act.put, sA, sB, sC]
               rfl
              refine two_ (i := 13) (j := 16) (Ni := some 30) (Nj := some 33) fz0_24 fz0_22 rfl rfl rfl rfl (two_of HT_.out (by kernel_rfl)) (by decide) (by decide) (fun K hK => ?_) (fun K hK => ?_)
              ·skip
               have hcv19 := own_string (P := Try.prog) Try.underlying23 Try.underlying5 Try.underlying9 (Kd.own_of_R HO235.out)
               refine value_ (w1 := ?_) (v := ?_) (by rfl) rfl ?_ ?_
               rotate_left 2
               ·go_simp
                constructor
                ·rfl
                ·rfl
               clear hcv19
               refine hK.out _ _ ⟨(blk_cell BK229.out 0).trans rfl, (blk_cell BK229.out 1).trans rfl, (blk_cell BK229.out 2).trans rfl⟩ (fun hHeld => ?_)
               clear hK K
               refine norm_ (a' := ?_) ?_ ?_
               rotate_left
               ·show Act.put _ (some 30) _ = _
                simp only [Act.put, sA, sB, sC, i64_w, i32_w]
                rfl
               refine pure_ (i := 14) (N := some 31) (v := ?_) (a' := ?_) fz0_27 rfl rfl (any_of HT_.out (by kernel_rfl)) (fun _ _ _ h => h) (Or.inl ⟨by rfl, ?_⟩) ?_ ?_
               rotate_left
               ·intro w'
                go_simp
                with_reducible rfl
               rotate_left
               ·simp only [Act.put, sA, sB, sC, i64_w, i32_w]
                rfl
               exact norm_ (by simp only [putAll, Act.put, sA, sB, sC] <;> rfl) (hJ10_11_12_13_15 (v231, v234, v237) _ ⟨hHeld, HO232.out, HO235.out, HO238.out, HO_230001.out, BK229.out, HB.out⟩)
              ·skip
               have hcv19 := own_string (P := Try.prog) Try.underlying23 Try.underlying5 Try.underlying9 (Kd.own_of_R HO238.out)
               refine value_ (w1 := ?_) (v := ?_) (by rfl) rfl ?_ ?_
               rotate_left 2
               ·go_simp
                constructor
                ·rfl
                ·rfl
               clear hcv19
               refine hK.out _ _ ⟨(blk_cell BK229.out 0).trans rfl, (blk_cell BK229.out 1).trans rfl, (blk_cell BK229.out 2).trans rfl⟩ (fun hHeld => ?_)
               clear hK K
               refine norm_ (a' := ?_) ?_ ?_
               rotate_left
               ·show Act.put _ (some 33) _ = _
                simp only [Act.put, sA, sB, sC, i64_w, i32_w]
                rfl
               exact norm_ (by simp only [putAll, Act.put, sA, sB, sC] <;> rfl) (hJ10_11_12_15_16 (v231, v234, v237) _ ⟨hHeld, HO232.out, HO235.out, HO238.out, HO_230001.out, BK229.out, HB.out⟩)
            ·skip
             rintro ⟨v231, v234⟩ w17 ⟨hS_, h0_, h1_, h2_, h3_, h4_⟩
             have n0_ : Aside0 (Kd.R (Kd.int .u8) 5 w17 w.heap.size (fun k_ => some k_ ≠ (v234 : Value).ownBlock) v231 y230) := ⟨h0_⟩
             have n1_ : Aside0 (Kd.R (Kd.int .u8) 5 w17 w.heap.size (fun k_ => some k_ ≠ (v231 : Value).ownBlock) v234 y233) := ⟨h1_⟩
             have n2_ : Aside0 (Kd.R k42 42 w17 w.heap.size (fun _ => True) (.slice Ao9 x230001_1.length co9) x230001_1) := ⟨h2_⟩
             have n3_ : Aside0 (w17.heap[gb229]? = some (.cells #[.int .i64 1099511627775, .slice Ao9 x230001_1.length co9, .slice none 0 0] 28 (0, 0))) := ⟨h3_⟩
             have n4_ : Aside0 (Below w.heap.size w w17) := ⟨h4_⟩
             clear HO_230001
             clear BK229
             clear HB
             clear h0_ h1_ h2_ h3_ h4_
             have HO232 := n0_
             have HO235 := n1_
             have HO_230001 := n2_
             have BK229 := n3_
             have HB := n4_
             clear n0_ n1_ n2_ n3_ n4_
             have hHeld : w17.cell? ⟨gb229, 0, none⟩ = some (.int .i64 1099511627775) ∧ w17.cell? ⟨gb229, 1, none⟩ = some (.slice Ao9 x230001_1.length co9) ∧ w17.cell? ⟨gb229, 2, none⟩ = some (.slice none 0 0) := hS_
             refine norm_ (a' := ?_) ?_ ?_
             rotate_left
             ·simp only [putAll, Act.put, sA, sB, sC]
              rfl
             refine one_ (i := 15) (N := some 32) fz0_27 rfl rfl (one_of HT_.out (by kernel_rfl)) (by decide) (fun K hK => ?_)
             refine R_make_step (Kd.int .u8) _ 5 (by rfl) (N := 32) rfl 23 _ _ rfl 256 rfl rfl Try.underlying23 (.int .u8 0) 1 info5 rfl (by decide) (by omega) 0 (ok := fun _ => True) (okp := fun _ => True) rfl (fun _ hk => hk) trivial (by omega) (by omega) (Below.refl _ _) (Nat.le_refl _) ?_
             intro v237 w18 ho19 hb hg_ hnew_
             clear hg_ hnew_
             (first | rw [← Ny236.out] at ho19 | (simp only [Int.reduceToNat] at ho19; rw [← Ny236.out] at ho19))
             have n0_ := Aside0.mk (R_below (by (with_reducible repeat (first | apply R_alloc | apply R_drewN | apply R_drew)); exact HO_230001.out) hb)
             have n1_ := Aside0.mk (R_elder' (by (with_reducible repeat (first | apply R_alloc | apply R_drewN | apply R_drew)); exact HO232.out) (R_base ho19) hb)
             have n2_ := Aside0.mk (R_elder' (by (with_reducible repeat (first | apply R_alloc | apply R_drewN | apply R_drew)); exact HO235.out) (R_base ho19) hb)
             have n3_ := Aside0.mk (R_lower (R_new' (R_new' ho19 (R_lt (by (with_reducible repeat (first | apply R_alloc | apply R_drewN | apply R_drew)); exact HO232.out))) (R_lt (by (with_reducible repeat (first | apply R_alloc | apply R_drewN | apply R_drew)); exact HO235.out))) (below_size (by repeat (first | exact HB.out | apply below_alloc | apply pw_below_drewN | apply below_drew1 | refine below_set ?_ GE229.out))))
             have n4_ := Aside0.mk (blk_below (g := gb229) (o := .cells #[.int .i64 1099511627775, .slice Ao9 x230001_1.length co9, .slice none 0 0] 28 (0, 0)) (by (with_reducible repeat (first | refine blk_drewN ?_ _ | refine blk_drew ?_ | refine blk_alloc ?_ _)); exact BK229.out) hb)
             have n5_ := Aside0.mk (below_step (by repeat (first | exact HB.out | apply below_alloc | apply pw_below_drewN | apply below_drew1 | refine below_set ?_ GE229.out)) hb)
             clear HO_230001
             clear HO232
             clear HO235
             clear BK229
             clear HB
             have HO_230001 := n0_
             have HO232 := n1_
             have HO235 := n2_
             have HO238 := n3_
             have BK229 := n4_
             have HB := n5_
             clear n0_ n1_ n2_ n3_ n4_ n5_
             clear hb ho19
             refine hK.out _ _ ⟨(blk_cell BK229.out 0).trans rfl, (blk_cell BK229.out 1).trans rfl, (blk_cell BK229.out 2).trans rfl⟩ (fun hHeld => ?_)
             clear hK K
             refine norm_ (a' := ?_) ?_ ?_
             rotate_left
             ·show Act.put _ (some 32) _ = _
              simp only [Act.put, sA, sB, sC, i64_w, i32_w]
              rfl
             exact norm_ (by simp only [putAll, Act.put, sA, sB, sC] <;> rfl) (hJ10_11_12_13_15 (v231, v234, v237) _ ⟨hHeld, HO232.out, HO235.out, (by (with_reducible repeat (first | apply R_alloc | apply R_drewN | apply R_drew)); exact R_mono HO238.out (fun _ hk => ⟨hk.1.2, hk.2⟩)), HO_230001.out, BK229.out, HB.out⟩)
           ·skip
            rintro ⟨v231, v234, v237⟩ w19 ⟨hS_, h0_, h1_, h2_, h3_, h4_, h5_⟩
            have n0_ : Aside0 (Kd.R (Kd.int .u8) 5 w19 w.heap.size (fun k_ => some k_ ≠ (v234 : Value).ownBlock ∧ some k_ ≠ (v237 : Value).ownBlock) v231 y230) := ⟨h0_⟩
            have n1_ : Aside0 (Kd.R (Kd.int .u8) 5 w19 w.heap.size (fun k_ => some k_ ≠ (v231 : Value).ownBlock ∧ some k_ ≠ (v237 : Value).ownBlock) v234 y233) := ⟨h1_⟩
            have n2_ : Aside0 (Kd.R (Kd.int .u8) 5 w19 w.heap.size (fun k_ => some k_ ≠ (v231 : Value).ownBlock ∧ some k_ ≠ (v234 : Value).ownBlock) v237 y236) := ⟨h2_⟩
            have n3_ : Aside0 (Kd.R k42 42 w19 w.heap.size (fun _ => True) (.slice Ao9 x230001_1.length co9) x230001_1) := ⟨h3_⟩
            have n4_ : Aside0 (w19.heap[gb229]? = some (.cells #[.int .i64 1099511627775, .slice Ao9 x230001_1.length co9, .slice none 0 0] 28 (0, 0))) := ⟨h4_⟩
            have n5_ : Aside0 (Below w.heap.size w w19) := ⟨h5_⟩
            clear HO_230001
            clear BK229
            clear HB
            clear h0_ h1_ h2_ h3_ h4_ h5_
            have HO232 := n0_
            have HO235 := n1_
            have HO238 := n2_
            have HO_230001 := n3_
            have BK229 := n4_
            have HB := n5_
            clear n0_ n1_ n2_ n3_ n4_ n5_
            have hHeld : w19.cell? ⟨gb229, 0, none⟩ = some (.int .i64 1099511627775) ∧ w19.cell? ⟨gb229, 1, none⟩ = some (.slice Ao9 x230001_1.length co9) ∧ w19.cell? ⟨gb229, 2, none⟩ = some (.slice none 0 0) := hS_
            refine norm_ (a' := ?_) ?_ ?_
            rotate_left
            ·simp only [putAll, Act.put, sA, sB, sC]
             rfl
            refine one_ (i := 11) (N := some 28) fz0_25 rfl rfl (one_of HT_.out (by kernel_rfl)) (by decide) (fun K hK => ?_)
            have hcv20 := own_string (P := Try.prog) Try.underlying23 Try.underlying5 Try.underlying9 (Kd.own_of_R HO232.out)
            refine value_ (w1 := ?_) (v := ?_) (by rfl) rfl ?_ ?_
            rotate_left 2
            ·go_simp
             constructor
             ·rfl
             ·rfl
            clear hcv20
            refine hK.out _ _ ⟨(blk_cell BK229.out 0).trans rfl, (blk_cell BK229.out 1).trans rfl, (blk_cell BK229.out 2).trans rfl⟩ (fun hHeld => ?_)
            clear hK K
            refine norm_ (a' := ?_) ?_ ?_
            rotate_left
            ·show Act.put _ (some 28) _ = _
             simp only [Act.put, sA, sB, sC, i64_w, i32_w]
             rfl
            refine pure_ (i := 14) (N := some 31) (v := ?_) (a' := ?_) fz0_28 rfl rfl (any_of HT_.out (by kernel_rfl)) (fun _ _ _ h => h) (Or.inl ⟨by rfl, ?_⟩) ?_ ?_
            rotate_left
            ·intro w'
             go_simp
             with_reducible rfl
            rotate_left
            ·simp only [Act.put, sA, sB, sC, i64_w, i32_w]
             rfl
            exact norm_ (by simp only [putAll, Act.put, sA, sB, sC] <;> rfl) (hJ10_11_12_13_15_16 (v231, v234, v237) _ ⟨hHeld, HO232.out, HO235.out, HO238.out, HO_230001.out, BK229.out, HB.out⟩)
          ·skip
           rintro ⟨v231, v234, v237⟩ w19 ⟨hS_, h0_, h1_, h2_, h3_, h4_, h5_⟩
           have n0_ : Aside0 (Kd.R (Kd.int .u8) 5 w19 w.heap.size (fun k_ => some k_ ≠ (v234 : Value).ownBlock ∧ some k_ ≠ (v237 : Value).ownBlock) v231 y230) := ⟨h0_⟩
           have n1_ : Aside0 (Kd.R (Kd.int .u8) 5 w19 w.heap.size (fun k_ => some k_ ≠ (v231 : Value).ownBlock ∧ some k_ ≠ (v237 : Value).ownBlock) v234 y233) := ⟨h1_⟩
           have n2_ : Aside0 (Kd.R (Kd.int .u8) 5 w19 w.heap.size (fun k_ => some k_ ≠ (v231 : Value).ownBlock ∧ some k_ ≠ (v234 : Value).ownBlock) v237 y236) := ⟨h2_⟩
           have n3_ : Aside0 (Kd.R k42 42 w19 w.heap.size (fun _ => True) (.slice Ao9 x230001_1.length co9) x230001_1) := ⟨h3_⟩
           have n4_ : Aside0 (w19.heap[gb229]? = some (.cells #[.int .i64 1099511627775, .slice Ao9 x230001_1.length co9, .slice none 0 0] 28 (0, 0))) := ⟨h4_⟩
           have n5_ : Aside0 (Below w.heap.size w w19) := ⟨h5_⟩
           clear HO_230001
           clear BK229
           clear HB
           clear h0_ h1_ h2_ h3_ h4_ h5_
           have HO232 := n0_
           have HO235 := n1_
           have HO238 := n2_
           have HO_230001 := n3_
           have BK229 := n4_
           have HB := n5_
           clear n0_ n1_ n2_ n3_ n4_ n5_
           have hHeld : w19.cell? ⟨gb229, 0, none⟩ = some (.int .i64 1099511627775) ∧ w19.cell? ⟨gb229, 1, none⟩ = some (.slice Ao9 x230001_1.length co9) ∧ w19.cell? ⟨gb229, 2, none⟩ = some (.slice none 0 0) := hS_
           refine norm_ (a' := ?_) ?_ ?_
           rotate_left
           ·simp only [putAll, Act.put, sA, sB, sC]
            rfl
           refine one_ (i := 13) (N := some 30) fz0_25 rfl rfl (one_of HT_.out (by kernel_rfl)) (by decide) (fun K hK => ?_)
           have hcv20 := own_string (P := Try.prog) Try.underlying23 Try.underlying5 Try.underlying9 (Kd.own_of_R HO235.out)
           refine value_ (w1 := ?_) (v := ?_) (by rfl) rfl ?_ ?_
           rotate_left 2
           ·go_simp
            constructor
            ·rfl
            ·rfl
           clear hcv20
           refine hK.out _ _ ⟨(blk_cell BK229.out 0).trans rfl, (blk_cell BK229.out 1).trans rfl, (blk_cell BK229.out 2).trans rfl⟩ (fun hHeld => ?_)
           clear hK K
           refine norm_ (a' := ?_) ?_ ?_
           rotate_left
           ·show Act.put _ (some 30) _ = _
            simp only [Act.put, sA, sB, sC, i64_w, i32_w]
            rfl
           refine pure_ (i := 14) (N := some 31) (v := ?_) (a' := ?_) fz0_28 rfl rfl (any_of HT_.out (by kernel_rfl)) (fun _ _ _ h => h) (Or.inl ⟨by rfl, ?_⟩) ?_ ?_
           rotate_left
           ·intro w'
            go_simp
            with_reducible rfl
           rotate_left
           ·simp only [Act.put, sA, sB, sC, i64_w, i32_w]
            rfl
           exact norm_ (by simp only [putAll, Act.put, sA, sB, sC] <;> rfl) (hJ10_11_12_13_15_16 (v231, v234, v237) _ ⟨hHeld, HO232.out, HO235.out, HO238.out, HO_230001.out, BK229.out, HB.out⟩)
         ·skip
          rintro ⟨v231, v234, v237⟩ w19 ⟨hS_, h0_, h1_, h2_, h3_, h4_, h5_⟩
          have n0_ : Aside0 (Kd.R (Kd.int .u8) 5 w19 w.heap.size (fun k_ => some k_ ≠ (v234 : Value).ownBlock ∧ some k_ ≠ (v237 : Value).ownBlock) v231 y230) := ⟨h0_⟩
          have n1_ : Aside0 (Kd.R (Kd.int .u8) 5 w19 w.heap.size (fun k_ => some k_ ≠ (v231 : Value).ownBlock ∧ some k_ ≠ (v237 : Value).ownBlock) v234 y233) := ⟨h1_⟩
          have n2_ : Aside0 (Kd.R (Kd.int .u8) 5 w19 w.heap.size (fun k_ => some k_ ≠ (v231 : Value).ownBlock ∧ some k_ ≠ (v234 : Value).ownBlock) v237 y236) := ⟨h2_⟩
          have n3_ : Aside0 (Kd.R k42 42 w19 w.heap.size (fun _ => True) (.slice Ao9 x230001_1.length co9) x230001_1) := ⟨h3_⟩
          have n4_ : Aside0 (w19.heap[gb229]? = some (.cells #[.int .i64 1099511627775, .slice Ao9 x230001_1.length co9, .slice none 0 0] 28 (0, 0))) := ⟨h4_⟩
          have n5_ : Aside0 (Below w.heap.size w w19) := ⟨h5_⟩
          clear HO_230001
          clear BK229
          clear HB
          clear h0_ h1_ h2_ h3_ h4_ h5_
          have HO232 := n0_
          have HO235 := n1_
          have HO238 := n2_
          have HO_230001 := n3_
          have BK229 := n4_
          have HB := n5_
          clear n0_ n1_ n2_ n3_ n4_ n5_
          have hHeld : w19.cell? ⟨gb229, 0, none⟩ = some (.int .i64 1099511627775) ∧ w19.cell? ⟨gb229, 1, none⟩ = some (.slice Ao9 x230001_1.length co9) ∧ w19.cell? ⟨gb229, 2, none⟩ = some (.slice none 0 0) := hS_
          refine norm_ (a' := ?_) ?_ ?_
          rotate_left
          ·simp only [putAll, Act.put, sA, sB, sC]
           rfl
          refine one_ (i := 16) (N := some 33) fz0_28 rfl rfl (one_of HT_.out (by kernel_rfl)) (by decide) (fun K hK => ?_)
          have hcv20 := own_string (P := Try.prog) Try.underlying23 Try.underlying5 Try.underlying9 (Kd.own_of_R HO238.out)
          refine value_ (w1 := ?_) (v := ?_) (by rfl) rfl ?_ ?_
          rotate_left 2
          ·go_simp
           constructor
           ·rfl
           ·rfl
          clear hcv20
          refine hK.out _ _ ⟨(blk_cell BK229.out 0).trans rfl, (blk_cell BK229.out 1).trans rfl, (blk_cell BK229.out 2).trans rfl⟩ (fun hHeld => ?_)
          clear hK K
          refine norm_ (a' := ?_) ?_ ?_
          rotate_left
          ·show Act.put _ (some 33) _ = _
           simp only [Act.put, sA, sB, sC, i64_w, i32_w]
           rfl
          exact norm_ (by simp only [putAll, Act.put, sA, sB, sC] <;> rfl) (hJ10_11_12_13_15_16 (v231, v234, v237) _ ⟨hHeld, HO232.out, HO235.out, HO238.out, HO_230001.out, BK229.out, HB.out⟩)
        rintro ⟨v231, v234, v237⟩ w20 ⟨hS_, h0_, h1_, h2_, h3_, h4_, h5_⟩
        have n0_ : Aside0 (Kd.R (Kd.int .u8) 5 w20 w.heap.size (fun k_ => some k_ ≠ (v234 : Value).ownBlock ∧ some k_ ≠ (v237 : Value).ownBlock) v231 y230) := ⟨h0_⟩
        have n1_ : Aside0 (Kd.R (Kd.int .u8) 5 w20 w.heap.size (fun k_ => some k_ ≠ (v231 : Value).ownBlock ∧ some k_ ≠ (v237 : Value).ownBlock) v234 y233) := ⟨h1_⟩
        have n2_ : Aside0 (Kd.R (Kd.int .u8) 5 w20 w.heap.size (fun k_ => some k_ ≠ (v231 : Value).ownBlock ∧ some k_ ≠ (v234 : Value).ownBlock) v237 y236) := ⟨h2_⟩
        have n3_ : Aside0 (Kd.R k42 42 w20 w.heap.size (fun _ => True) (.slice Ao9 x230001_1.length co9) x230001_1) := ⟨h3_⟩
        have n4_ : Aside0 (w20.heap[gb229]? = some (.cells #[.int .i64 1099511627775, .slice Ao9 x230001_1.length co9, .slice none 0 0] 28 (0, 0))) := ⟨h4_⟩
        have n5_ : Aside0 (Below w.heap.size w w20) := ⟨h5_⟩
        clear HO_230001
        clear BK229
        clear HB
        clear h0_ h1_ h2_ h3_ h4_ h5_
        have HO232 := n0_
        have HO235 := n1_
        have HO238 := n2_
        have HO_230001 := n3_
        have BK229 := n4_
        have HB := n5_
        clear n0_ n1_ n2_ n3_ n4_ n5_
        have hHeld : w20.cell? ⟨gb229, 0, none⟩ = some (.int .i64 1099511627775) ∧ w20.cell? ⟨gb229, 1, none⟩ = some (.slice Ao9 x230001_1.length co9) ∧ w20.cell? ⟨gb229, 2, none⟩ = some (.slice none 0 0) := hS_
        refine norm_ (a' := ?_) ?_ ?_
        rotate_left
        ·simp only [putAll, Act.put, sA, sB, sC]
         rfl
        refine pure_ (i := 17) (N := some 34) (v := ?_) (a' := ?_) #[true, true, true, true, true, true, true, true, true, true, true, true, true, true, true, true, true, true, false, false, false, false] rfl rfl (any_of HT_.out (by kernel_rfl)) (fun _ _ _ h => h) (Or.inl ⟨by rfl, ?_⟩) ?_ ?_
        rotate_left
        ·intro w'
         go_simp
         with_reducible rfl
        rotate_left
        ·simp only [Act.put, sA, sB, sC, i64_w, i32_w]
         rfl
        refine one_ (i := 18) (N := some 35) #[true, true, true, true, true, true, true, true, true, true, true, true, true, true, true, true, true, true, true, false, false, false] rfl rfl (one_of HT_.out (by kernel_rfl)) (by decide) (fun K hK => ?_)
        refine value_ (w1 := ?_) (v := ?_) (by rfl) rfl ?_ ?_
        rotate_left 2
        ·go_simp
         constructor
         ·rfl
         ·rfl
        refine hK.out _ _ ⟨(blk_cell (blk_alloc BK229.out _) 0).trans rfl, (blk_cell (blk_alloc BK229.out _) 1).trans rfl, (blk_cell (blk_alloc BK229.out _) 2).trans rfl⟩ (fun hHeld => ?_)
        clear hK K
        refine norm_ (a' := ?_) ?_ ?_
        rotate_left
        ·show Act.put _ (some 35) _ = _
         simp only [Act.put, sA, sB, sC, i64_w, i32_w]
         rfl
        refine one_ (i := 19) (N := some 36) #[true, true, true, true, true, true, true, true, true, true, true, true, true, true, true, true, true, true, true, true, false, false] rfl rfl (one_of HT_.out (by kernel_rfl)) (by decide) (fun K hK => ?_)
        refine R_append_step k42 (w0 := w) w.heap.size (by rfl) (.tmp 18) (.tmp 35) 25 42 (.agg #[(.string ⟨#[]⟩), (.string ⟨#[]⟩)]) 32 rfl Try.underlying25 info42 rfl (by decide) (by omega) (.slice Ao9 x230001_1.length co9) x230001_1 (⟨(strOfNums y230) ++ (strOfNums y233), strOfNums y236⟩ : S42) [.string ((strOfNums y230) ++ (strOfNums y233)), .string (strOfNums y236)] (fun _ => True) (fun _ => False) rfl rfl ?aP (fun _ hk => hk.elim) ?aF ?aO ?aB ?aS ?aL ?_
        (case aP => exact k42_mkM _ _ _ (⟨(strOfNums y230) ++ (strOfNums y233), strOfNums y236⟩ : S42))
        (case aB => exact (by repeat (first | exact HB.out | apply below_alloc | apply pw_below_drewN | apply below_drew1 | refine below_set ?_ GE229.out)))
        (case aF => exact (fun _ _ => trivial))
        (case aO => exact (by (with_reducible repeat (first | apply R_alloc | apply R_drewN | apply R_drew)); exact HO_230001.out))
        (case aS => exact (below_size (by repeat (first | exact HB.out | apply below_alloc | apply pw_below_drewN | apply below_drew1 | refine below_set ?_ GE229.out))))
        (case aL => have := LMc8.out; omega)
        intro v240 w21 ho hb hg hat
        rw [← Ny239.out] at ho
        have n0_ := Aside0.mk (blk_grown (g := gb229) (o := .cells #[.int .i64 1099511627775, .slice Ao9 x230001_1.length co9, .slice none 0 0] 28 (0, 0)) (by (with_reducible repeat (first | refine blk_drewN ?_ _ | refine blk_drew ?_ | refine blk_alloc ?_ _)); exact BK229.out) hg (R_ne HO_230001.out BK229.out (by decide)))
        have n1_ := Aside0.mk (R_over' (by (with_reducible repeat (first | apply R_alloc | apply R_drewN | apply R_drew)); exact HO232.out) (R_typed (by (with_reducible repeat (first | apply R_alloc | apply R_drewN | apply R_drew)); exact HO_230001.out)) (by decide) hg)
        have n2_ := Aside0.mk (R_over' (by (with_reducible repeat (first | apply R_alloc | apply R_drewN | apply R_drew)); exact HO235.out) (R_typed (by (with_reducible repeat (first | apply R_alloc | apply R_drewN | apply R_drew)); exact HO_230001.out)) (by decide) hg)
        have n3_ := Aside0.mk (R_over' (by (with_reducible repeat (first | apply R_alloc | apply R_drewN | apply R_drew)); exact HO238.out) (R_typed (by (with_reducible repeat (first | apply R_alloc | apply R_drewN | apply R_drew)); exact HO_230001.out)) (by decide) hg)
        have n4_ := Aside0.mk (hb)
        have n5_ := Aside0.mk (ho)
        clear BK229
        clear HO232
        clear HO235
        clear HO238
        clear HB
        clear HO_230001
        have BK229 := n0_
        have HO232 := n1_
        have HO235 := n2_
        have HO238 := n3_
        have HB := n4_
        have HO241 := n5_
        clear n0_ n1_ n2_ n3_ n4_ n5_
        clear ho hb hg hat
        obtain ⟨Ao22, co22, eo22⟩ := R_slice HO241.out
        (first | subst eo22 | (injection eo22 with f1_ f2_ f3_; have f4_ := f1_.symm; have f5_ := f3_.symm; clear f1_ f2_ f3_; subst f4_; subst f5_))
        refine hK.out _ _ ⟨(blk_cell BK229.out 0).trans rfl, (blk_cell BK229.out 1).trans rfl, (blk_cell BK229.out 2).trans rfl⟩ (fun hHeld => ?_)
        clear hK K
        refine norm_ (a' := ?_) ?_ ?_
        rotate_left
        ·show Act.put _ (some 36) _ = _
         simp only [Act.put, sA, sB, sC, i64_w, i32_w]
         rfl
        refine pure_ (i := 20) (N := some 37) (v := ?_) (a' := ?_) #[true, true, true, true, true, true, true, true, true, true, true, true, true, true, true, true, true, true, true, true, true, false] rfl rfl (any_of HT_.out (by kernel_rfl)) (fun _ _ _ h => h) (Or.inl ⟨by rfl, ?_⟩) ?_ ?_
        rotate_left
        ·intro w'
         go_simp
         with_reducible rfl
        rotate_left
        ·simp only [Act.put, sA, sB, sC, i64_w, i32_w]
         rfl
        refine last_ (i := 21) (N := none) #[true, true, true, true, true, true, true, true, true, true, true, true, true, true, true, true, true, true, true, true, true, true] rfl rfl (one_of HT_.out (by kernel_rfl)) (by decide) (fun K hK => ?_)
        have hs23 : w21.cell? ⟨gb229, 1, none⟩ = some (.slice Ao9 x230001_1.length co9) := (blk_cell BK229.out 1).trans rfl
        have hfs23 := blk_frozen BK229.out 1
        refine skip_ (w1 := ?_) (by rfl) rfl ?_ ?_
        rotate_left
        ·go_simp
         rfl
        refine hK.out _ _ ?_
        clear hK K
        refine done_ (done_of HT_.out (by kernel_rfl)) ?_
        try go_wp2
        go_roundg k1
        case measure => have := HK1.out; omega
        case rel => exact ⟨(wrap64 (x4_1 + 1)), (y239), (.slice Ao22 y239.length co22), (by first | rfl | (simp; done) | (simp [*]; done)), H', ⟨by have := HK1.out; omega⟩, ⟨by (with_reducible repeat (first | apply R_alloc | apply R_drewN | apply R_drew)); exact R_mono (R_far (p := ⟨gb229, 1, none⟩) (R_types HO241.out BK229.out (by decide)) (fun _ hk => hk.2) (.slice Ao22 y239.length co22)) (fun _ hk => trivial)⟩, ⟨by (with_reducible repeat (first | refine blk_drewN ?_ _ | refine blk_drew ?_ | refine blk_alloc ?_ _)); refine blk_put (cs := #[.int .i64 1099511627775, .slice Ao9 x230001_1.length co9, .slice none 0 0]) ?_ 1 _ rfl; (with_reducible repeat (first | refine blk_drewN ?_ _ | refine blk_drew ?_ | refine blk_alloc ?_ _)); exact BK229.out⟩, ⟨by repeat (first | exact HB.out | apply below_alloc | apply pw_below_drewN | apply below_drew1 | refine below_set ?_ GE229.out)⟩⟩
       ·rw [if_neg c8] at H
        exact absurd H (by simp)
      ·rw [if_neg c7] at H
       exact absurd H (by simp)
     ·rw [if_neg c6] at H
      exact absurd H (by simp)
    ·rw [if_neg c5] at H
     exact absurd H (by simp)
   ·rw [if_neg c4] at H
    have c4b0 : decide (x4_1 < 64) = false := decide_eq_false c4
    clear c4
    have H' := Aside0.mk H
    clear H
    go_wp2
    go_loopg [5] k1 (fun kq v5 w' => ∃ (x5_2 : Int) (x230002_2 : List (S47)) (u230002 : Value), v5 = .int .i64 x5_2 ∧ Aside0 (lecternlaw17_ImageGreat.l1 kq l0 x5_2 1099511627775 x230001_1 x230002_2 = some r) ∧ Aside0 (kq ≤ k1) ∧ Aside0 (Kd.R k42 42 w' w.heap.size (fun _ => True) u230001 x230001_1) ∧ Aside0 (Kd.S k47 47 w' w.heap.size (fun _ => True) u230002 x230002_2) ∧ Aside0 (w'.heap[gb229]? = some (.cells #[.int .i64 1099511627775, u230001, u230002] 28 (0, 0))) ∧ Aside0 (Below w.heap.size w w'))
    case atStart => exact ⟨(1), (([] : List (S47))), (.slice none 0 0), (by first | rfl | (simp; done) | (simp [*]; done)), H', ⟨Nat.le_refl _⟩, ⟨by (with_reducible repeat (first | apply R_alloc | apply R_drewN | apply R_drew)); exact HO_230001.out⟩, ⟨by first | exact S_nil _ _ _ _ _ | exact Kd.N_nil _ _ _ _ _ | exact Kd.V_nil _ _ _ _ _ | exact Kd.Q_nil _ _ _ _ _ | exact R_nil _ _ _ _ _⟩, ⟨by (with_reducible repeat (first | refine blk_drewN ?_ _ | refine blk_drew ?_ | refine blk_alloc ?_ _)); exact BK229.out⟩, ⟨by repeat (first | exact HB.out | apply below_alloc | apply pw_below_drewN | apply below_drew1 | refine below_set ?_ GE229.out)⟩⟩
    case round =>
     clear H'
     try clear hcv1
     try clear p2
     try clear hcv2
     try clear c4
     try clear c4b0
     try clear c5
     try clear c6
     try clear p6
     try clear c7
     try clear c8
     try clear hcv19
     try clear hcv20
     obtain ⟨x5_2, x230002_2, u230002, rfl, HA, HK2, HO_230001, HO_230002, BK229, HB⟩ := hrel
     cases gk with
     | zero => exact absurd HA.out (by simp [lecternlaw17_ImageGreat.l1])
     | succ k2 =>
      have H := HA.out
      clear HA
      simp only [lecternlaw17_ImageGreat.l1] at H
      by_cases c24 : x5_2 ≤ 8
      ·rw [if_pos c24] at H
       have c24b0 : decide (x5_2 ≤ 8) = true := decide_eq_true c24
       clear c24
       by_cases c25 : x230002_2.length < 2199023255552
       ·rw [if_pos c25] at H
        have LMc25 := Aside0.mk c25
        clear c25
        obtain ⟨y242, hy242⟩ : ∃ y_ : List (S47), y_ = (x230002_2 ++ [(⟨wrap64 (1099511627767 + x5_2), 1099511627775, (⟨10, 1099511627775, ([] : List (S96))⟩ : S45), 1099511627775⟩ : S47)]) := ⟨_, rfl⟩
        replace H : (lecternlaw17_ImageGreat.l1 k2 l0 (wrap64 (x5_2 + 1)) 1099511627775 x230001_1 y242) = some r := by first | (rw [hy242]; with_reducible exact H) | (have H2_ := (Option.bind_some _ _).symm.trans H; rw [hy242]; with_reducible exact H2_) | (have H2_ := (Option.bind_some _ _).symm.trans H; with_reducible exact H2_) | with_reducible exact H | (rw [hy242]; exact H) | exact H
        have Ny242 := Aside0.mk hy242
        clear hy242
        have H' := Aside0.mk H
        clear H
        have hcz26_0 : wr.cell? ⟨gb229, 0, none⟩ = some (.int .i64 1099511627775) := (blk_cell BK229.out 0).trans rfl
        have hcz26_1 : wr.cell? ⟨gb229, 1, none⟩ = some (u230001) := (blk_cell BK229.out 1).trans rfl
        have hcz26_2 : wr.cell? ⟨gb229, 2, none⟩ = some (u230002) := (blk_cell BK229.out 2).trans rfl
        have hfz26_0 := blk_frozen BK229.out 0
        have hfz26_1 := blk_frozen BK229.out 1
        have hfz26_2 := blk_frozen BK229.out 2
        go_wp2_with (first | ((with_reducible refine gate_builtin (b := .append) (xs := #[.tmp 43, .tmp 48]) rfl ?_); (try (refine gate_guard (by rfl) ?_; dsimp only)); at_builtin; refine S_append k47 (w0 := w) w.heap.size rfl (.tmp 43) (.tmp 48) 26 47 (.agg #[(.int .i64 0), (.int .i64 0), (.int .i64 0), (.int .i64 0), (.slice none 0 0), (.int .i64 0)]) 64 rfl Try.underlying26 info47 rfl (by decide) (by omega) u230002 x230002_2 (⟨wrap64 (1099511627767 + x5_2), 1099511627775, (⟨10, 1099511627775, ([] : List (S96))⟩ : S45), 1099511627775⟩ : S47) [.int .i64 (wrap64 (1099511627767 + x5_2)), .int .i64 1099511627775, .int .i64 10, .int .i64 1099511627775, .slice none 0 0, .int .i64 1099511627775] (fun _ => True) (fun _ => False) rfl rfl ?aP (fun k_ hk_ => hk_.elim) ?aF ?aO ?aB ?aS ?aL ?_; (case aP => exact k47_mkM _ _ _ (⟨wrap64 (1099511627767 + x5_2), 1099511627775, (⟨10, 1099511627775, ([] : List (S96))⟩ : S45), 1099511627775⟩ : S47) (R_nil _ _ _ _ _)); (case aB => exact (by repeat (first | exact HB.out | apply below_alloc | apply pw_below_drewN | apply below_drew1 | refine below_set ?_ GE229.out))); (case aF => exact (fun _ _ => trivial)); (case aO => exact (by (with_reducible repeat (first | apply S_alloc | apply S_drewN | apply S_drew)); exact S_mono HO_230002.out (fun k_ hk => ⟨trivial, fun e_ => e_⟩))); (case aS => exact (below_size (by repeat (first | exact HB.out | apply below_alloc | apply pw_below_drewN | apply below_drew1 | refine below_set ?_ GE229.out)))); (case aL => have := LMc25.out; omega); intro v243 w27 ho hb hg hat; rw [← Ny242.out] at ho; have n0_ := Aside0.mk (R_over' (by (with_reducible repeat (first | apply R_alloc | apply R_drewN | apply R_drew)); exact HO_230001.out) (S_typed (by (with_reducible repeat (first | apply S_alloc | apply S_drewN | apply S_drew)); exact HO_230002.out)) (by decide) hg); have n1_ := Aside0.mk (blk_grown (g := gb229) (o := .cells #[.int .i64 1099511627775, u230001, u230002] 28 (0, 0)) (by (with_reducible repeat (first | refine blk_drewN ?_ _ | refine blk_drew ?_ | refine blk_alloc ?_ _)); exact BK229.out) hg (S_ne HO_230002.out BK229.out (by decide))); have n2_ := Aside0.mk (hb); have n3_ := Aside0.mk (ho); clear HO_230001; clear BK229; clear HB; clear HO_230002; have HO_230001 := n0_; have BK229 := n1_; have HB := n2_; have HO244 := n3_; clear n0_ n1_ n2_ n3_; clear ho hb hg hat; obtain ⟨Ao28, co28, eo28⟩ := S_slice HO244.out; subst eo28; have hcz29_0 : w27.cell? ⟨gb229, 0, none⟩ = some (.int .i64 1099511627775) := (blk_cell BK229.out 0).trans rfl; have hcz29_1 : w27.cell? ⟨gb229, 1, none⟩ = some (u230001) := (blk_cell BK229.out 1).trans rfl; have hcz29_2 : w27.cell? ⟨gb229, 2, none⟩ = some (u230002) := (blk_cell BK229.out 2).trans rfl; have hfz29_0 := blk_frozen BK229.out 0; have hfz29_1 := blk_frozen BK229.out 1; have hfz29_2 := blk_frozen BK229.out 2))
        go_roundg k2
        case measure => have := HK1.out; have := HK2.out; omega
        case rel => exact ⟨(wrap64 (x5_2 + 1)), (y242), (.slice Ao28 y242.length co28), (by first | rfl | (simp; done) | (simp [*]; done)), H', ⟨by have := HK1.out; have := HK2.out; omega⟩, ⟨by (with_reducible repeat (first | apply R_alloc | apply R_drewN | apply R_drew)); exact R_mono (R_far (p := ⟨gb229, 2, none⟩) (R_types HO_230001.out BK229.out (by decide)) (fun _ hk => hk.2) (.slice Ao28 y242.length co28)) (fun _ hk => trivial)⟩, ⟨by (with_reducible repeat (first | apply S_alloc | apply S_drewN | apply S_drew)); exact S_mono (S_far (p := ⟨gb229, 2, none⟩) (S_types HO244.out BK229.out (by decide)) (fun _ hk => hk.2) (.slice Ao28 y242.length co28)) (fun _ hk => trivial)⟩, ⟨by (with_reducible repeat (first | refine blk_drewN ?_ _ | refine blk_drew ?_ | refine blk_alloc ?_ _)); refine blk_put (cs := #[.int .i64 1099511627775, u230001, u230002]) ?_ 2 _ rfl; (with_reducible repeat (first | refine blk_drewN ?_ _ | refine blk_drew ?_ | refine blk_alloc ?_ _)); exact BK229.out⟩, ⟨by repeat (first | exact HB.out | apply below_alloc | apply pw_below_drewN | apply below_drew1 | refine below_set ?_ GE229.out)⟩⟩
       ·rw [if_neg c25] at H
        exact absurd H (by simp)
      ·rw [if_neg c24] at H
       have c24b0 : decide (x5_2 ≤ 8) = false := decide_eq_false c24
       clear c24
       replace H := Option.bind_eq_some_iff.mp H
       obtain ⟨⟨t245, t248⟩, A300, H⟩ := H
       replace H : ((image_Parse.f k2 t245).bind fun bt249 => (if 257 ≤ 281474976710656 then (if 0 < (x230001_1.length : Int) then ((some (x230001_1.set (0 : Int).toNat (⟨(rd_T42 x230001_1 0).f0, strOfNums (List.replicate 257 0)⟩ : S42) : List (S42))).bind fun y261 => ((image_Bytes.f k2 1099511627775 y261 x230002_2).bind fun bt262 => (if 256 ≤ 281474976710656 then ((lecternlaw17_num.f t248).bind fun t270 => (if t270 = 0 then (if (t245.length : Int) ≤ 524288 then ((lecternlaw17_num.f bt249.2.2.2).bind fun t271 => (if t271 = 0 then ((lecternref0_EqState.f k2 bt249.1 bt249.2.1 bt249.2.2.1 1099511627775 (y261.set (0 : Int).toNat (⟨(rd_T42 y261 0).f0, strOfNums (List.replicate 256 0)⟩ : S42)) x230002_2).bind fun t272 => (if t272 = true then ((lecternlaw17_num.f bt262.2).bind fun t273 => (if t273 = 1 then (if (l0.length : Int) ≥ 0 then ((lecternlaw17_wakes.f k2).bind fun t274 => (some t274)) else (none)) else (none))) else (none))) else (none))) else (none)) else (none))) else (none)))) else (none)) else (none))) = some r := H
       have A30 := Aside0.mk A300
       clear A300
       replace H := Option.bind_eq_some_iff.mp H
       obtain ⟨⟨t249, t250, t253, t256⟩, A310, H⟩ := H
       replace H : (if 257 ≤ 281474976710656 then (if 0 < (x230001_1.length : Int) then ((some (x230001_1.set (0 : Int).toNat (⟨(rd_T42 x230001_1 0).f0, strOfNums (List.replicate 257 0)⟩ : S42) : List (S42))).bind fun y261 => ((image_Bytes.f k2 1099511627775 y261 x230002_2).bind fun bt262 => (if 256 ≤ 281474976710656 then ((lecternlaw17_num.f t248).bind fun t270 => (if t270 = 0 then (if (t245.length : Int) ≤ 524288 then ((lecternlaw17_num.f t256).bind fun t271 => (if t271 = 0 then ((lecternref0_EqState.f k2 t249 t250 t253 1099511627775 (y261.set (0 : Int).toNat (⟨(rd_T42 y261 0).f0, strOfNums (List.replicate 256 0)⟩ : S42)) x230002_2).bind fun t272 => (if t272 = true then ((lecternlaw17_num.f bt262.2).bind fun t273 => (if t273 = 1 then (if (l0.length : Int) ≥ 0 then ((lecternlaw17_wakes.f k2).bind fun t274 => (some t274)) else (none)) else (none))) else (none))) else (none))) else (none)) else (none))) else (none)))) else (none)) else (none)) = some r := H
       have A31 := Aside0.mk A310
       clear A310
       by_cases c32 : 257 ≤ 281474976710656
       ·rw [if_pos c32] at H
        have c32b0 := eq_true c32
        have c32b1 : decide (257 ≤ 281474976710656) = true := decide_eq_true c32
        clear c32
        obtain ⟨y258, hy258⟩ : ∃ y_ : List Int, y_ = (List.replicate 257 0) := ⟨_, rfl⟩
        replace H : (if 0 < (x230001_1.length : Int) then ((some (x230001_1.set (0 : Int).toNat (⟨(rd_T42 x230001_1 0).f0, strOfNums y258⟩ : S42) : List (S42))).bind fun y261 => ((image_Bytes.f k2 1099511627775 y261 x230002_2).bind fun bt262 => (if 256 ≤ 281474976710656 then ((lecternlaw17_num.f t248).bind fun t270 => (if t270 = 0 then (if (t245.length : Int) ≤ 524288 then ((lecternlaw17_num.f t256).bind fun t271 => (if t271 = 0 then ((lecternref0_EqState.f k2 t249 t250 t253 1099511627775 (y261.set (0 : Int).toNat (⟨(rd_T42 y261 0).f0, strOfNums (List.replicate 256 0)⟩ : S42)) x230002_2).bind fun t272 => (if t272 = true then ((lecternlaw17_num.f bt262.2).bind fun t273 => (if t273 = 1 then (if (l0.length : Int) ≥ 0 then ((lecternlaw17_wakes.f k2).bind fun t274 => (some t274)) else (none)) else (none))) else (none))) else (none))) else (none)) else (none))) else (none)))) else (none)) = some r := by first | (rw [hy258]; with_reducible exact H) | (have H2_ := (Option.bind_some _ _).symm.trans H; rw [hy258]; with_reducible exact H2_) | (have H2_ := (Option.bind_some _ _).symm.trans H; with_reducible exact H2_) | with_reducible exact H | (rw [hy258]; exact H) | exact H
        have Ny258 := Aside0.mk hy258
        clear hy258
        by_cases c33 : 0 < (x230001_1.length : Int)
        ·rw [if_pos c33] at H
         have c33b0 : decide (0 < (x230001_1.length : Int)) = true := decide_eq_true c33
         have c33b1 : decide (0 < x230001_1.length) = true := decide_eq_true (by omega)
         clear c33
         obtain ⟨y261, hy261⟩ : ∃ y_ : List (S42), y_ = (x230001_1.set (0 : Int).toNat (⟨(rd_T42 x230001_1 0).f0, strOfNums y258⟩ : S42)) := ⟨_, rfl⟩
         replace H : ((image_Bytes.f k2 1099511627775 y261 x230002_2).bind fun bt262 => (if 256 ≤ 281474976710656 then ((lecternlaw17_num.f t248).bind fun t270 => (if t270 = 0 then (if (t245.length : Int) ≤ 524288 then ((lecternlaw17_num.f t256).bind fun t271 => (if t271 = 0 then ((lecternref0_EqState.f k2 t249 t250 t253 1099511627775 (y261.set (0 : Int).toNat (⟨(rd_T42 y261 0).f0, strOfNums (List.replicate 256 0)⟩ : S42)) x230002_2).bind fun t272 => (if t272 = true then ((lecternlaw17_num.f bt262.2).bind fun t273 => (if t273 = 1 then (if (l0.length : Int) ≥ 0 then ((lecternlaw17_wakes.f k2).bind fun t274 => (some t274)) else (none)) else (none))) else (none))) else (none))) else (none)) else (none))) else (none))) = some r := by first | (rw [hy261]; with_reducible exact H) | (have H2_ := (Option.bind_some _ _).symm.trans H; rw [hy261]; with_reducible exact H2_) | (have H2_ := (Option.bind_some _ _).symm.trans H; with_reducible exact H2_) | with_reducible exact H | (rw [hy261]; exact H) | exact H
         have Ny261 := Aside0.mk hy261
         clear hy261
         replace H := Option.bind_eq_some_iff.mp H
         obtain ⟨⟨t262, t265⟩, A350, H⟩ := H
         replace H : (if 256 ≤ 281474976710656 then ((lecternlaw17_num.f t248).bind fun t270 => (if t270 = 0 then (if (t245.length : Int) ≤ 524288 then ((lecternlaw17_num.f t256).bind fun t271 => (if t271 = 0 then ((lecternref0_EqState.f k2 t249 t250 t253 1099511627775 (y261.set (0 : Int).toNat (⟨(rd_T42 y261 0).f0, strOfNums (List.replicate 256 0)⟩ : S42)) x230002_2).bind fun t272 => (if t272 = true then ((lecternlaw17_num.f t265).bind fun t273 => (if t273 = 1 then (if (l0.length : Int) ≥ 0 then ((lecternlaw17_wakes.f k2).bind fun t274 => (some t274)) else (none)) else (none))) else (none))) else (none))) else (none)) else (none))) else (none)) = some r := H
         have A35 := Aside0.mk A350
         clear A350
         by_cases c36 : 256 ≤ 281474976710656
         ·rw [if_pos c36] at H
          have c36b0 := eq_true c36
          have c36b1 : decide (256 ≤ 281474976710656) = true := decide_eq_true c36
          clear c36
          obtain ⟨y266, hy266⟩ : ∃ y_ : List Int, y_ = (List.replicate 256 0) := ⟨_, rfl⟩
          replace H : ((lecternlaw17_num.f t248).bind fun t270 => (if t270 = 0 then (if (t245.length : Int) ≤ 524288 then ((lecternlaw17_num.f t256).bind fun t271 => (if t271 = 0 then ((lecternref0_EqState.f k2 t249 t250 t253 1099511627775 (y261.set (0 : Int).toNat (⟨(rd_T42 y261 0).f0, strOfNums y266⟩ : S42)) x230002_2).bind fun t272 => (if t272 = true then ((lecternlaw17_num.f t265).bind fun t273 => (if t273 = 1 then (if (l0.length : Int) ≥ 0 then ((lecternlaw17_wakes.f k2).bind fun t274 => (some t274)) else (none)) else (none))) else (none))) else (none))) else (none)) else (none))) = some r := by first | (rw [hy266]; with_reducible exact H) | (have H2_ := (Option.bind_some _ _).symm.trans H; rw [hy266]; with_reducible exact H2_) | (have H2_ := (Option.bind_some _ _).symm.trans H; with_reducible exact H2_) | with_reducible exact H | (rw [hy266]; exact H) | exact H
          have Ny266 := Aside0.mk hy266
          clear hy266
          obtain ⟨y269, hy269⟩ : ∃ y_ : List (S42), y_ = (y261.set (0 : Int).toNat (⟨(rd_T42 y261 0).f0, strOfNums y266⟩ : S42)) := ⟨_, rfl⟩
          replace H : ((lecternlaw17_num.f t248).bind fun t270 => (if t270 = 0 then (if (t245.length : Int) ≤ 524288 then ((lecternlaw17_num.f t256).bind fun t271 => (if t271 = 0 then ((lecternref0_EqState.f k2 t249 t250 t253 1099511627775 y269 x230002_2).bind fun t272 => (if t272 = true then ((lecternlaw17_num.f t265).bind fun t273 => (if t273 = 1 then (if (l0.length : Int) ≥ 0 then ((lecternlaw17_wakes.f k2).bind fun t274 => (some t274)) else (none)) else (none))) else (none))) else (none))) else (none)) else (none))) = some r := by first | (rw [hy269]; with_reducible exact H) | (have H2_ := (Option.bind_some _ _).symm.trans H; rw [hy269]; with_reducible exact H2_) | (have H2_ := (Option.bind_some _ _).symm.trans H; with_reducible exact H2_) | with_reducible exact H | (rw [hy269]; exact H) | exact H
          have Ny269 := Aside0.mk hy269
          clear hy269
          replace H := Option.bind_eq_some_iff.mp H
          obtain ⟨t270, A380, H⟩ := H
          replace H : (if t270 = 0 then (if (t245.length : Int) ≤ 524288 then ((lecternlaw17_num.f t256).bind fun t271 => (if t271 = 0 then ((lecternref0_EqState.f k2 t249 t250 t253 1099511627775 y269 x230002_2).bind fun t272 => (if t272 = true then ((lecternlaw17_num.f t265).bind fun t273 => (if t273 = 1 then (if (l0.length : Int) ≥ 0 then ((lecternlaw17_wakes.f k2).bind fun t274 => (some t274)) else (none)) else (none))) else (none))) else (none))) else (none)) else (none)) = some r := H
          have A38 := Aside0.mk A380
          clear A380
          by_cases c39 : t270 = 0
          ·rw [if_pos c39] at H
           have c39b0 : (t270 == 0) = true := beq_iff_eq.mpr c39
           have c39b1 : (t270 != 0) = false := bne_eq_false_iff_eq.mpr c39
           clear c39
           by_cases c40 : (t245.length : Int) ≤ 524288
           ·rw [if_pos c40] at H
            have c40b0 : decide ((t245.length : Int) ≤ 524288) = true := decide_eq_true c40
            have c40b1 : decide (t245.length ≤ 524288) = true := decide_eq_true (by omega)
            clear c40
            replace H := Option.bind_eq_some_iff.mp H
            obtain ⟨t271, A410, H⟩ := H
            replace H : (if t271 = 0 then ((lecternref0_EqState.f k2 t249 t250 t253 1099511627775 y269 x230002_2).bind fun t272 => (if t272 = true then ((lecternlaw17_num.f t265).bind fun t273 => (if t273 = 1 then (if (l0.length : Int) ≥ 0 then ((lecternlaw17_wakes.f k2).bind fun t274 => (some t274)) else (none)) else (none))) else (none))) else (none)) = some r := H
            have A41 := Aside0.mk A410
            clear A410
            by_cases c42 : t271 = 0
            ·rw [if_pos c42] at H
             have c42b0 : (t271 == 0) = true := beq_iff_eq.mpr c42
             have c42b1 : (t271 != 0) = false := bne_eq_false_iff_eq.mpr c42
             clear c42
             replace H := Option.bind_eq_some_iff.mp H
             obtain ⟨t272, A430, H⟩ := H
             replace H : (if t272 = true then ((lecternlaw17_num.f t265).bind fun t273 => (if t273 = 1 then (if (l0.length : Int) ≥ 0 then ((lecternlaw17_wakes.f k2).bind fun t274 => (some t274)) else (none)) else (none))) else (none)) = some r := H
             have A43 := Aside0.mk A430
             clear A430
             by_cases c44 : t272 = true
             ·subst c44
              have H1 : ((lecternlaw17_num.f t265).bind fun t273 => (if t273 = 1 then (if (l0.length : Int) ≥ 0 then ((lecternlaw17_wakes.f k2).bind fun t274 => (some t274)) else (none)) else (none))) = some r := by rw [if_pos rfl] at H; exact H
              clear H
              have H := H1
              clear H1
              replace H := Option.bind_eq_some_iff.mp H
              obtain ⟨t273, A450, H⟩ := H
              replace H : (if t273 = 1 then (if (l0.length : Int) ≥ 0 then ((lecternlaw17_wakes.f k2).bind fun t274 => (some t274)) else (none)) else (none)) = some r := H
              have A45 := Aside0.mk A450
              clear A450
              by_cases c46 : t273 = 1
              ·rw [if_pos c46] at H
               have c46b0 : (t273 == 1) = true := beq_iff_eq.mpr c46
               have c46b1 : (t273 != 1) = false := bne_eq_false_iff_eq.mpr c46
               clear c46
               by_cases c47 : (l0.length : Int) ≥ 0
               ·rw [if_pos c47] at H
                have c47b0 : decide (0 ≤ (l0.length : Int)) = true := decide_eq_true c47
                have c47b1 : decide (0 ≤ l0.length) = true := decide_eq_true (by omega)
                clear c47
                replace H := Option.bind_eq_some_iff.mp H
                obtain ⟨t274, A480, H⟩ := H
                replace H : (some t274) = some r := H
                have A48 := Aside0.mk A480
                clear A480
                obtain rfl := Option.some.inj H
                have hcz49_0 : wr.cell? ⟨gb229, 0, none⟩ = some (.int .i64 1099511627775) := (blk_cell BK229.out 0).trans rfl
                have hcz49_1 : wr.cell? ⟨gb229, 1, none⟩ = some (u230001) := (blk_cell BK229.out 1).trans rfl
                have hcz49_2 : wr.cell? ⟨gb229, 2, none⟩ = some (u230002) := (blk_cell BK229.out 2).trans rfl
                have hfz49_0 := blk_frozen BK229.out 0
                have hfz49_1 := blk_frozen BK229.out 1
                have hfz49_2 := blk_frozen BK229.out 2
                obtain ⟨Ao50, co50, eo50⟩ := R_slice HO_230001.out
                subst eo50
                obtain ⟨Ao51, co51, eo51⟩ := S_slice HO_230002.out
                subst eo51
                try go_wp2_with (first | ((with_reducible refine gate_callee (f := 10) rfl ?_); refine goesL_ (some 53) rfl rfl Try.func10 (by kernel_rfl) rfl #[.agg #[.int .i64 1099511627775, .slice Ao50 x230001_1.length co50, .slice Ao51 x230002_2.length co51]] rfl (by (try simp only [List.map_toArray, List.map_cons, List.map_nil]); first | done | rfl | (simp only [List.length_drop, List.length_take]; rfl)) ?_; (with_reducible refine (image_Bytes.calls k2 1099511627775 _ _ x230001_1 _ _ x230002_2 t245 t248 _ ?side1 ?side2 ?side3 ?side4 A30.out).mono ?_); (case side1 => repeat (first | exact (R_reads' HO_230001.out).2.2 | (with_reducible refine Kd.C_alloc ?_ _) | (with_reducible refine Kd.C_drewN ?_ _) | (with_reducible refine Kd.C_drew ?_))); (case side2 => exact (R_reads' HO_230001.out).2.1); (case side3 => repeat (first | exact (S_reads' HO_230002.out).2.2 | (with_reducible refine Kd.C_alloc ?_ _) | (with_reducible refine Kd.C_drewN ?_ _) | (with_reducible refine Kd.C_drew ?_))); (case side4 => exact (S_reads' HO_230002.out).2.1); rintro e w52 ⟨v246, rfl, ho0, hb⟩; refine ⟨_, rfl, ?_⟩; have n0_ := Aside0.mk (R_below (by (with_reducible repeat (first | apply R_alloc | apply R_drewN | apply R_drew)); exact HO_230001.out) hb); have n1_ := Aside0.mk (S_below (by (with_reducible repeat (first | apply S_alloc | apply S_drewN | apply S_drew)); exact HO_230002.out) hb); have n2_ := Aside0.mk (R_lower ho0 (below_size (by repeat (first | exact HB.out | apply below_alloc | apply pw_below_drewN | apply below_drew1 | refine below_set ?_ GE229.out)))); have n3_ := Aside0.mk (blk_below (g := gb229) (o := .cells #[.int .i64 1099511627775, .slice Ao50 x230001_1.length co50, .slice Ao51 x230002_2.length co51] 28 (0, 0)) (by (with_reducible repeat (first | refine blk_drewN ?_ _ | refine blk_drew ?_ | refine blk_alloc ?_ _)); exact BK229.out) hb); have n4_ := Aside0.mk (below_step (by repeat (first | exact HB.out | apply below_alloc | apply pw_below_drewN | apply below_drew1 | refine below_set ?_ GE229.out)) hb); clear HO_230001; clear HO_230002; clear BK229; clear HB; have HO_230001 := n0_; have HO_230002 := n1_; have HO247 := n2_; have BK229 := n3_; have HB := n4_; clear n0_ n1_ n2_ n3_ n4_; (try clear hb); (try clear hb2); (try clear hk); (try clear hi); (try clear ho0); obtain ⟨Ao53, co53, eo53⟩ := R_slice HO247.out; subst eo53) | ((with_reducible refine gate_callee (f := 6) rfl ?_); refine goesL_ (some 58) rfl rfl Try.func6 (by kernel_rfl) rfl #[.slice Ao53 t245.length co53] rfl (by (try simp only [List.map_toArray, List.map_cons, List.map_nil]); first | done | rfl | (simp only [List.length_drop, List.length_take]; rfl)) ?_; (with_reducible refine (image_Parse.calls k2 _ _ t245 t249 t250 t253 t256 _ ?side1 ?side2 A31.out).mono ?_); (case side1 => repeat (first | exact (R_reads' HO247.out).2.2 | (with_reducible refine Kd.C_alloc ?_ _) | (with_reducible refine Kd.C_drewN ?_ _) | (with_reducible refine Kd.C_drew ?_))); (case side2 => exact (R_reads' HO247.out).2.1); rintro e w54 ⟨v251, v254, rfl, ho0, ho1, hb⟩; refine ⟨_, rfl, ?_⟩; have n0_ := Aside0.mk (R_elder' (by (with_reducible repeat (first | apply R_alloc | apply R_drewN | apply R_drew)); exact HO_230001.out) (R_base ho0) hb); have n1_ := Aside0.mk (S_elder' (by (with_reducible repeat (first | apply S_alloc | apply S_drewN | apply S_drew)); exact HO_230002.out) (S_base ho1) hb); have n2_ := Aside0.mk (R_below (by (with_reducible repeat (first | apply R_alloc | apply R_drewN | apply R_drew)); exact HO247.out) hb); have n3_ := Aside0.mk (R_lower (R_new' ho0 (R_lt (by (with_reducible repeat (first | apply R_alloc | apply R_drewN | apply R_drew)); exact HO_230001.out))) (below_size (by repeat (first | exact HB.out | apply below_alloc | apply pw_below_drewN | apply below_drew1 | refine below_set ?_ GE229.out)))); have n4_ := Aside0.mk (S_lower (S_new' ho1 (S_lt (by (with_reducible repeat (first | apply S_alloc | apply S_drewN | apply S_drew)); exact HO_230002.out))) (below_size (by repeat (first | exact HB.out | apply below_alloc | apply pw_below_drewN | apply below_drew1 | refine below_set ?_ GE229.out)))); have n5_ := Aside0.mk (blk_below (g := gb229) (o := .cells #[.int .i64 1099511627775, .slice Ao50 x230001_1.length co50, .slice Ao51 x230002_2.length co51] 28 (0, 0)) (by (with_reducible repeat (first | refine blk_drewN ?_ _ | refine blk_drew ?_ | refine blk_alloc ?_ _)); exact BK229.out) hb); have n6_ := Aside0.mk (below_step (by repeat (first | exact HB.out | apply below_alloc | apply pw_below_drewN | apply below_drew1 | refine below_set ?_ GE229.out)) hb); clear HO_230001; clear HO_230002; clear HO247; clear BK229; clear HB; have HO_230001 := n0_; have HO_230002 := n1_; have HO247 := n2_; have HO252 := n3_; have HO255 := n4_; have BK229 := n5_; have HB := n6_; clear n0_ n1_ n2_ n3_ n4_ n5_ n6_; (try clear hb); (try clear hb2); (try clear hk); (try clear hi); (try clear ho0); (try clear ho1)) | ((with_reducible refine gate_dst (N := 8) rfl ?_); (try (refine gate_guard (by rfl) ?_; dsimp only)); refine box_event ?hg (N := 8) ?hd (cs := #[.int .i64 0, .slice none 0 0, .slice none 0 0]) (t := 28) ?hr ?_; (case hd => rfl); (case hg => rfl); (case hr => first | (go_simp; done) | (go_simp; rfl)); intro gb257 hg w55 hbox hb; have n0_ := Aside0.mk (R_below (by (with_reducible repeat (first | apply R_alloc | apply R_drewN | apply R_drew)); exact HO_230001.out) hb); have n1_ := Aside0.mk (S_below (by (with_reducible repeat (first | apply S_alloc | apply S_drewN | apply S_drew)); exact HO_230002.out) hb); have n2_ := Aside0.mk (R_below (by (with_reducible repeat (first | apply R_alloc | apply R_drewN | apply R_drew)); exact HO247.out) hb); have n3_ := Aside0.mk (R_below (by (with_reducible repeat (first | apply R_alloc | apply R_drewN | apply R_drew)); exact HO252.out) hb); have n4_ := Aside0.mk (S_below (by (with_reducible repeat (first | apply S_alloc | apply S_drewN | apply S_drew)); exact HO255.out) hb); have n5_ := Aside0.mk (blk_below (g := gb229) (o := .cells #[.int .i64 1099511627775, .slice Ao50 x230001_1.length co50, .slice Ao51 x230002_2.length co51] 28 (0, 0)) (by (with_reducible repeat (first | refine blk_drewN ?_ _ | refine blk_drew ?_ | refine blk_alloc ?_ _)); exact BK229.out) hb); have n6_ := Aside0.mk (below_step (by repeat (first | exact HB.out | apply below_alloc | apply pw_below_drewN | apply below_drew1 | refine below_set ?_ GE229.out)) hb); have n7_ := Aside0.mk (hbox); have n8_ := Aside0.mk ((by rw [hg]; exact (below_size (by repeat (first | exact HB.out | apply below_alloc | apply pw_below_drewN | apply below_drew1 | refine below_set ?_ GE229.out))) : w.heap.size ≤ gb257)); have n9_ := Aside0.mk ((by rw [hg]; exact (below_size (by repeat (first | exact HB.out | apply below_alloc | apply pw_below_drewN | apply below_drew1 | refine below_set ?_ GE229.out))) : w.heap.size ≤ gb257)); have n10_ := Aside0.mk ((by rw [hg]; exact Nat.ne_of_lt (blk_lt (g := gb229) (o := .cells #[.int .i64 1099511627775, .slice Ao50 x230001_1.length co50, .slice Ao51 x230002_2.length co51] 28 (0, 0)) (by (with_reducible repeat (first | refine blk_drewN ?_ _ | refine blk_drew ?_ | refine blk_alloc ?_ _)); exact BK229.out)) : gb229 ≠ gb257)); have n11_ := Aside0.mk ((by rw [hg]; exact Nat.ne_of_gt (blk_lt (g := gb229) (o := .cells #[.int .i64 1099511627775, .slice Ao50 x230001_1.length co50, .slice Ao51 x230002_2.length co51] 28 (0, 0)) (by (with_reducible repeat (first | refine blk_drewN ?_ _ | refine blk_drew ?_ | refine blk_alloc ?_ _)); exact BK229.out)) : gb257 ≠ gb229)); clear HO_230001; clear HO_230002; clear HO247; clear HO252; clear HO255; clear BK229; clear HB; have HO_230001 := n0_; have HO_230002 := n1_; have HO247 := n2_; have HO252 := n3_; have HO255 := n4_; have BK229 := n5_; have HB := n6_; have BK257 := n7_; have GW257 := n8_; have GE257 := n9_; have NB229_257 := n10_; have NB257_229 := n11_; clear n0_ n1_ n2_ n3_ n4_ n5_ n6_ n7_ n8_ n9_ n10_ n11_; clear hb hbox hg; have hnb56 := NB257_229.out; have hnc56 := NB229_257.out; have hcz57_0 : w55.cell? ⟨gb257, 0, none⟩ = some (.int .i64 0) := (blk_cell BK257.out 0).trans rfl; have hcz57_1 : w55.cell? ⟨gb257, 1, none⟩ = some (.slice none 0 0) := (blk_cell BK257.out 1).trans rfl; have hcz57_2 : w55.cell? ⟨gb257, 2, none⟩ = some (.slice none 0 0) := (blk_cell BK257.out 2).trans rfl; have hfz57_0 := blk_frozen BK257.out 0; have hfz57_1 := blk_frozen BK257.out 1; have hfz57_2 := blk_frozen BK257.out 2; obtain ⟨Ao58, co58, eo58⟩ := R_slice HO252.out; subst eo58; obtain ⟨Ao59, co59, eo59⟩ := S_slice HO255.out; subst eo59))
                have n0_ : Aside0 (Kd.R k42 42 (((w55.setCell ⟨gb257, 0, none⟩ (.int .i64 t249)).setCell ⟨gb257, 1, none⟩ (.slice Ao58 t250.length co58)).setCell ⟨gb257, 2, none⟩ (.slice Ao59 t253.length co59)) w.heap.size (fun k_ => some k_ ≠ (.slice Ao58 t250.length co58 : Value).ownBlock) (.slice Ao50 x230001_1.length co50) x230001_1) := ⟨by (with_reducible repeat (first | apply R_alloc | apply R_drewN | apply R_drew)); exact R_mono (R_far (p := ⟨gb257, 2, none⟩) (R_far (p := ⟨gb257, 1, none⟩) (R_far (p := ⟨gb257, 0, none⟩) (R_types HO_230001.out BK257.out (by decide)) (fun _ hk => hk.2) (.int .i64 t249)) (fun _ hk => hk.2) (.slice Ao58 t250.length co58)) (fun _ hk => hk.2) (.slice Ao59 t253.length co59)) (fun _ hk => hk.1.2)⟩
                have n1_ : Aside0 (Kd.S k47 47 (((w55.setCell ⟨gb257, 0, none⟩ (.int .i64 t249)).setCell ⟨gb257, 1, none⟩ (.slice Ao58 t250.length co58)).setCell ⟨gb257, 2, none⟩ (.slice Ao59 t253.length co59)) w.heap.size (fun k_ => some k_ ≠ (.slice Ao59 t253.length co59 : Value).ownBlock) (.slice Ao51 x230002_2.length co51) x230002_2) := ⟨by (with_reducible repeat (first | apply S_alloc | apply S_drewN | apply S_drew)); exact S_mono (S_far (p := ⟨gb257, 2, none⟩) (S_far (p := ⟨gb257, 1, none⟩) (S_far (p := ⟨gb257, 0, none⟩) (S_types HO_230002.out BK257.out (by decide)) (fun _ hk => hk.2) (.int .i64 t249)) (fun _ hk => hk.2) (.slice Ao58 t250.length co58)) (fun _ hk => hk.2) (.slice Ao59 t253.length co59)) (fun _ hk => hk.1.2)⟩
                have n2_ : Aside0 (Kd.R (Kd.int .u8) 5 (((w55.setCell ⟨gb257, 0, none⟩ (.int .i64 t249)).setCell ⟨gb257, 1, none⟩ (.slice Ao58 t250.length co58)).setCell ⟨gb257, 2, none⟩ (.slice Ao59 t253.length co59)) w.heap.size (fun _ => True) (.slice Ao53 t245.length co53) t245) := ⟨by (with_reducible repeat (first | apply R_alloc | apply R_drewN | apply R_drew)); exact R_mono (R_far (p := ⟨gb257, 2, none⟩) (R_far (p := ⟨gb257, 1, none⟩) (R_far (p := ⟨gb257, 0, none⟩) (R_types HO247.out BK257.out (by decide)) (fun _ hk => hk.2) (.int .i64 t249)) (fun _ hk => hk.2) (.slice Ao58 t250.length co58)) (fun _ hk => hk.2) (.slice Ao59 t253.length co59)) (fun _ hk => trivial)⟩
                have n3_ : Aside0 (Kd.R k42 42 (((w55.setCell ⟨gb257, 0, none⟩ (.int .i64 t249)).setCell ⟨gb257, 1, none⟩ (.slice Ao58 t250.length co58)).setCell ⟨gb257, 2, none⟩ (.slice Ao59 t253.length co59)) w.heap.size (fun k_ => some k_ ≠ (.slice Ao50 x230001_1.length co50 : Value).ownBlock) (.slice Ao58 t250.length co58) t250) := ⟨by (with_reducible repeat (first | apply R_alloc | apply R_drewN | apply R_drew)); exact R_mono (R_far (p := ⟨gb257, 2, none⟩) (R_far (p := ⟨gb257, 1, none⟩) (R_far (p := ⟨gb257, 0, none⟩) (R_types HO252.out BK257.out (by decide)) (fun _ hk => hk.2) (.int .i64 t249)) (fun _ hk => hk.2) (.slice Ao58 t250.length co58)) (fun _ hk => hk.2) (.slice Ao59 t253.length co59)) (fun _ hk => hk.1.2)⟩
                have n4_ : Aside0 (Kd.S k47 47 (((w55.setCell ⟨gb257, 0, none⟩ (.int .i64 t249)).setCell ⟨gb257, 1, none⟩ (.slice Ao58 t250.length co58)).setCell ⟨gb257, 2, none⟩ (.slice Ao59 t253.length co59)) w.heap.size (fun k_ => some k_ ≠ (.slice Ao51 x230002_2.length co51 : Value).ownBlock) (.slice Ao59 t253.length co59) t253) := ⟨by (with_reducible repeat (first | apply S_alloc | apply S_drewN | apply S_drew)); exact S_mono (S_far (p := ⟨gb257, 2, none⟩) (S_far (p := ⟨gb257, 1, none⟩) (S_far (p := ⟨gb257, 0, none⟩) (S_types HO255.out BK257.out (by decide)) (fun _ hk => hk.2) (.int .i64 t249)) (fun _ hk => hk.2) (.slice Ao58 t250.length co58)) (fun _ hk => hk.2) (.slice Ao59 t253.length co59)) (fun _ hk => hk.1.2)⟩
                have n5_ : Aside0 ((((w55.setCell ⟨gb257, 0, none⟩ (.int .i64 t249)).setCell ⟨gb257, 1, none⟩ (.slice Ao58 t250.length co58)).setCell ⟨gb257, 2, none⟩ (.slice Ao59 t253.length co59)).heap[gb229]? = some (.cells #[.int .i64 1099511627775, .slice Ao50 x230001_1.length co50, .slice Ao51 x230002_2.length co51] 28 (0, 0))) := ⟨by (with_reducible repeat (first | refine blk_drewN ?_ _ | refine blk_drew ?_ | refine blk_alloc ?_ _)); refine blk_far ?_ NB229_257.out _; (with_reducible repeat (first | refine blk_drewN ?_ _ | refine blk_drew ?_ | refine blk_alloc ?_ _)); refine blk_far ?_ NB229_257.out _; (with_reducible repeat (first | refine blk_drewN ?_ _ | refine blk_drew ?_ | refine blk_alloc ?_ _)); refine blk_far ?_ NB229_257.out _; (with_reducible repeat (first | refine blk_drewN ?_ _ | refine blk_drew ?_ | refine blk_alloc ?_ _)); exact BK229.out⟩
                have n6_ : Aside0 ((((w55.setCell ⟨gb257, 0, none⟩ (.int .i64 t249)).setCell ⟨gb257, 1, none⟩ (.slice Ao58 t250.length co58)).setCell ⟨gb257, 2, none⟩ (.slice Ao59 t253.length co59)).heap[gb257]? = some (.cells #[.int .i64 t249, .slice Ao58 t250.length co58, .slice Ao59 t253.length co59] 28 (0, 0))) := ⟨by (with_reducible repeat (first | refine blk_drewN ?_ _ | refine blk_drew ?_ | refine blk_alloc ?_ _)); refine blk_put (cs := #[.int .i64 t249, .slice Ao58 t250.length co58, .slice none 0 0]) ?_ 2 _ rfl; (with_reducible repeat (first | refine blk_drewN ?_ _ | refine blk_drew ?_ | refine blk_alloc ?_ _)); refine blk_put (cs := #[.int .i64 t249, .slice none 0 0, .slice none 0 0]) ?_ 1 _ rfl; (with_reducible repeat (first | refine blk_drewN ?_ _ | refine blk_drew ?_ | refine blk_alloc ?_ _)); refine blk_put (cs := #[.int .i64 0, .slice none 0 0, .slice none 0 0]) ?_ 0 _ rfl; (with_reducible repeat (first | refine blk_drewN ?_ _ | refine blk_drew ?_ | refine blk_alloc ?_ _)); exact BK257.out⟩
                have n7_ : Aside0 (Below w.heap.size w (((w55.setCell ⟨gb257, 0, none⟩ (.int .i64 t249)).setCell ⟨gb257, 1, none⟩ (.slice Ao58 t250.length co58)).setCell ⟨gb257, 2, none⟩ (.slice Ao59 t253.length co59))) := ⟨by repeat (first | exact HB.out | apply below_alloc | apply pw_below_drewN | apply below_drew1 | refine below_set ?_ GE229.out | refine below_set ?_ GE257.out)⟩
                (try clear HO_230001)
                (try clear HO_230002)
                (try clear HO247)
                (try clear HO252)
                (try clear HO255)
                (try clear BK229)
                (try clear BK257)
                (try clear HB)
                generalize (((w55.setCell ⟨gb257, 0, none⟩ (.int .i64 t249)).setCell ⟨gb257, 1, none⟩ (.slice Ao58 t250.length co58)).setCell ⟨gb257, 2, none⟩ (.slice Ao59 t253.length co59)) = w60 at n0_ n1_ n2_ n3_ n4_ n5_ n6_ n7_ ⊢
                have HO_230001 := n0_
                have HO_230002 := n1_
                have HO247 := n2_
                have HO252 := n3_
                have HO255 := n4_
                have BK229 := n5_
                have BK257 := n6_
                have HB := n7_
                clear n0_ n1_ n2_ n3_ n4_ n5_ n6_ n7_
                have n0_ := Aside0.mk (R_drew HO_230001.out)
                have n1_ := Aside0.mk (S_drew HO_230002.out)
                have n2_ := Aside0.mk (R_drew HO247.out)
                have n3_ := Aside0.mk (R_drew HO252.out)
                have n4_ := Aside0.mk (S_drew HO255.out)
                have n5_ := Aside0.mk (blk_drew BK229.out)
                have n6_ := Aside0.mk (blk_drew BK257.out)
                have n7_ := Aside0.mk (below_drew1 HB.out)
                clear HO_230001
                clear HO_230002
                clear HO247
                clear HO252
                clear HO255
                clear BK229
                clear BK257
                clear HB
                have HO_230001 := n0_
                have HO_230002 := n1_
                have HO247 := n2_
                have HO252 := n3_
                have HO255 := n4_
                have BK229 := n5_
                have BK257 := n6_
                have HB := n7_
                clear n0_ n1_ n2_ n3_ n4_ n5_ n6_ n7_
                refine start_ (n := 7) (S := fun w' => w'.cell? ⟨gb229, 0, none⟩ = some (.int .i64 1099511627775) ∧ w'.cell? ⟨gb229, 1, none⟩ = some (.slice Ao50 x230001_1.length co50) ∧ w'.cell? ⟨gb229, 2, none⟩ = some (.slice Ao51 x230002_2.length co51)) (ds := [6]) #[false, false, false, false, false, false, false] (by kernel_rfl) rfl rfl ⟨(blk_cell BK229.out 0).trans rfl, (blk_cell BK229.out 1).trans rfl, (blk_cell BK229.out 2).trans rfl⟩ (fun hHeld => ?_)
                generalize w60.drew = w61 at HO_230001 HO_230002 HO247 HO252 HO255 BK229 BK257 HB hHeld ⊢
                refine pure_ (i := 0) (N := some 61) (v := ?_) (a' := ?_) #[true, false, false, false, false, false, false] rfl rfl (by kernel_rfl) (fun _ _ _ h => h) (Or.inl ⟨by rfl, ?_⟩) ?_ ?_
                rotate_left
                ·intro w'
                 go_simp
                 with_reducible rfl
                rotate_left
                ·simp only [Act.put, sA, sB, sC, i64_w, i32_w]
                 rfl
                refine take_ (i := 1) (N := some 62) (v := ?_) (a' := ?_) #[true, true, false, false, false, false, false] rfl rfl (by kernel_rfl) (fun _ _ _ h => h) (Or.inl ⟨by rfl, ?_⟩) hHeld ?_ ?_
                rotate_left
                ·rintro w' ⟨s0, s1, s2⟩
                 go_simp
                 with_reducible rfl
                rotate_left
                ·simp only [Act.put, sA, sB, sC, i64_w, i32_w]
                 rfl
                refine one_ (i := 2) (N := some 63) #[true, true, true, false, false, false, false] rfl rfl (by kernel_rfl) (by decide) (fun K hK => ?_)
                refine R_make_step (Kd.int .u8) _ 5 (by rfl) (N := 63) rfl 23 _ _ rfl 257 rfl rfl Try.underlying23 (.int .u8 0) 1 info5 rfl (by decide) (by omega) 0 (ok := fun _ => True) (okp := fun _ => True) rfl (fun _ hk => hk) trivial (by omega) (by omega) (Below.refl _ _) (Nat.le_refl _) ?_
                intro v259 w62 ho63 hb hg_ hnew_
                clear hg_ hnew_
                (first | rw [← Ny258.out] at ho63 | (simp only [Int.reduceToNat] at ho63; rw [← Ny258.out] at ho63))
                have n0_ := Aside0.mk (R_below (by (with_reducible repeat (first | apply R_alloc | apply R_drewN | apply R_drew)); exact HO_230001.out) hb)
                have n1_ := Aside0.mk (S_below (by (with_reducible repeat (first | apply S_alloc | apply S_drewN | apply S_drew)); exact HO_230002.out) hb)
                have n2_ := Aside0.mk (R_elder' (by (with_reducible repeat (first | apply R_alloc | apply R_drewN | apply R_drew)); exact HO247.out) (R_base ho63) hb)
                have n3_ := Aside0.mk (R_below (by (with_reducible repeat (first | apply R_alloc | apply R_drewN | apply R_drew)); exact HO252.out) hb)
                have n4_ := Aside0.mk (S_below (by (with_reducible repeat (first | apply S_alloc | apply S_drewN | apply S_drew)); exact HO255.out) hb)
                have n5_ := Aside0.mk (R_lower (R_new' ho63 (R_lt (by (with_reducible repeat (first | apply R_alloc | apply R_drewN | apply R_drew)); exact HO247.out))) (below_size (by repeat (first | exact HB.out | apply below_alloc | apply pw_below_drewN | apply below_drew1 | refine below_set ?_ GE229.out | refine below_set ?_ GE257.out))))
                have n6_ := Aside0.mk (blk_below (g := gb229) (o := .cells #[.int .i64 1099511627775, .slice Ao50 x230001_1.length co50, .slice Ao51 x230002_2.length co51] 28 (0, 0)) (by (with_reducible repeat (first | refine blk_drewN ?_ _ | refine blk_drew ?_ | refine blk_alloc ?_ _)); exact BK229.out) hb)
                have n7_ := Aside0.mk (blk_below (g := gb257) (o := .cells #[.int .i64 t249, .slice Ao58 t250.length co58, .slice Ao59 t253.length co59] 28 (0, 0)) (by (with_reducible repeat (first | refine blk_drewN ?_ _ | refine blk_drew ?_ | refine blk_alloc ?_ _)); exact BK257.out) hb)
                have n8_ := Aside0.mk (below_step (by repeat (first | exact HB.out | apply below_alloc | apply pw_below_drewN | apply below_drew1 | refine below_set ?_ GE229.out | refine below_set ?_ GE257.out)) hb)
                clear HO_230001
                clear HO_230002
                clear HO247
                clear HO252
                clear HO255
                clear BK229
                clear BK257
                clear HB
                have HO_230001 := n0_
                have HO_230002 := n1_
                have HO247 := n2_
                have HO252 := n3_
                have HO255 := n4_
                have HO260 := n5_
                have BK229 := n6_
                have BK257 := n7_
                have HB := n8_
                clear n0_ n1_ n2_ n3_ n4_ n5_ n6_ n7_ n8_
                clear hb ho63
                have p34 : 0 ≤ (0 : Int) := (by omega)
                have q34 : (0 : Int) < ((x230001_1.length : Int) : Int) := of_decide_eq_true (by assumption)
                have qi34 : (0 < x230001_1.length) = True := eq_true (by omega)
                obtain ⟨go34, co34, eo34, gb34, gl34, cl34, HG34⟩ := R_form HO_230001.out (by omega)
                have hng34 : (gb229 = go34) = False := eq_false (blk_ne BK229.out HG34 (by decide))
                have hng34' : (go34 = gb229) = False := eq_false (fun e => blk_ne BK229.out HG34 (by decide) e.symm)
                have hnx34 : (gb257 = go34) = False := eq_false (blk_ne BK257.out HG34 (by decide))
                have hnx34' : (go34 = gb257) = False := eq_false (fun e => blk_ne BK257.out HG34 (by decide) e.symm)
                (first | cases eo34 | (injection eo34 with ea_ en_ ec_; (first | subst ea_ | (injection ea_ with ea_; subst ea_)); subst ec_; clear en_))
                have GB34 := Aside0.mk gb34
                have GG34 := Aside0.mk HG34
                clear gb34 gl34 HG34
                obtain ⟨ce34, hcl34, hM34, hcc34, hfr34⟩ := R_elem HO_230001.out z42 (0 : Int) p34 q34
                obtain rfl := k42_openM hM34
                have hx34_0 : World.cell? _ ⟨go34, (0 : Int).toNat * 2, none⟩ = some (.string ((rd_T42 x230001_1 0).f0)) := hcc34 0 _ rfl
                have hx34_1 : World.cell? _ ⟨go34, (0 : Int).toNat * 2 + 1, none⟩ = some (.string ((rd_T42 x230001_1 0).f1)) := hcc34 1 _ rfl
                have hf34_0 : World.frozen? _ ⟨go34, (0 : Int).toNat * 2, none⟩ = false := hfr34 0
                have hf34_1 : World.frozen? _ ⟨go34, (0 : Int).toNat * 2 + 1, none⟩ = false := hfr34 1
                clear hcl34 hcc34 hfr34 hM34
                (try rw [show ((0 : Int)).toNat = 0 from rfl] at hx34_0)
                (try simp only [Nat.reduceMul, Nat.zero_mul, Nat.zero_add, Nat.reduceAdd] at hx34_0)
                (try rw [show ((0 : Int)).toNat = 0 from rfl] at hf34_0)
                (try simp only [Nat.reduceMul, Nat.zero_mul, Nat.zero_add, Nat.reduceAdd] at hf34_0)
                (try rw [show ((0 : Int)).toNat = 0 from rfl] at hx34_1)
                (try simp only [Nat.reduceMul, Nat.zero_mul, Nat.zero_add, Nat.reduceAdd] at hx34_1)
                (try rw [show ((0 : Int)).toNat = 0 from rfl] at hf34_1)
                (try simp only [Nat.reduceMul, Nat.zero_mul, Nat.zero_add, Nat.reduceAdd] at hf34_1)
                replace p34 := eq_true p34
                replace q34 := eq_true q34
                obtain ⟨ce65, hcl65, hM65, hcc65, hfr65⟩ := R_elem HO_230001.out z42 (0 : Int) (by omega) (by have h_ : (0 : Int) < ((x230001_1.length : Int) : Int) := of_decide_eq_true (by assumption); first | exact h_ | (have e_ := (R_reads' HO_230001.out).1; omega) | simpa using h_)
                obtain rfl := k42_openM hM65
                have HP65 := (R_seg HO_230001.out (0 : Int) (by omega) (by have h_ : (0 : Int) < ((x230001_1.length : Int) : Int) := of_decide_eq_true (by assumption); first | exact h_ | (have e_ := (R_reads' HO_230001.out).1; omega) | simpa using h_) (seg := [.string (strOfNums y258)]) (j := 1) hcl65 hcc65 (show 2 ≤ 2 from by decide) (x' := (⟨(rd_T42 x230001_1 0).f0, strOfNums y258⟩ : S42)) (k42_mkM _ _ _ (⟨(rd_T42 x230001_1 0).f0, strOfNums y258⟩ : S42) ) (fun _ hk => hk)).1
                rw [← Ny261.out] at HP65
                have HQ65 := Aside0.mk HP65
                clear hcl65 hcc65 hfr65 hM65 HP65
                refine hK.out _ _ ⟨(blk_cell BK229.out 0).trans rfl, (blk_cell BK229.out 1).trans rfl, (blk_cell BK229.out 2).trans rfl⟩ (fun hHeld => ?_)
                clear hK K
                refine norm_ (a' := ?_) ?_ ?_
                rotate_left
                ·show Act.put _ (some 63) _ = _
                 simp only [Act.put, sA, sB, sC, i64_w, i32_w]
                 rfl
                refine one_ (i := 3) (N := some 64) #[true, true, true, true, false, false, false] rfl rfl (by kernel_rfl) (by decide) (fun K hK => ?_)
                have hcv64 := own_string (P := Try.prog) Try.underlying23 Try.underlying5 Try.underlying9 (Kd.own_of_R HO260.out)
                refine value_ (w1 := ?_) (v := ?_) (by rfl) rfl ?_ ?_
                rotate_left 2
                ·go_simp
                 constructor
                 ·rfl
                 ·rfl
                clear hcv64
                refine hK.out _ _ ⟨(blk_cell BK229.out 0).trans rfl, (blk_cell BK229.out 1).trans rfl, (blk_cell BK229.out 2).trans rfl⟩ (fun hHeld => ?_)
                clear hK K
                refine norm_ (a' := ?_) ?_ ?_
                rotate_left
                ·show Act.put _ (some 64) _ = _
                 simp only [Act.put, sA, sB, sC, i64_w, i32_w]
                 rfl
                refine pure_ (i := 4) (N := some 65) (v := ?_) (a' := ?_) #[true, true, true, true, true, false, false] rfl rfl (by kernel_rfl) (fun _ _ _ h => h) (Or.inl ⟨by rfl, ?_⟩) ?_ ?_
                rotate_left
                ·intro w'
                 go_simp
                 with_reducible rfl
                rotate_left
                ·simp only [Act.put, sA, sB, sC, i64_w, i32_w]
                 rfl
                refine pure_ (i := 5) (N := some 66) (v := ?_) (a' := ?_) #[true, true, true, true, true, true, false] rfl rfl (by kernel_rfl) (fun _ _ _ h => h) (Or.inl ⟨by rfl, ?_⟩) ?_ ?_
                rotate_left
                ·intro w'
                 go_simp
                 with_reducible rfl
                rotate_left
                ·simp only [Act.put, sA, sB, sC, i64_w, i32_w]
                 rfl
                refine last_ (i := 6) (N := none) #[true, true, true, true, true, true, true] rfl rfl (by kernel_rfl) (by decide) (fun K hK => ?_)
                refine skip_ (w1 := ?_) (by rfl) rfl ?_ ?_
                rotate_left
                ·go_simp
                 rfl
                refine hK.out _ _ ?_
                clear hK K
                refine done_ (by kernel_rfl) ?_
                have hcz66_0 : w62.cell? ⟨gb229, 0, none⟩ = some (.int .i64 1099511627775) := (blk_cell BK229.out 0).trans rfl
                have hcz66_1 : w62.cell? ⟨gb229, 1, none⟩ = some (.slice (some ⟨go34, 0, none⟩) x230001_1.length co50) := (blk_cell BK229.out 1).trans rfl
                rw [(R_reads' HQ65.out).1] at hcz66_1
                have hcz66_2 : w62.cell? ⟨gb229, 2, none⟩ = some (.slice Ao51 x230002_2.length co51) := (blk_cell BK229.out 2).trans rfl
                have hfz66_0 := blk_frozen BK229.out 0
                have hfz66_1 := blk_frozen BK229.out 1
                have hfz66_2 := blk_frozen BK229.out 2
                try go_wp2_with (first | ((with_reducible refine gate_callee (f := 10) rfl ?_); refine goesL_ (some 69) rfl rfl Try.func10 (by kernel_rfl) rfl #[.agg #[.int .i64 1099511627775, .slice (some ⟨go34, 0, none⟩) y261.length co50, .slice Ao51 x230002_2.length co51]] rfl (by (try simp only [List.map_toArray, List.map_cons, List.map_nil]); first | done | (rw [show y261.length = x230001_1.length from (R_reads' HQ65.out).1.symm] <;> rfl) | rfl | (simp only [List.length_drop, List.length_take]; rfl)) ?_; (with_reducible refine (image_Bytes.calls k2 1099511627775 _ _ y261 _ _ x230002_2 t262 t265 _ ?side1 ?side2 ?side3 ?side4 A35.out).mono ?_); (case side1 => refine (R_reads' (e := 42) (base := w.heap.size) (ok := fun k_ => some k_ ≠ (.slice Ao58 t250.length co58 : Value).ownBlock) (n := x230001_1.length) (c := co50) ?_).2.2; exact (by (with_reducible repeat (first | apply R_alloc | apply R_drewN | apply R_drew)); exact HQ65.out)); (case side2 => rw [show y261.length = x230001_1.length from (R_reads' HQ65.out).1.symm]; exact (R_reads' HO_230001.out).2.1); (case side3 => refine (S_reads' (e := 47) (base := w.heap.size) (ok := fun k_ => some k_ ≠ (.slice Ao59 t253.length co59 : Value).ownBlock) (n := x230002_2.length) (c := co51) ?_).2.2; exact (by (with_reducible repeat (first | apply S_alloc | apply S_drewN | apply S_drew)); exact (S_mono (S_far (p := ⟨go34, 1, none⟩) (S_types HO_230002.out GG34.out (by decide)) (fun _ hk => hk.2) (.string (strOfNums y258))) (fun _ h_ => h_.1)))); (case side4 => exact (S_reads' HO_230002.out).2.1); rintro e w67 ⟨v263, rfl, ho0, hb⟩; refine ⟨_, rfl, ?_⟩; have n0_ := Aside0.mk (R_below (by (with_reducible repeat (first | apply R_alloc | apply R_drewN | apply R_drew)); exact HQ65.out) hb); have n1_ := Aside0.mk (S_below (by (with_reducible repeat (first | apply S_alloc | apply S_drewN | apply S_drew)); exact (S_mono (S_far (p := ⟨go34, 1, none⟩) (S_types HO_230002.out GG34.out (by decide)) (fun _ hk => hk.2) (.string (strOfNums y258))) (fun _ h_ => h_.1))) hb); have n2_ := Aside0.mk (R_elder' (by (with_reducible repeat (first | apply R_alloc | apply R_drewN | apply R_drew)); exact (R_mono (R_far (p := ⟨go34, 1, none⟩) (R_types HO247.out GG34.out (by decide)) (fun _ hk => hk.2) (.string (strOfNums y258))) (fun _ h_ => h_.1))) (R_base ho0) hb); have n3_ := Aside0.mk (R_below (by (with_reducible repeat (first | apply R_alloc | apply R_drewN | apply R_drew)); exact (R_mono (R_far (p := ⟨go34, 1, none⟩) (R_mono HO252.out (fun k_ hk => (⟨hk, fun e_ => hk (by rw [e_]; rfl)⟩ : _ ∧ k_ ≠ go34))) (fun _ hk => hk.2) (.string (strOfNums y258))) (fun _ h_ => h_.1))) hb); have n4_ := Aside0.mk (S_below (by (with_reducible repeat (first | apply S_alloc | apply S_drewN | apply S_drew)); exact (S_mono (S_far (p := ⟨go34, 1, none⟩) (S_types HO255.out GG34.out (by decide)) (fun _ hk => hk.2) (.string (strOfNums y258))) (fun _ h_ => h_.1))) hb); have n5_ := Aside0.mk (R_elder' (by (with_reducible repeat (first | apply R_alloc | apply R_drewN | apply R_drew)); exact (R_mono (R_far (p := ⟨go34, 1, none⟩) (R_types HO260.out GG34.out (by decide)) (fun _ hk => hk.2) (.string (strOfNums y258))) (fun _ h_ => h_.1))) (R_base ho0) hb); have n6_ := Aside0.mk (R_lower (R_new' (R_new' ho0 (R_lt (by (with_reducible repeat (first | apply R_alloc | apply R_drewN | apply R_drew)); exact (R_mono (R_far (p := ⟨go34, 1, none⟩) (R_types HO247.out GG34.out (by decide)) (fun _ hk => hk.2) (.string (strOfNums y258))) (fun _ h_ => h_.1))))) (R_lt (by (with_reducible repeat (first | apply R_alloc | apply R_drewN | apply R_drew)); exact (R_mono (R_far (p := ⟨go34, 1, none⟩) (R_types HO260.out GG34.out (by decide)) (fun _ hk => hk.2) (.string (strOfNums y258))) (fun _ h_ => h_.1))))) (below_size (by repeat (first | (with_reducible first | exact HB.out | apply below_alloc | apply pw_below_drewN | apply below_drew1 | refine below_set ?_ GB34.out | refine below_set ?_ GE229.out | refine below_set ?_ GE257.out) | exact HB.out)))); have n7_ := Aside0.mk (blk_below (g := gb229) (o := .cells #[.int .i64 1099511627775, .slice (some ⟨go34, 0, none⟩) x230001_1.length co50, .slice Ao51 x230002_2.length co51] 28 (0, 0)) (by (with_reducible repeat (first | refine blk_drewN ?_ _ | refine blk_drew ?_ | refine blk_alloc ?_ _)); refine blk_far ?_ (by have h_ := R_ne HO_230001.out BK229.out (by decide); intro e_; exact h_ (by rw [e_]; rfl)) _; (with_reducible repeat (first | refine blk_drewN ?_ _ | refine blk_drew ?_ | refine blk_alloc ?_ _)); exact BK229.out) hb); have n8_ := Aside0.mk (blk_below (g := gb257) (o := .cells #[.int .i64 t249, .slice Ao58 t250.length co58, .slice Ao59 t253.length co59] 28 (0, 0)) (by (with_reducible repeat (first | refine blk_drewN ?_ _ | refine blk_drew ?_ | refine blk_alloc ?_ _)); refine blk_far ?_ (by have h_ := R_ne HO_230001.out BK257.out (by decide); intro e_; exact h_ (by rw [e_]; rfl)) _; (with_reducible repeat (first | refine blk_drewN ?_ _ | refine blk_drew ?_ | refine blk_alloc ?_ _)); exact BK257.out) hb); have n9_ := Aside0.mk (below_step (by repeat (first | (with_reducible first | exact HB.out | apply below_alloc | apply pw_below_drewN | apply below_drew1 | refine below_set ?_ GB34.out | refine below_set ?_ GE229.out | refine below_set ?_ GE257.out) | exact HB.out)) hb); clear HO_230001; clear HO_230002; clear HO247; clear HO252; clear HO255; clear HO260; clear BK229; clear BK257; clear HB; have HO_230001 := n0_; have HO_230002 := n1_; have HO247 := n2_; have HO252 := n3_; have HO255 := n4_; have HO260 := n5_; have HO264 := n6_; have BK229 := n7_; have BK257 := n8_; have HB := n9_; clear n0_ n1_ n2_ n3_ n4_ n5_ n6_ n7_ n8_ n9_; (try clear hb); (try clear hb2); (try clear hk); (try clear hi); (try clear ho0)))
                have n0_ := Aside0.mk (R_drew HO_230001.out)
                have n1_ := Aside0.mk (S_drew HO_230002.out)
                have n2_ := Aside0.mk (R_drew HO247.out)
                have n3_ := Aside0.mk (R_drew HO252.out)
                have n4_ := Aside0.mk (S_drew HO255.out)
                have n5_ := Aside0.mk (R_drew HO260.out)
                have n6_ := Aside0.mk (R_drew HO264.out)
                have n7_ := Aside0.mk (blk_drew BK229.out)
                have n8_ := Aside0.mk (blk_drew BK257.out)
                have n9_ := Aside0.mk (below_drew1 HB.out)
                clear HO_230001
                clear HO_230002
                clear HO247
                clear HO252
                clear HO255
                clear HO260
                clear HO264
                clear BK229
                clear BK257
                clear HB
                have HO_230001 := n0_
                have HO_230002 := n1_
                have HO247 := n2_
                have HO252 := n3_
                have HO255 := n4_
                have HO260 := n5_
                have HO264 := n6_
                have BK229 := n7_
                have BK257 := n8_
                have HB := n9_
                clear n0_ n1_ n2_ n3_ n4_ n5_ n6_ n7_ n8_ n9_
                refine start_ (n := 7) (S := fun w' => w'.cell? ⟨gb229, 0, none⟩ = some (.int .i64 1099511627775) ∧ w'.cell? ⟨gb229, 1, none⟩ = some (.slice (some ⟨go34, 0, none⟩) x230001_1.length co50) ∧ w'.cell? ⟨gb229, 2, none⟩ = some (.slice Ao51 x230002_2.length co51)) (ds := [6]) #[false, false, false, false, false, false, false] (by kernel_rfl) rfl rfl ⟨(blk_cell BK229.out 0).trans rfl, (blk_cell BK229.out 1).trans rfl, (blk_cell BK229.out 2).trans rfl⟩ (fun hHeld => ?_)
                generalize w67.drew = w68 at HO_230001 HO_230002 HO247 HO252 HO255 HO260 HO264 BK229 BK257 HB hHeld ⊢
                refine pure_ (i := 0) (N := some 72) (v := ?_) (a' := ?_) #[true, false, false, false, false, false, false] rfl rfl (by kernel_rfl) (fun _ _ _ h => h) (Or.inl ⟨by rfl, ?_⟩) ?_ ?_
                rotate_left
                ·intro w'
                 go_simp
                 with_reducible rfl
                rotate_left
                ·simp only [Act.put, sA, sB, sC, i64_w, i32_w]
                 rfl
                refine take_ (i := 1) (N := some 73) (v := ?_) (a' := ?_) #[true, true, false, false, false, false, false] rfl rfl (by kernel_rfl) (fun _ _ _ h => h) (Or.inl ⟨by rfl, ?_⟩) hHeld ?_ ?_
                rotate_left
                ·rintro w' ⟨s0, s1, s2⟩
                 go_simp
                 with_reducible rfl
                rotate_left
                ·simp only [Act.put, sA, sB, sC, i64_w, i32_w]
                 rfl
                refine one_ (i := 2) (N := some 74) #[true, true, true, false, false, false, false] rfl rfl (by kernel_rfl) (by decide) (fun K hK => ?_)
                refine R_make_step (Kd.int .u8) _ 5 (by rfl) (N := 74) rfl 23 _ _ rfl 256 rfl rfl Try.underlying23 (.int .u8 0) 1 info5 rfl (by decide) (by omega) 0 (ok := fun _ => True) (okp := fun _ => True) rfl (fun _ hk => hk) trivial (by omega) (by omega) (Below.refl _ _) (Nat.le_refl _) ?_
                intro v267 w69 ho70 hb hg_ hnew_
                clear hg_ hnew_
                (first | rw [← Ny266.out] at ho70 | (simp only [Int.reduceToNat] at ho70; rw [← Ny266.out] at ho70))
                have n0_ := Aside0.mk (R_below (by (with_reducible repeat (first | apply R_alloc | apply R_drewN | apply R_drew)); exact HO_230001.out) hb)
                have n1_ := Aside0.mk (S_below (by (with_reducible repeat (first | apply S_alloc | apply S_drewN | apply S_drew)); exact HO_230002.out) hb)
                have n2_ := Aside0.mk (R_elder' (by (with_reducible repeat (first | apply R_alloc | apply R_drewN | apply R_drew)); exact HO247.out) (R_base ho70) hb)
                have n3_ := Aside0.mk (R_below (by (with_reducible repeat (first | apply R_alloc | apply R_drewN | apply R_drew)); exact HO252.out) hb)
                have n4_ := Aside0.mk (S_below (by (with_reducible repeat (first | apply S_alloc | apply S_drewN | apply S_drew)); exact HO255.out) hb)
                have n5_ := Aside0.mk (R_elder' (by (with_reducible repeat (first | apply R_alloc | apply R_drewN | apply R_drew)); exact HO260.out) (R_base ho70) hb)
                have n6_ := Aside0.mk (R_elder' (by (with_reducible repeat (first | apply R_alloc | apply R_drewN | apply R_drew)); exact HO264.out) (R_base ho70) hb)
                have n7_ := Aside0.mk (R_lower (R_new' (R_new' (R_new' ho70 (R_lt (by (with_reducible repeat (first | apply R_alloc | apply R_drewN | apply R_drew)); exact HO247.out))) (R_lt (by (with_reducible repeat (first | apply R_alloc | apply R_drewN | apply R_drew)); exact HO260.out))) (R_lt (by (with_reducible repeat (first | apply R_alloc | apply R_drewN | apply R_drew)); exact HO264.out))) (below_size (by repeat (first | exact HB.out | apply below_alloc | apply pw_below_drewN | apply below_drew1 | refine below_set ?_ GE229.out | refine below_set ?_ GE257.out))))
                have n8_ := Aside0.mk (blk_below (g := gb229) (o := .cells #[.int .i64 1099511627775, .slice (some ⟨go34, 0, none⟩) x230001_1.length co50, .slice Ao51 x230002_2.length co51] 28 (0, 0)) (by (with_reducible repeat (first | refine blk_drewN ?_ _ | refine blk_drew ?_ | refine blk_alloc ?_ _)); exact BK229.out) hb)
                have n9_ := Aside0.mk (blk_below (g := gb257) (o := .cells #[.int .i64 t249, .slice Ao58 t250.length co58, .slice Ao59 t253.length co59] 28 (0, 0)) (by (with_reducible repeat (first | refine blk_drewN ?_ _ | refine blk_drew ?_ | refine blk_alloc ?_ _)); exact BK257.out) hb)
                have n10_ := Aside0.mk (below_step (by repeat (first | exact HB.out | apply below_alloc | apply pw_below_drewN | apply below_drew1 | refine below_set ?_ GE229.out | refine below_set ?_ GE257.out)) hb)
                clear HO_230001
                clear HO_230002
                clear HO247
                clear HO252
                clear HO255
                clear HO260
                clear HO264
                clear BK229
                clear BK257
                clear HB
                have HO_230001 := n0_
                have HO_230002 := n1_
                have HO247 := n2_
                have HO252 := n3_
                have HO255 := n4_
                have HO260 := n5_
                have HO264 := n6_
                have HO268 := n7_
                have BK229 := n8_
                have BK257 := n9_
                have HB := n10_
                clear n0_ n1_ n2_ n3_ n4_ n5_ n6_ n7_ n8_ n9_ n10_
                clear hb ho70
                have p37 : 0 ≤ (0 : Int) := (by omega)
                have q37 : (0 : Int) < ((x230001_1.length : Int) : Int) := of_decide_eq_true (by assumption)
                have qi37 : (0 < x230001_1.length) = True := eq_true (by omega)
                obtain ⟨ce37, hcl37, hM37, hcc37, hfr37⟩ := R_elem HO_230001.out z42 (0 : Int) p37 q37
                obtain rfl := k42_openM hM37
                have hx37_0 : World.cell? _ ⟨go34, (0 : Int).toNat * 2, none⟩ = some (.string ((rd_T42 y261 0).f0)) := hcc37 0 _ rfl
                have hx37_1 : World.cell? _ ⟨go34, (0 : Int).toNat * 2 + 1, none⟩ = some (.string ((rd_T42 y261 0).f1)) := hcc37 1 _ rfl
                have hf37_0 : World.frozen? _ ⟨go34, (0 : Int).toNat * 2, none⟩ = false := hfr37 0
                have hf37_1 : World.frozen? _ ⟨go34, (0 : Int).toNat * 2 + 1, none⟩ = false := hfr37 1
                clear hcl37 hcc37 hfr37 hM37
                (try rw [show ((0 : Int)).toNat = 0 from rfl] at hx37_0)
                (try simp only [Nat.reduceMul, Nat.zero_mul, Nat.zero_add, Nat.reduceAdd] at hx37_0)
                (try rw [show ((0 : Int)).toNat = 0 from rfl] at hf37_0)
                (try simp only [Nat.reduceMul, Nat.zero_mul, Nat.zero_add, Nat.reduceAdd] at hf37_0)
                (try rw [show ((0 : Int)).toNat = 0 from rfl] at hx37_1)
                (try simp only [Nat.reduceMul, Nat.zero_mul, Nat.zero_add, Nat.reduceAdd] at hx37_1)
                (try rw [show ((0 : Int)).toNat = 0 from rfl] at hf37_1)
                (try simp only [Nat.reduceMul, Nat.zero_mul, Nat.zero_add, Nat.reduceAdd] at hf37_1)
                replace p37 := eq_true p37
                replace q37 := eq_true q37
                obtain ⟨ce72, hcl72, hM72, hcc72, hfr72⟩ := R_elem HO_230001.out z42 (0 : Int) (by omega) (by have h_ : (0 : Int) < ((x230001_1.length : Int) : Int) := of_decide_eq_true (by assumption); first | exact h_ | (have e_ := (R_reads' HO_230001.out).1; omega) | simpa using h_)
                obtain rfl := k42_openM hM72
                have HP72 := (R_seg HO_230001.out (0 : Int) (by omega) (by have h_ : (0 : Int) < ((x230001_1.length : Int) : Int) := of_decide_eq_true (by assumption); first | exact h_ | (have e_ := (R_reads' HO_230001.out).1; omega) | simpa using h_) (seg := [.string (strOfNums y266)]) (j := 1) hcl72 hcc72 (show 2 ≤ 2 from by decide) (x' := (⟨(rd_T42 y261 0).f0, strOfNums y266⟩ : S42)) (k42_mkM _ _ _ (⟨(rd_T42 y261 0).f0, strOfNums y266⟩ : S42) ) (fun _ hk => hk)).1
                rw [← Ny269.out] at HP72
                have HQ72 := Aside0.mk HP72
                clear hcl72 hcc72 hfr72 hM72 HP72
                refine hK.out _ _ ⟨(blk_cell BK229.out 0).trans rfl, (blk_cell BK229.out 1).trans rfl, (blk_cell BK229.out 2).trans rfl⟩ (fun hHeld => ?_)
                clear hK K
                refine norm_ (a' := ?_) ?_ ?_
                rotate_left
                ·show Act.put _ (some 74) _ = _
                 simp only [Act.put, sA, sB, sC, i64_w, i32_w]
                 rfl
                refine one_ (i := 3) (N := some 75) #[true, true, true, true, false, false, false] rfl rfl (by kernel_rfl) (by decide) (fun K hK => ?_)
                have hcv71 := own_string (P := Try.prog) Try.underlying23 Try.underlying5 Try.underlying9 (Kd.own_of_R HO268.out)
                refine value_ (w1 := ?_) (v := ?_) (by rfl) rfl ?_ ?_
                rotate_left 2
                ·go_simp
                 constructor
                 ·rfl
                 ·rfl
                clear hcv71
                refine hK.out _ _ ⟨(blk_cell BK229.out 0).trans rfl, (blk_cell BK229.out 1).trans rfl, (blk_cell BK229.out 2).trans rfl⟩ (fun hHeld => ?_)
                clear hK K
                refine norm_ (a' := ?_) ?_ ?_
                rotate_left
                ·show Act.put _ (some 75) _ = _
                 simp only [Act.put, sA, sB, sC, i64_w, i32_w]
                 rfl
                refine pure_ (i := 4) (N := some 76) (v := ?_) (a' := ?_) #[true, true, true, true, true, false, false] rfl rfl (by kernel_rfl) (fun _ _ _ h => h) (Or.inl ⟨by rfl, ?_⟩) ?_ ?_
                rotate_left
                ·intro w'
                 go_simp
                 with_reducible rfl
                rotate_left
                ·simp only [Act.put, sA, sB, sC, i64_w, i32_w]
                 rfl
                refine pure_ (i := 5) (N := some 77) (v := ?_) (a' := ?_) #[true, true, true, true, true, true, false] rfl rfl (by kernel_rfl) (fun _ _ _ h => h) (Or.inl ⟨by rfl, ?_⟩) ?_ ?_
                rotate_left
                ·intro w'
                 go_simp
                 with_reducible rfl
                rotate_left
                ·simp only [Act.put, sA, sB, sC, i64_w, i32_w]
                 rfl
                refine last_ (i := 6) (N := none) #[true, true, true, true, true, true, true] rfl rfl (by kernel_rfl) (by decide) (fun K hK => ?_)
                refine skip_ (w1 := ?_) (by rfl) rfl ?_ ?_
                rotate_left
                ·go_simp
                 rfl
                refine hK.out _ _ ?_
                clear hK K
                refine done_ (by kernel_rfl) ?_
                obtain ⟨cl69, hg69⟩ := R_typed HO_230001.out go34 rfl
                clear GG34
                have GG34 := Aside0.mk hg69
                clear hg69
                try go_wp2_with (first | ((with_reducible refine gate_callee (f := 8) rfl ?_); refine goesL_ (some 79) rfl rfl Try.func8 (by kernel_rfl) rfl #[.int .i64 t248] rfl (by (try simp only [List.map_toArray, List.map_cons, List.map_nil]); first | done | rfl | (simp only [List.length_drop, List.length_take]; rfl)) ?_; (with_reducible refine (lecternlaw17_num.calls t248 t270 _ A38.out).mono ?_); rintro e w' ⟨rfl, ⟨nd, rfl⟩⟩; refine ⟨_, rfl, ?_⟩) | (go_at_call 8; (with_reducible refine (lecternlaw17_num.calls t256 t271 _ A41.out).mono ?_); rintro e w' ⟨rfl, ⟨nd, rfl⟩⟩; have hcz73_0 : w69.cell? ⟨gb257, 0, none⟩ = some (.int .i64 t249) := (blk_cell BK257.out 0).trans rfl; have hcz73_1 : w69.cell? ⟨gb257, 1, none⟩ = some (.slice Ao58 t250.length co58) := (blk_cell BK257.out 1).trans rfl; have hcz73_2 : w69.cell? ⟨gb257, 2, none⟩ = some (.slice Ao59 t253.length co59) := (blk_cell BK257.out 2).trans rfl; have hfz73_0 := blk_frozen BK257.out 0; have hfz73_1 := blk_frozen BK257.out 1; have hfz73_2 := blk_frozen BK257.out 2; have hcz74_0 : w69.cell? ⟨gb229, 0, none⟩ = some (.int .i64 1099511627775) := (blk_cell BK229.out 0).trans rfl; have hcz74_1 : w69.cell? ⟨gb229, 1, none⟩ = some (.slice (some ⟨go34, 0, none⟩) x230001_1.length co50) := (blk_cell BK229.out 1).trans rfl; have hcz74_2 : w69.cell? ⟨gb229, 2, none⟩ = some (.slice Ao51 x230002_2.length co51) := (blk_cell BK229.out 2).trans rfl; have hfz74_0 := blk_frozen BK229.out 0; have hfz74_1 := blk_frozen BK229.out 1; have hfz74_2 := blk_frozen BK229.out 2) | (go_at_call 9; refine calls_of_args (args' := #[.agg #[.int .i64 t249, .slice Ao58 t250.length co58, .slice Ao59 t253.length co59], .agg #[.int .i64 1099511627775, .slice (some ⟨go34, 0, none⟩) y269.length co50, .slice Ao51 x230002_2.length co51]]) (by first | (rw [show y269.length = x230001_1.length from (R_reads' HQ72.out).1.symm] <;> rfl) | rfl) ?_; (with_reducible refine (lecternref0_EqState.calls k2 t249 _ _ t250 _ _ t253 1099511627775 _ _ y269 _ _ x230002_2 true _ ?side1 ?side2 ?side3 ?side4 ?side5 ?side6 ?side7 ?side8 A43.out).mono ?_); (case side1 => refine (R_reads' (e := 42) (base := w.heap.size) (ok := fun k_ => some k_ ≠ (.slice (some ⟨go34, 0, none⟩) x230001_1.length co50 : Value).ownBlock) (n := t250.length) (c := co58) ?_).2.2; exact (by (with_reducible repeat (first | apply R_alloc | apply R_drewN | apply R_drew)); exact (R_mono (R_far (p := ⟨go34, 1, none⟩) (R_mono HO252.out (fun k_ hk => (⟨hk, fun e_ => hk (by rw [e_]; rfl)⟩ : _ ∧ k_ ≠ go34))) (fun _ hk => hk.2) (.string (strOfNums y266))) (fun _ h_ => h_.1)))); (case side2 => exact (R_reads' HO252.out).2.1); (case side3 => refine (S_reads' (e := 47) (base := w.heap.size) (ok := fun k_ => some k_ ≠ (.slice Ao51 x230002_2.length co51 : Value).ownBlock) (n := t253.length) (c := co59) ?_).2.2; exact (by (with_reducible repeat (first | apply S_alloc | apply S_drewN | apply S_drew)); exact (S_mono (S_far (p := ⟨go34, 1, none⟩) (S_types HO255.out GG34.out (by decide)) (fun _ hk => hk.2) (.string (strOfNums y266))) (fun _ h_ => h_.1)))); (case side4 => exact (S_reads' HO255.out).2.1); (case side5 => refine (R_reads' (e := 42) (base := w.heap.size) (ok := fun k_ => some k_ ≠ (.slice Ao58 t250.length co58 : Value).ownBlock) (n := x230001_1.length) (c := co50) ?_).2.2; exact (by (with_reducible repeat (first | apply R_alloc | apply R_drewN | apply R_drew)); exact HQ72.out)); (case side6 => rw [show y269.length = x230001_1.length from (R_reads' HQ72.out).1.symm]; exact (R_reads' HO_230001.out).2.1); (case side7 => refine (S_reads' (e := 47) (base := w.heap.size) (ok := fun k_ => some k_ ≠ (.slice Ao59 t253.length co59 : Value).ownBlock) (n := x230002_2.length) (c := co51) ?_).2.2; exact (by (with_reducible repeat (first | apply S_alloc | apply S_drewN | apply S_drew)); exact (S_mono (S_far (p := ⟨go34, 1, none⟩) (S_types HO_230002.out GG34.out (by decide)) (fun _ hk => hk.2) (.string (strOfNums y266))) (fun _ h_ => h_.1)))); (case side8 => exact (S_reads' HO_230002.out).2.1); rintro e w75 ⟨rfl, hb⟩; have n0_ := Aside0.mk (R_below (by (with_reducible repeat (first | apply R_alloc | apply R_drewN | apply R_drew)); exact HQ72.out) hb); have n1_ := Aside0.mk (S_below (by (with_reducible repeat (first | apply S_alloc | apply S_drewN | apply S_drew)); exact (S_mono (S_far (p := ⟨go34, 1, none⟩) (S_types HO_230002.out GG34.out (by decide)) (fun _ hk => hk.2) (.string (strOfNums y266))) (fun _ h_ => h_.1))) hb); have n2_ := Aside0.mk (R_below (by (with_reducible repeat (first | apply R_alloc | apply R_drewN | apply R_drew)); exact (R_mono (R_far (p := ⟨go34, 1, none⟩) (R_types HO247.out GG34.out (by decide)) (fun _ hk => hk.2) (.string (strOfNums y266))) (fun _ h_ => h_.1))) hb); have n3_ := Aside0.mk (R_below (by (with_reducible repeat (first | apply R_alloc | apply R_drewN | apply R_drew)); exact (R_mono (R_far (p := ⟨go34, 1, none⟩) (R_mono HO252.out (fun k_ hk => (⟨hk, fun e_ => hk (by rw [e_]; rfl)⟩ : _ ∧ k_ ≠ go34))) (fun _ hk => hk.2) (.string (strOfNums y266))) (fun _ h_ => h_.1))) hb); have n4_ := Aside0.mk (S_below (by (with_reducible repeat (first | apply S_alloc | apply S_drewN | apply S_drew)); exact (S_mono (S_far (p := ⟨go34, 1, none⟩) (S_types HO255.out GG34.out (by decide)) (fun _ hk => hk.2) (.string (strOfNums y266))) (fun _ h_ => h_.1))) hb); have n5_ := Aside0.mk (R_below (by (with_reducible repeat (first | apply R_alloc | apply R_drewN | apply R_drew)); exact (R_mono (R_far (p := ⟨go34, 1, none⟩) (R_types HO260.out GG34.out (by decide)) (fun _ hk => hk.2) (.string (strOfNums y266))) (fun _ h_ => h_.1))) hb); have n6_ := Aside0.mk (R_below (by (with_reducible repeat (first | apply R_alloc | apply R_drewN | apply R_drew)); exact (R_mono (R_far (p := ⟨go34, 1, none⟩) (R_types HO264.out GG34.out (by decide)) (fun _ hk => hk.2) (.string (strOfNums y266))) (fun _ h_ => h_.1))) hb); have n7_ := Aside0.mk (R_below (by (with_reducible repeat (first | apply R_alloc | apply R_drewN | apply R_drew)); exact (R_mono (R_far (p := ⟨go34, 1, none⟩) (R_types HO268.out GG34.out (by decide)) (fun _ hk => hk.2) (.string (strOfNums y266))) (fun _ h_ => h_.1))) hb); have n8_ := Aside0.mk (blk_below (g := gb229) (o := .cells #[.int .i64 1099511627775, .slice (some ⟨go34, 0, none⟩) x230001_1.length co50, .slice Ao51 x230002_2.length co51] 28 (0, 0)) (by (with_reducible repeat (first | refine blk_drewN ?_ _ | refine blk_drew ?_ | refine blk_alloc ?_ _)); refine blk_far ?_ (by have h_ := R_ne HO_230001.out BK229.out (by decide); intro e_; exact h_ (by rw [e_]; rfl)) _; (with_reducible repeat (first | refine blk_drewN ?_ _ | refine blk_drew ?_ | refine blk_alloc ?_ _)); exact BK229.out) hb); have n9_ := Aside0.mk (blk_below (g := gb257) (o := .cells #[.int .i64 t249, .slice Ao58 t250.length co58, .slice Ao59 t253.length co59] 28 (0, 0)) (by (with_reducible repeat (first | refine blk_drewN ?_ _ | refine blk_drew ?_ | refine blk_alloc ?_ _)); refine blk_far ?_ (by have h_ := R_ne HO_230001.out BK257.out (by decide); intro e_; exact h_ (by rw [e_]; rfl)) _; (with_reducible repeat (first | refine blk_drewN ?_ _ | refine blk_drew ?_ | refine blk_alloc ?_ _)); exact BK257.out) hb); have n10_ := Aside0.mk (below_step (by repeat (first | (with_reducible first | exact HB.out | apply below_alloc | apply pw_below_drewN | apply below_drew1 | refine below_set ?_ GB34.out | refine below_set ?_ GE229.out | refine below_set ?_ GE257.out) | exact HB.out)) hb); clear HO_230001; clear HO_230002; clear HO247; clear HO252; clear HO255; clear HO260; clear HO264; clear HO268; clear BK229; clear BK257; clear HB; have HO_230001 := n0_; have HO_230002 := n1_; have HO247 := n2_; have HO252 := n3_; have HO255 := n4_; have HO260 := n5_; have HO264 := n6_; have HO268 := n7_; have BK229 := n8_; have BK257 := n9_; have HB := n10_; clear n0_ n1_ n2_ n3_ n4_ n5_ n6_ n7_ n8_ n9_ n10_; (try clear hb); (try clear hb2); (try clear hk); (try clear hi)) | (go_at_call 8; (with_reducible refine (lecternlaw17_num.calls t265 t273 _ A45.out).mono ?_); rintro e w' ⟨rfl, ⟨nd, rfl⟩⟩) | (go_at_call 12; (with_reducible refine (lecternlaw17_wakes.calls k2  t274 _ A48.out).mono ?_); rintro e w76 ⟨rfl, hb⟩; have n0_ := Aside0.mk (R_below (by (with_reducible repeat (first | apply R_alloc | apply R_drewN | apply R_drew)); exact HO_230001.out) hb); have n1_ := Aside0.mk (S_below (by (with_reducible repeat (first | apply S_alloc | apply S_drewN | apply S_drew)); exact HO_230002.out) hb); have n2_ := Aside0.mk (R_below (by (with_reducible repeat (first | apply R_alloc | apply R_drewN | apply R_drew)); exact HO247.out) hb); have n3_ := Aside0.mk (R_below (by (with_reducible repeat (first | apply R_alloc | apply R_drewN | apply R_drew)); exact HO252.out) hb); have n4_ := Aside0.mk (S_below (by (with_reducible repeat (first | apply S_alloc | apply S_drewN | apply S_drew)); exact HO255.out) hb); have n5_ := Aside0.mk (R_below (by (with_reducible repeat (first | apply R_alloc | apply R_drewN | apply R_drew)); exact HO260.out) hb); have n6_ := Aside0.mk (R_below (by (with_reducible repeat (first | apply R_alloc | apply R_drewN | apply R_drew)); exact HO264.out) hb); have n7_ := Aside0.mk (R_below (by (with_reducible repeat (first | apply R_alloc | apply R_drewN | apply R_drew)); exact HO268.out) hb); have n8_ := Aside0.mk (blk_below (g := gb229) (o := .cells #[.int .i64 1099511627775, .slice (some ⟨go34, 0, none⟩) x230001_1.length co50, .slice Ao51 x230002_2.length co51] 28 (0, 0)) (by (with_reducible repeat (first | refine blk_drewN ?_ _ | refine blk_drew ?_ | refine blk_alloc ?_ _)); exact BK229.out) hb); have n9_ := Aside0.mk (blk_below (g := gb257) (o := .cells #[.int .i64 t249, .slice Ao58 t250.length co58, .slice Ao59 t253.length co59] 28 (0, 0)) (by (with_reducible repeat (first | refine blk_drewN ?_ _ | refine blk_drew ?_ | refine blk_alloc ?_ _)); exact BK257.out) hb); have n10_ := Aside0.mk (below_step (by repeat (first | exact HB.out | apply below_alloc | apply pw_below_drewN | apply below_drew1 | refine below_set ?_ GE229.out | refine below_set ?_ GE257.out)) hb); clear HO_230001; clear HO_230002; clear HO247; clear HO252; clear HO255; clear HO260; clear HO264; clear HO268; clear BK229; clear BK257; clear HB; have HO_230001 := n0_; have HO_230002 := n1_; have HO247 := n2_; have HO252 := n3_; have HO255 := n4_; have HO260 := n5_; have HO264 := n6_; have HO268 := n7_; have BK229 := n8_; have BK257 := n9_; have HB := n10_; clear n0_ n1_ n2_ n3_ n4_ n5_ n6_ n7_ n8_ n9_ n10_; (try clear hb); (try clear hb2); (try clear hk); (try clear hi)))
                go_ret
                exact ⟨by first | rfl | (simp [errW_none, errW_some] <;> rfl) | (simp [*, errW_none, errW_some] <;> rfl), by repeat (first | exact HB.out | apply below_alloc | apply pw_below_drewN | apply below_drew1 | refine below_set ?_ GE229.out | refine below_set ?_ GE257.out)⟩
               ·rw [if_neg c47] at H
                exact absurd H (by simp)
              ·rw [if_neg c46] at H
               exact absurd H (by simp)
             ·rw [if_neg c44] at H
              exact absurd H (by simp)
            ·rw [if_neg c42] at H
             exact absurd H (by simp)
           ·rw [if_neg c40] at H
            exact absurd H (by simp)
          ·rw [if_neg c39] at H
           exact absurd H (by simp)
         ·rw [if_neg c36] at H
          exact absurd H (by simp)
        ·rw [if_neg c33] at H
         exact absurd H (by simp)
       ·rw [if_neg c32] at H
        exact absurd H (by simp)

end Go.Proofs.Yticlghbdapbdnaa.I
