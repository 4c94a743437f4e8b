/- RandomSpread's Go text, walked, with what the plain law of the step says of its counts. -/
import Derived.Test.YtfjndhlkdckieaaPRandomSpreadx
import Derived.Test.YtfjndhlkdckieaaSpread
namespace Go.Proofs.Ytfjndhlkdckieaa.PRandomSpread
open Go.RowKit Go.Proofs.YtfjndhlkdckieaaW.PrintWords Go.Proofs.YtfjndhlkdckieaaW.PrintLast Go.Proofs.YtfjndhlkdckieaaW.PrintMore Go.Proofs.Ytfjndhlkdckieaa.Opening Go.Proofs.Ytfjndhlkdckieaa.Base Go.Proofs.Ytfjndhlkdckieaa.Xor
set_option linter.unusedVariables false
set_option linter.unusedSimpArgs false

theorem next_is (s : Nat) (h : s < 2 ^ 64) : random_Next.f (s : Int) = some ((next s : Nat) : Int) := by
  unfold random_Next.f next
  by_cases h0 : s = 0
  · subst h0
    rw [if_pos (show ((0 : Nat) : Int) = 0 from rfl), if_pos rfl]
    exact congrArg some (T_term 11400714819323198485 (by decide))
  · rw [if_neg (by omega), if_neg h0]
    exact congrArg some (T_term s h)
theorem below_is (s : Nat) (h : s < 2 ^ 64) : random_Below.f (s : Int) 8 = some (((next s : Nat) : Int), ((next s % 8 : Nat) : Int)) := by
  unfold random_Below.f
  rw [next_is s h]
  simp only [Option.bind_some]
  have hw := wrap_u64_in 8 (by omega) (by omega)
  rw [if_neg (by omega), hw, if_neg (by omega)]
  have h0 : (0 : Int) ≤ ((next s : Nat) : Int) := Int.natCast_nonneg _
  rw [Int.tmod_eq_emod_of_nonneg h0]
  rw [wrap64_in _ (by omega) (by omega)]
  rfl
theorem wakes_true : lecternlaw21_wakes.f = some true := by
  unfold lecternlaw21_wakes.f random_Next.f
  decide +kernel
def cells (s k : Nat) : Array Value := ((List.range 8).map fun v => Value.int .i64 (cnt s v k : Nat)).toArray
theorem cells_zero (s : Nat) : cells s 0 = #[.int .i64 0, .int .i64 0, .int .i64 0, .int .i64 0, .int .i64 0, .int .i64 0, .int .i64 0, .int .i64 0] := rfl
theorem start_cells (W : World) (s : Nat) : (W.alloc (.cells #[.int .i64 0, .int .i64 0, .int .i64 0, .int .i64 0, .int .i64 0, .int .i64 0, .int .i64 0, .int .i64 0] 31)).heap[W.heap.size]? = some (.cells (cells s 0) 31 (0, 0)) := by
  rw [cells_zero]
  exact heap_alloc_new W _
theorem cells_step (s k n : Nat) (hn : n = next (stp s k) % 8) : (cells s k).setIfInBounds n (.int .i64 (((cnt s n k : Nat) : Int) + 1)) = cells s (k + 1) := by
  have h8 : n < 8 := by rw [hn]; exact Nat.mod_lt _ (by decide)
  apply Array.ext
  · simp [cells]
  · intro j h1 h2
    simp [cells] at h1
    rw [Array.getElem_setIfInBounds (by simpa [cells] using h1)]
    by_cases hj : n = j
    · subst hj
      simp only [if_true]
      simp only [cells, cnt, List.getElem_toArray, List.getElem_map, List.getElem_range]
      rw [if_pos (show stp s (k + 1) % 8 = n from hn.symm)]
      rfl
    · rw [if_neg hj]
      simp only [cells, cnt, List.getElem_toArray, List.getElem_map, List.getElem_range]
      rw [if_neg (fun (h : stp s (k + 1) % 8 = j) => hj (hn.trans h))]
      rfl
def Fit (b : S27) : Prop := 0 ≤ b.f0 ∧ b.f0 < 2 ^ 64
set_option maxHeartbeats 1000000 in
set_option maxRecDepth 100000 in
theorem walk0 (A : Option Addr) (c : Nat) (l : List S27) (w : World) (hC : Kd.C k27 w A l.length l) (hc : l.length ≤ c) (hl : l.length ≤ 140737488351232) (hf : ∀ x ∈ l, Fit x) :
    Calls Try.prog 5 #[.slice A l.length c] w fun e w' => e = .returned (.bool true) ∧ Below w.heap.size w w' := by
  have HR := Aside0.mk hC
  have HC0 := Aside0.mk hc
  have HF := Aside0.mk hf
  clear hC hc hf
  go_enter Try.func5, Try.ntmps5
  go_wp2
  go_loopg [3] l.length (fun kq v3 w' => ∃ i : Nat, v3 = .int .i64 i ∧ Aside0 (kq + i = l.length) ∧ Aside0 (Below w.heap.size w w'))
  case atStart => exact ⟨0, rfl, ⟨by omega⟩, ⟨Below.refl _ _⟩⟩
  case round =>
    obtain ⟨i, rfl, HK, HB⟩ := hrel
    obtain ⟨wo, rfl⟩ : ∃ wo : World, wo = wr := ⟨_, rfl⟩
    by_cases hi : i < l.length
    · by_cases h4 : i < 4
      · have hfit : Fit (rd_T27 l i) := by
          unfold rd_T27
          rw [List.getD_eq_getElem?_getD, List.getElem?_eq_getElem (by simpa using hi)]
          exact HF.out _ (List.getElem_mem _)
        obtain ⟨s, hs⟩ := Int.eq_ofNat_of_zero_le hfit.1
        have hs2 : s < 2 ^ 64 := by have := hfit.2; rw [hs] at this; omega
        obtain ⟨ad, rfl, hx0, hx1⟩ := at_T27 (Kd.C_below HR.out HB.out) (i : Int) (by omega) (by omega)
        rw [hs, Int.toNat_natCast] at hx0
        clear hx1
        have HS := Aside0.mk hs
        have HS2 := Aside0.mk hs2
        clear hs hs2 hfit
        have h4b : decide ((i : Int) < 4) = true := decide_eq_true (by omega)
        go_wp2
        go_loopg [4, 6, 7, 8] 400 (fun kq v4 v6 v7 v8 w2 => ∃ k : Nat, v4 = .int .u64 (stp s k : Nat) ∧ v6 = .int .i64 k ∧ Aside0 (kq + k = 400) ∧ Aside0 (w2.heap[wo.heap.size]? = some (.cells (cells s k) 31 (0, 0))) ∧ Aside0 (Below w.heap.size w w2))
        case atStart => exact ⟨0, rfl, rfl, ⟨by omega⟩, ⟨start_cells wo s⟩, ⟨HB.out.alloc HB.out.size _⟩⟩
        case round =>
          obtain ⟨k, rfl, rfl, HK2, HG2, HB2⟩ := hrel
          by_cases hk : k < 400
          · have hn : next (stp s k) % 8 < 8 := Nat.mod_lt _ (by decide)
            have A1 := Aside0.mk (below_is (stp s k) (stp_lt HS2.out k))
            obtain ⟨n, hnn⟩ : ∃ n, n = next (stp s k) % 8 := ⟨_, rfl⟩
            rw [← hnn] at A1 hn
            have HN := Aside0.mk hnn
            clear hnn
            have hcell : wr.cell? ⟨wo.heap.size, n, none⟩ = some (.int .i64 ((cnt s n k : Nat) : Int)) := by
              rw [blk_cell HG2.out]
              simp [cells, hn]
            have hfroz : wr.frozen? ⟨wo.heap.size, n, none⟩ = false := blk_frozen HG2.out n
            have hcn : ((cnt s n k : Nat) : Int) ≤ 400 := by have := cnt_le s n k; omega
            go_wp2_with (go_at_call 15; (with_reducible refine (random_Below.calls _ _ _ _ _ A1.out).mono ?_); rintro e w' ⟨rfl, ⟨nd, rfl⟩⟩)
            go_roundg (399 - k)
            case measure => have := HK2.out; omega
            case rel =>
              refine ⟨k + 1, rfl, by go_num, ⟨by have := HK2.out; omega⟩, ⟨?_⟩, ⟨?_⟩⟩
              · have h1 := blk_set (w := wr.drewN nd) (g := wo.heap.size) (t := 31) (cs := cells s k) HG2.out n (.int .i64 (((cnt s n k : Nat) : Int) + 1))
                rw [cells_step s k n HN.out] at h1
                exact h1
              · exact (pw_below_drewN HB2.out nd).setCell (by have := HB.out.size; simp; omega) _
          · have hk4 : k = 400 := by have := HK2.out; omega
            have HK4 := Aside0.mk hk4
            clear hk4
            go_wp2
            obtain ⟨w2, rfl⟩ : ∃ w2 : World, w2 = wr := ⟨_, rfl⟩
            go_loopg [9] 8 (fun kq v9 w3 => ∃ m : Nat, v9 = .int .i64 m ∧ Aside0 (kq + m = 8) ∧ Aside0 (w3.heap[wo.heap.size]? = some (.cells (cells s k) 31 (0, 0))) ∧ Aside0 (Below w.heap.size w w3))
            case atStart => exact ⟨0, rfl, ⟨by omega⟩, HG2, HB2⟩
            case round =>
              obtain ⟨m, rfl, HK3, HG3, HB3⟩ := hrel
              by_cases hm : m < 8
              · have hcell : wr.cell? ⟨wo.heap.size, m, none⟩ = some (.int .i64 ((cnt s m k : Nat) : Int)) := by
                  rw [blk_cell HG3.out]
                  simp [cells, hm]
                have hcn : ((cnt s m k : Nat) : Int) ≤ 399 := by have := spread HS2.out m; rw [← HK4.out] at this; omega
                go_wp2
                go_roundg (7 - m)
                case measure => have := HK3.out; omega
                case rel => exact ⟨m + 1, by go_num, ⟨by have := HK3.out; omega⟩, HG3, HB3⟩
              · obtain ⟨ad', had, hx3, _⟩ := at_T27 (Kd.C_below HR.out HB3.out) (i : Int) (by omega) (by omega)
                obtain rfl := Option.some.inj had
                rw [HS.out, Int.toNat_natCast] at hx3
                clear hx0
                by_cases hs0 : s = 0
                · subst hs0
                  have e0 : (((0 : Nat) : Int) != 0) = false := rfl
                  go_wp2
                  go_roundg (l.length - (i + 1))
                  case measure => have := HK.out; omega
                  case rel => exact ⟨i + 1, by go_num, ⟨by have := HK.out; omega⟩, ⟨HB3.out⟩⟩
                · by_cases hs1 : s = 1
                  · subst hs1
                    have e0 : (((1 : Nat) : Int) != 0) = true := rfl
                    have e1 : (((1 : Nat) : Int) != 1) = false := rfl
                    go_wp2
                    go_roundg (l.length - (i + 1))
                    case measure => have := HK.out; omega
                    case rel => exact ⟨i + 1, by go_num, ⟨by have := HK.out; omega⟩, ⟨HB3.out⟩⟩
                  · have e0 : (((s : Nat) : Int) != 0) = true := by rw [bne_iff_ne]; omega
                    have e1 : (((s : Nat) : Int) != 1) = true := by rw [bne_iff_ne]; omega
                    have A2 := Aside0.mk (next_is s HS2.out)
                    have A3 : Aside0 (random_Next.f 1 = some ((next 1 : Nat) : Int)) := ⟨next_is 1 (by decide)⟩
                    have e2 : (((next s : Nat) : Int) == ((next 1 : Nat) : Int)) = false := by
                      have := next_inj_one HS2.out hs0 hs1
                      rw [beq_eq_false_iff_ne]; omega
                    have H2 := Aside0.mk e2
                    clear hs0 hs1 e2
                    generalize next s = q1 at A2 H2
                    generalize next 1 = q2 at A3 H2
                    go_wp2_with fail
                    refine (random_Next.calls _ _ _ A2.out).mono ?_
                    rintro e w' ⟨rfl, ⟨nd1, rfl⟩⟩
                    go_wp2_with fail
                    refine (random_Next.calls _ _ _ A3.out).mono ?_
                    rintro e w' ⟨rfl, ⟨nd2, rfl⟩⟩
                    have e2 := H2.out
                    go_wp2_with fail
                    go_roundg (l.length - (i + 1))
                    case measure => have := HK.out; omega
                    case rel => exact ⟨i + 1, by go_num, ⟨by have := HK.out; omega⟩, ⟨by first | exact pw_below_drewN (pw_below_drewN HB3.out _) _ | exact pw_below_drewN HB3.out _⟩⟩
      · have h4b : decide ((i : Int) < 4) = false := decide_eq_false (by omega)
        have AW := Aside0.mk wakes_true
        go_wp2_with (go_at_call 19; (with_reducible refine (lecternlaw21_wakes.calls _ _ AW.out).mono ?_); rintro e w' ⟨rfl, ⟨nd, rfl⟩⟩)
        go_ret
        exact ⟨rfl, pw_below_drewN HB.out _⟩
    · have AW := Aside0.mk wakes_true
      go_wp2_with (go_at_call 19; (with_reducible refine (lecternlaw21_wakes.calls _ _ AW.out).mono ?_); rintro e w' ⟨rfl, ⟨nd, rfl⟩⟩)
      go_ret
      exact ⟨rfl, pw_below_drewN HB.out _⟩
theorem opens_27 : Opens Try.prog 27 k27 (fun b => (Lit.int .u64 b.f0).wf = true ∧ (Lit.int .i64 b.f1).wf = true) :=
  opens_struct (fun x : S27 => (x.f0, x.f1)) (fun p => ⟨p.1, p.2⟩) (fun _ => rfl) Try.underlying27 (by kernel_rfl)
    (show OpensFs Try.prog [23, 3] _ _ from opens_cons (opens_int Try.underlying23 (by kernel_rfl)) (opens_last (opens_int Try.underlying3 (by kernel_rfl))))
theorem opens_22 : Opens Try.prog 22 (Kd.slice 27 k27) (fun l => l.length * 16 ≤ 140737488351232 ∧ ∀ x ∈ l, (Lit.int .u64 x.f0).wf = true ∧ (Lit.int .i64 x.f1).wf = true) :=
  opens_slice Try.underlying22 (by kernel_rfl) (by kernel_rfl) opens_27
theorem walk (A : Option Addr) (c : Nat) (l : List S27) (w : World) (hC : Kd.C k27 w A l.length l) (hc : l.length ≤ c)
    (ok : l.length * 16 ≤ 140737488351232 ∧ ∀ x ∈ l, (Lit.int .u64 x.f0).wf = true ∧ (Lit.int .i64 x.f1).wf = true) :
    Calls Try.prog 5 #[.slice A l.length c] w fun e w' => e = .returned (.bool true) ∧ Below w.heap.size w w' :=
  walk0 A c l w hC hc (by omega) (fun x hx => by have := u64_bounds (ok.2 x hx).1; exact ⟨by omega, by omega⟩)
end Go.Proofs.Ytfjndhlkdckieaa.PRandomSpread
