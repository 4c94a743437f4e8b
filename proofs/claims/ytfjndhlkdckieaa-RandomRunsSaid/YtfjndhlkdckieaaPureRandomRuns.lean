/- Next never answers 0 nor what came in, and Below's number lies below its bound: by the linear algebra of the step. Plain Lean, no program but for the last two theorems. -/
import Derived.Test.YtfjndhlkdckieaaPRandomRunsx
import Derived.Test.YtfjndhlkdckieaaXor
namespace Go.Proofs.Ytfjndhlkdckieaa.PRandomRuns
open Go.RowKit Go.Proofs.YtfjndhlkdckieaaW.PrintWords Go.Proofs.YtfjndhlkdckieaaW.PrintLast Go.Proofs.YtfjndhlkdckieaaW.PrintMore Go.Proofs.Ytfjndhlkdckieaa.Opening Go.Proofs.Ytfjndhlkdckieaa.Base Go.Proofs.Ytfjndhlkdckieaa.Xor

theorem next_is (s : Nat) (h : s < 2 ^ 64) : random_Next.f (s : Int) = some ((next s : Nat) : Int) := by
  unfold random_Next.f next
  by_cases h0 : s = 0
  · subst h0
    rw [if_pos (show ((0 : Nat) : Int) = 0 from rfl), if_pos rfl]
    exact congrArg some (T_term 11400714819323198485 (by decide))
  · rw [if_neg (by omega), if_neg h0]
    exact congrArg some (T_term s h)
theorem below_is (s : Nat) (h : s < 2 ^ 64) (n : Int) (hn : n ≤ 9223372036854775807) :
    ∃ q : Int, random_Below.f (s : Int) n = some (((next s : Nat) : Int), q) ∧ (n < 1 → q = 0) ∧ (1 ≤ n → 0 ≤ q ∧ q < n) := by
  unfold random_Below.f
  rw [next_is s h]
  simp only [Option.bind_some]
  by_cases h1 : n < 1
  · rw [if_pos h1]
    exact ⟨0, rfl, fun _ => rfl, fun h => by omega⟩
  · have hw := wrap_u64_in n (by omega) (by omega)
    rw [if_neg h1, hw, if_neg (by omega)]
    have h0 : (0 : Int) ≤ ((next s : Nat) : Int) := Int.natCast_nonneg _
    have hlt := Int.tmod_lt_of_pos ((next s : Nat) : Int) (show 0 < n by omega)
    have hnn := Int.tmod_nonneg n h0
    rw [wrap64_in _ (by omega) (by omega)]
    exact ⟨_, rfl, fun h => absurd h h1, fun _ => ⟨hnn, hlt⟩⟩
theorem wakes_true : lecternlaw21_wakes.f = some true := by
  unfold lecternlaw21_wakes.f random_Next.f
  decide +kernel
def Fit (b : S27) : Prop := (0 ≤ b.f0 ∧ b.f0 < 2 ^ 64) ∧ b.f1 ≤ 9223372036854775807
theorem inner (l : List S27) (i : Int) (h0 : 0 ≤ i) (h1 : i < l.length) (hl : l.length ≤ 140737488351232) (hf : Fit (rd_T27 l i)) (K : Nat) (hK : ∀ k, K ≤ k → lecternlaw21_RandomRuns.l0 k l (i + 1) = some true) (d : Nat) :
    ∀ (k : Nat) (s : Nat) (x : Int), s < 2 ^ 64 → 0 ≤ x → x ≤ 20 → 20 - x = d → K + d + 1 ≤ k → lecternlaw21_RandomRuns.l1 k l i (s : Int) x = some true := by
  have hw : wrap64 (i + 1) = i + 1 := wrap64_in _ (by omega) (by omega)
  induction d with
  | zero =>
    intro k s x hs hx hx2 hd hk
    obtain ⟨k, rfl⟩ : ∃ m, k = m + 1 := ⟨k - 1, by omega⟩
    simp only [lecternlaw21_RandomRuns.l1]
    rw [if_neg (by omega), hw]
    exact hK k (by omega)
  | succ d ih =>
    intro k s x hs hx hx2 hd hk
    obtain ⟨k, rfl⟩ : ∃ m, k = m + 1 := ⟨k - 1, by omega⟩
    obtain ⟨q, hq, hq0, hq1⟩ := below_is s hs (rd_T27 l i).f1 hf.2
    have hne0 := next_ne_zero hs
    have hne := next_ne hs
    have hlt := next_lt hs
    have hxw : wrap64 (x + 1) = x + 1 := wrap64_in _ (by omega) (by omega)
    have hgo : lecternlaw21_RandomRuns.l1 k l i ((next s : Nat) : Int) (x + 1) = some true := ih k (next s) (x + 1) hlt (by omega) (by omega) (by omega) (by omega)
    simp only [lecternlaw21_RandomRuns.l1]
    rw [if_pos (by omega), next_is s hs]
    simp only [Option.bind_some]
    rw [if_pos h0, if_pos h1, hq]
    simp only [Option.bind_some]
    rw [if_neg (by omega), if_neg (by omega), if_pos trivial, hxw]
    by_cases hn : (rd_T27 l i).f1 > 0
    · have h2 := hq1 (by omega)
      rw [if_pos hn, if_neg (by omega), if_neg (by omega), if_neg (by omega)]
      exact hgo
    · have h2 := hq0 (by omega)
      rw [if_neg hn, if_pos (by omega), if_pos h2]
      exact hgo
theorem outer (l : List S27) (hl : l.length ≤ 140737488351232) (hf : ∀ x ∈ l, Fit x) (d : Nat) : ∀ (k : Nat) (i : Int), 0 ≤ i → i ≤ l.length → (l.length : Int) - i = d → 24 * d + 2 ≤ k → lecternlaw21_RandomRuns.l0 k l i = some true := by
  induction d with
  | zero =>
    intro k i h0 h1 hd hk
    obtain ⟨k, rfl⟩ : ∃ m, k = m + 1 + 1 := ⟨k - 2, by omega⟩
    simp only [lecternlaw21_RandomRuns.l0]
    rw [if_neg (by omega)]
    simp only [lecternlaw21_RandomRuns.j1]
    rw [if_neg (by simp), wakes_true]
    rfl
  | succ d ih =>
    intro k i h0 h1 hd hk
    obtain ⟨k, rfl⟩ : ∃ m, k = m + 1 + 1 := ⟨k - 2, by omega⟩
    simp only [lecternlaw21_RandomRuns.l0]
    rw [if_pos (by omega)]
    simp only [lecternlaw21_RandomRuns.j1]
    by_cases h40 : i < 40
    · rw [if_pos (by simp [h40]), if_pos h0, if_pos (by omega)]
      have hfit : Fit (rd_T27 l i) := by
        unfold rd_T27
        have hi : i.toNat < l.length := by omega
        rw [List.getD_eq_getElem?_getD, List.getElem?_eq_getElem hi]
        exact hf _ (List.getElem_mem hi)
      obtain ⟨s, hs⟩ := Int.eq_ofNat_of_zero_le hfit.1.1
      have hs2 : s < 2 ^ 64 := by have := hfit.1.2; rw [hs] at this; omega
      rw [hs]
      exact inner l i h0 (by omega) hl hfit (24 * d + 2) (fun k hk => ih k (i + 1) (by omega) (by omega) (by omega) hk) 20 k s 0 hs2 (by omega) (by omega) (by omega) (by omega)
    · rw [if_neg (by simp [h40]), wakes_true]
      rfl
theorem opens_27 : Opens Try.prog 27 k27 (fun b => (Lit.int .u64 b.f0).wf = true ∧ (Lit.int .i64 b.f1).wf = true) :=
  opens_struct (fun x : S27 => (x.f0, x.f1)) (fun p => ⟨p.1, p.2⟩) (fun _ => rfl) Try.underlying27 (by kernel_rfl)
    (show OpensFs Try.prog [23, 3] _ _ from opens_cons (opens_int Try.underlying23 (by kernel_rfl)) (opens_last (opens_int Try.underlying3 (by kernel_rfl))))
theorem opens_22 : Opens Try.prog 22 (Kd.slice 27 k27) (fun l => l.length * 16 ≤ 140737488351232 ∧ ∀ x ∈ l, (Lit.int .u64 x.f0).wf = true ∧ (Lit.int .i64 x.f1).wf = true) :=
  opens_slice Try.underlying22 (by kernel_rfl) (by kernel_rfl) opens_27
theorem walk (A : Option Addr) (c : Nat) (l : List S27) (w : World) (hC : Kd.C k27 w A l.length l) (hc : l.length ≤ c)
    (ok : l.length * 16 ≤ 140737488351232 ∧ ∀ x ∈ l, (Lit.int .u64 x.f0).wf = true ∧ (Lit.int .i64 x.f1).wf = true) :
    Calls Try.prog 4 #[.slice A l.length c] w fun e w' => e = .returned (.bool true) ∧ Below w.heap.size w w' := by
  refine (lecternlaw21_RandomRuns.calls (24 * l.length + 2) A c l true w hC hc (outer l (by omega) (fun x hx => ⟨by have := u64_bounds (ok.2 x hx).1; omega, (i64_bounds (ok.2 x hx).2).2⟩) l.length _ 0 (by omega) (by omega) (by omega) (by omega))).mono ?_
  rintro e w' ⟨rfl, hd⟩
  exact ⟨rfl, hd.below⟩
end Go.Proofs.Ytfjndhlkdckieaa.PRandomRuns
