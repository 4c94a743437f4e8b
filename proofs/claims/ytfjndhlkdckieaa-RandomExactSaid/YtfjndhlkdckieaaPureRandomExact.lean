/- The program's generator and the reference's compute the same function of any seed and bound; so the law answers true on every list. Plain Lean, no program. -/
import Derived.Test.YtfjndhlkdckieaaPRandomExactx1
import Derived.Test.YtfjndhlkdckieaaBase
namespace Go.Proofs.Ytfjndhlkdckieaa.PRandomExact
open Go.RowKit Go.Proofs.YtfjndhlkdckieaaW.PrintWords Go.Proofs.YtfjndhlkdckieaaW.PrintLast Go.Proofs.YtfjndhlkdckieaaW.PrintMore Go.Proofs.Ytfjndhlkdckieaa.Opening Go.Proofs.Ytfjndhlkdckieaa.Base

theorem next_same (a : Int) : random_Next.f a = lecternref21_Next.f a := rfl
theorem below_same (a n : Int) : random_Below.f a n = lecternref21_Below.f a n := rfl
theorem next_some (a : Int) : ∃ r, random_Next.f a = some r := by
  unfold random_Next.f
  split <;> exact ⟨_, rfl⟩
theorem u64_pos (n : Int) (h : 1 ≤ n) (hw : n ≤ 9223372036854775807) : IntKind.u64.wrap n ≠ 0 := by
  rw [wrap_u64_in n (by omega) (by omega)]
  omega
theorem below_some (a n : Int) (hn : n ≤ 9223372036854775807) : ∃ r, random_Below.f a n = some r := by
  unfold random_Below.f
  obtain ⟨r, hr⟩ := next_some a
  rw [hr]
  simp only [Option.bind_some]
  by_cases h : n < 1
  · rw [if_pos h]; exact ⟨_, rfl⟩
  · rw [if_neg h, if_neg (u64_pos n (by omega) hn)]; exact ⟨_, rfl⟩
theorem wakes_true : lecternlaw21_wakes.f = some true := by
  unfold lecternlaw21_wakes.f random_Next.f
  decide +kernel
def Fit (b : S27) : Prop := b.f1 ≤ 9223372036854775807
theorem loop_true (l : List S27) (hl : l.length ≤ 140737488351232) (hf : ∀ x ∈ l, Fit x) (d : Nat) : ∀ (k : Nat) (i : Int), 0 ≤ i → i ≤ l.length → (l.length : Int) - i = d → 2 * d + 2 ≤ k → lecternlaw21_RandomExact.l0 k l i = some true := by
  induction d with
  | zero =>
    intro k i h0 h1 hd hk
    obtain ⟨k, rfl⟩ : ∃ m, k = m + 1 + 1 := ⟨k - 2, by omega⟩
    simp only [lecternlaw21_RandomExact.l0]
    rw [if_neg (by omega)]
    simp only [lecternlaw21_RandomExact.j1]
    rw [if_neg (by simp), wakes_true]
    rfl
  | succ d ih =>
    intro k i h0 h1 hd hk
    obtain ⟨k, rfl⟩ : ∃ m, k = m + 1 + 1 := ⟨k - 2, by omega⟩
    simp only [lecternlaw21_RandomExact.l0]
    rw [if_pos (by omega)]
    simp only [lecternlaw21_RandomExact.j1]
    by_cases h40 : i < 40
    · rw [if_pos (by simp [h40]), if_pos h0, if_pos (by omega)]
      have hfit : Fit (rd_T27 l i) := by
        unfold rd_T27
        have hi : i.toNat < l.length := by omega
        rw [List.getD_eq_getElem?_getD, List.getElem?_eq_getElem hi]
        exact hf _ (List.getElem_mem hi)
      obtain ⟨r, hr⟩ := below_some (rd_T27 l i).f0 (rd_T27 l i).f1 hfit
      obtain ⟨q, hq⟩ := next_some (rd_T27 l i).f0
      rw [← below_same, hr]
      simp only [Option.bind_some, if_true]
      rw [← next_same, hq]
      simp only [Option.bind_some, if_true]
      have hw : wrap64 (i + 1) = i + 1 := by unfold wrap64; omega
      rw [hw]
      exact ih k (i + 1) (by omega) (by omega) (by omega) (by omega)
    · rw [if_neg (by simp [h40]), wakes_true]
      rfl
theorem opens_27 : Opens Try.prog 27 k27 (fun b => (Lit.int .u64 b.f0).wf = true ∧ (Lit.int .i64 b.f1).wf = true) :=
  opens_struct (fun x : S27 => (x.f0, x.f1)) (fun p => ⟨p.1, p.2⟩) (fun _ => rfl) Try.underlying27 (by kernel_rfl)
    (show OpensFs Try.prog [23, 3] _ _ from opens_cons (opens_int Try.underlying23 (by kernel_rfl)) (opens_last (opens_int Try.underlying3 (by kernel_rfl))))
theorem opens_22 : Opens Try.prog 22 (Kd.slice 27 k27) (fun l => l.length * 16 ≤ 140737488351232 ∧ ∀ x ∈ l, (Lit.int .u64 x.f0).wf = true ∧ (Lit.int .i64 x.f1).wf = true) :=
  opens_slice Try.underlying22 (by kernel_rfl) (by kernel_rfl) opens_27
theorem walk (A : Option Addr) (c : Nat) (l : List S27) (w : World) (hC : Kd.C k27 w A l.length l) (hc : l.length ≤ c)
    (ok : l.length * 16 ≤ 140737488351232 ∧ ∀ x ∈ l, (Lit.int .u64 x.f0).wf = true ∧ (Lit.int .i64 x.f1).wf = true) :
    Calls Try.prog 3 #[.slice A l.length c] w fun e w' => e = .returned (.bool true) ∧ Below w.heap.size w w' := by
  refine (lecternlaw21_RandomExact.calls (2 * l.length + 2) A c l true w hC hc (loop_true l (by omega) (fun x hx => (i64_bounds (ok.2 x hx).2).2) l.length _ 0 (by omega) (by omega) (by omega) (by omega))).mono ?_
  rintro e w' ⟨rfl, hd⟩
  exact ⟨rfl, hd.below⟩
end Go.Proofs.Ytfjndhlkdckieaa.PRandomExact
