/- TiersPlans: classes and plans of any numbers are the reference's. The plain law, and its step to the law's argument. -/
import Derived.Test.YtfjndhlkdckieaaPlans
import Derived.Test.YtfjndhlkdckieaaQx14
namespace Go.Proofs.Ytfjndhlkdckieaa.Q
open Go.RowKit Go.Proofs.YtfjndhlkdckieaaW.PrintWords Go.Proofs.YtfjndhlkdckieaaW.PrintLast Go.Proofs.YtfjndhlkdckieaaW.PrintMore Go.Proofs.Ytfjndhlkdckieaa.Opening Go.Proofs.Ytfjndhlkdckieaa.Base
set_option linter.unusedVariables false
set_option linter.unusedSimpArgs false

theorem plans_loop (L : List (List S137)) (l : List Int) (hl : l.length ≤ 17592186044416) (hi : Ints l) : ∀ (d k : Nat) (i : Int), 0 ≤ i → i ≤ l.length → (l.length : Int) - i = d → 5 * l.length + 2 * d + 300 ≤ k → lecternlaw12_TiersPlans.l0 k i L l = some true := by
  have last : ∀ (k : Nat) (i : Int), 5 * l.length + 299 ≤ k → lecternlaw12_TiersPlans.j1 k i false L l = some true := by
    intro k i hk
    obtain ⟨k, rfl⟩ : ∃ m, k = m + 1 := ⟨k - 1, by omega⟩
    simp only [lecternlaw12_TiersPlans.j1]
    obtain ⟨r, hr1, hr2⟩ := plan_same l hl hi k (by omega)
    rw [if_neg (by simp), copy_is l hl k (by omega)]
    simp only [Option.bind_some]
    rw [hr1]
    simp only [Option.bind_some]
    rw [hr2]
    simp only [Option.bind_some, if_true]
    rw [if_pos (by simp), eq_same l hl k (by omega)]
    simp only [Option.bind_some, if_true]
    rw [wakes_true k (by omega)]
    rfl
  intro d
  induction d with
  | zero =>
    intro k i h0 h1 hd hk
    obtain ⟨k, rfl⟩ : ∃ m, k = m + 1 := ⟨k - 1, by omega⟩
    simp only [lecternlaw12_TiersPlans.l0]
    rw [if_neg (by omega)]
    exact last k i (by omega)
  | succ d ih =>
    intro k i h0 h1 hd hk
    obtain ⟨k, rfl⟩ : ∃ m, k = m + 1 + 1 := ⟨k - 2, by omega⟩
    simp only [lecternlaw12_TiersPlans.l0]
    rw [if_pos (by omega)]
    by_cases h : i < 30
    · rw [decide_eq_true h]
      simp only [lecternlaw12_TiersPlans.j1]
      have hx := hi _ (rd_mem h0 (show i < l.length by omega))
      obtain ⟨m, rfl⟩ : ∃ m, k = m + 1 := ⟨k - 1, by omega⟩
      rw [if_pos trivial, if_pos h0, if_pos (by omega), class_is m _ hx]
      simp only [Option.bind_some]
      rw [ref_class_is (m + 1) (by omega) _ hx]
      simp only [Option.bind_some, if_true]
      rw [wrap64_in _ (by omega) (by omega)]
      exact ih (m + 1) (i + 1) (by omega) (by omega) (by omega) (by omega)
    · rw [decide_eq_false h]
      exact last (k + 1) i (by omega)
theorem plans_true (L : List (List S137)) (l : List Int) (hL : ∀ l ∈ L, Docs l) (hLl : L.length ≤ 140737488351232) (hl : l.length ≤ 17592186044416) (hi : Ints l) : ∃ k, lecternlaw12_TiersPlans.f k L l = some true := by
  refine ⟨500000000000000, ?_⟩
  unfold lecternlaw12_TiersPlans.f
  obtain ⟨b, hb⟩ := heavy_some L l hL hLl (by omega) 500000000000000 (by omega)
  rw [hb]
  simp only [Option.bind_some]
  by_cases h : b = true
  · rw [if_pos h]
  · rw [if_neg h]
    exact plans_loop L l hl hi l.length _ 0 (by omega) (by omega) (by omega) (by omega)
theorem opens_137 : Opens Try.prog 137 k137 (fun b => b.f0.size ≤ 140737488351232 ∧ b.f1.size ≤ 140737488351232) :=
  opens_struct (fun x : S137 => (x.f0, x.f1)) (fun p => ⟨p.1, p.2⟩) (fun _ => rfl) Try.underlying137 (by kernel_rfl)
    (show OpensFs Try.prog [9, 9] _ _ from opens_cons (opens_string Try.underlying9 (by kernel_rfl)) (opens_last (opens_string Try.underlying9 (by kernel_rfl))))
def kLists : Kd (List (List S137) × List Int) := Kd.iso (Kd.pair (Kd.slice 95 (Kd.slice 137 k137)) (Kd.slice 3 (Kd.int .i64))) id
def LOk (x : List (List S137) × List Int) : Prop := (x.1.length * 24 ≤ 140737488351232 ∧ ∀ l ∈ x.1, (l.length * 32 ≤ 140737488351232 ∧ ∀ b ∈ l, b.f0.size ≤ 140737488351232 ∧ b.f1.size ≤ 140737488351232)) ∧ (x.2.length * 8 ≤ 140737488351232 ∧ ∀ y ∈ x.2, (Lit.int .i64 y).wf = true)
theorem opens_71 : Opens Try.prog 71 kLists LOk :=
  opens_struct id id (fun _ => rfl) Try.underlying71 (by kernel_rfl)
    (show OpensFs Try.prog [69, 36] _ _ from opens_cons (opens_slice Try.underlying69 (by kernel_rfl) (by kernel_rfl) (opens_slice Try.underlying95 (by kernel_rfl) (by kernel_rfl) opens_137)) (opens_last (opens_slice Try.underlying36 (by kernel_rfl) (by kernel_rfl) (opens_int Try.underlying3 (by kernel_rfl)))))
theorem walk (x : List (List S137) × List Int) (cs : List Value) (w : World) (hk : kLists.K w x cs) (ok : LOk x) :
    Calls Try.prog 11 #[.agg ⟨cs⟩] w fun e w' => e = .returned (.bool true) ∧ Below w.heap.size w w' := by
  obtain ⟨L, l⟩ := x
  obtain ⟨c0, c1, rfl, ⟨A0, n0, rfl, h0, hC0⟩, ⟨A1, n1, rfl, h1, hC1⟩⟩ := hk
  obtain ⟨⟨a1, a2⟩, ⟨a3, a4⟩⟩ := ok
  simp only [id] at *
  obtain ⟨k, h⟩ := plans_true L l (fun l hl => ⟨(a2 l hl).1, (a2 l hl).2⟩) (by omega) (by omega) (fun x hx => (i64_bounds (a4 x hx)).2)
  refine (lecternlaw12_TiersPlans.calls k A0 n0 L A1 n1 l true w hC0 h0 hC1 h1 h).mono ?_
  rintro e w' ⟨rfl, hd⟩
  exact ⟨rfl, hd⟩
end Go.Proofs.Ytfjndhlkdckieaa.Q
