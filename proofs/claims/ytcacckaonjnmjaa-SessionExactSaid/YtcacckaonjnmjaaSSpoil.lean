/- Sessions: what spoils a row of sessions without hits (lecternlaw0.Sessions). -/
import Derived.Test.YtcacckaonjnmjaaSHand
namespace Go.Proofs.Ytcacckaonjnmjaa.S
open Go.RowKit Go.Proofs.YtcacckaonjnmjaaW.PrintWords Go.Proofs.YtcacckaonjnmjaaW.PrintLast Go.Proofs.YtcacckaonjnmjaaW.PrintMore
set_option linter.unusedVariables false
set_option linter.unusedSimpArgs false
theorem info116' : (Try.prog.info? 116).map (fun i => (i.zero, i.size, i.bytes)) = some (some (.agg #[.string ⟨#[]⟩, .int .i64 0]), 2, 24) := by kernel_rfl
set_option maxHeartbeats 1600000 in
set_option maxRecDepth 100000 in
theorem hits71 (w : World) : Calls Try.prog 71 #[.slice none 0 0] w fun e w' => e = .returned (.tuple #[]) ∧ Below w.heap.size w w' := by
  go_enter Try.func71, Try.ntmps71
  go_wp2_with fail
  go_loopg [2] 1 (fun kq v2 w' => v2 = .int .i64 0 ∧ Aside0 (w' = w))
  case atStart => exact ⟨rfl, ⟨rfl⟩⟩
  case round =>
    obtain ⟨rfl, HW⟩ := hrel
    have hw := HW.out
    subst hw
    go_wp2_with ((with_reducible refine gate_builtin (b := .append) (xs := #[.tmp 13, .tmp 15]) rfl ?_); at_builtin; refine Kd.R_append k116 (w0 := wr) wr.heap.size rfl (.tmp 13) (.tmp 15) 29 116 (.agg #[.string ⟨#[]⟩, .int .i64 0]) 24 rfl Try.underlying29 info116' rfl (by decide) (by omega) (.slice none 0 0) [] (⟨⟨#[]⟩, 0⟩ : S116) [.string ⟨#[]⟩, .int .i64 0] (fun _ => True) (fun _ => False) rfl rfl (k116_mkM _ _ _ (⟨⟨#[]⟩, 0⟩ : S116)) (fun _ hk => hk.elim) (fun _ _ => trivial) (Kd.R_nil _ _ _ _ _) (Below.refl _ _) (Nat.le_refl _) (by simp) ?_; intro v1 w9 hr hb hg hat; have HB9 := Aside0.mk hb; clear hr hb hg hat)
    go_end0
    exact ⟨rfl, HB9.out⟩
def nineS : S88 := ⟨-9, 0, ⟨0, 0, []⟩, 0⟩
theorem flat_nine : ∀ (xs : List S88) (i : Nat), i < xs.length →
    ((((((flatF xs).set (i * 6) (.int .i64 (-9))).set (i * 6 + 1) (.int .i64 0)).set (i * 6 + 2) (.int .i64 0)).set (i * 6 + 3) (.int .i64 0)).set (i * 6 + 4) (.slice none 0 0)).set (i * 6 + 5) (.int .i64 0) = flatF (xs.set i nineS)
  | x :: t, 0, _ => rfl
  | x :: t, i + 1, h => by
    have ih := flat_nine t i (Nat.lt_of_succ_lt_succ h)
    have e (j : Nat) : (i + 1) * 6 + j = i * 6 + j + 6 := by omega
    have e0 : (i + 1) * 6 = i * 6 + 6 := by omega
    rw [e, e, e, e, e, e0]
    show _ = encF x ++ flatF (t.set i nineS)
    rw [← ih, flatF_cons]
    generalize flatF t = F
    rfl
theorem kF_nine {w : World} {B : Nat} {g c n : Nat} {xs : List S88} (h : Kd.R kF 88 w B (fun _ => True) (.slice (some ⟨g, 0, none⟩) n c) xs) (i : Nat) (hi : i < xs.length) :
    Kd.R kF 88 ((((((w.setCell ⟨g, i * 6, none⟩ (.int .i64 (-9))).setCell ⟨g, i * 6 + 1, none⟩ (.int .i64 0)).setCell ⟨g, i * 6 + 2, none⟩ (.int .i64 0)).setCell ⟨g, i * 6 + 3, none⟩ (.int .i64 0)).setCell ⟨g, i * 6 + 4, none⟩ (.slice none 0 0)).setCell ⟨g, i * 6 + 5, none⟩ (.int .i64 0)) B (fun _ => True) (.slice (some ⟨g, 0, none⟩) n c) (xs.set i nineS) := by
  obtain ⟨hn, g', c', cur, e, hb, hh, h2, hcm, hcs, ht⟩ := kF_open h (by omega)
  simp only [Value.slice.injEq, Option.some.injEq, Addr.mk.injEq] at e
  obtain ⟨⟨rfl, _⟩, rfl, rfl⟩ := e
  have hl : (xs.set i nineS).length = xs.length := List.length_set
  have hh6 := blk_set (blk_set (blk_set (blk_set (blk_set (blk_set hh (i * 6) (.int .i64 (-9))) (i * 6 + 1) (.int .i64 0)) (i * 6 + 2) (.int .i64 0)) (i * 6 + 3) (.int .i64 0)) (i * 6 + 4) (.slice none 0 0)) (i * 6 + 5) (.int .i64 0)
  rw [← hl]
  refine kF_shut (fun y hy' => ?_) hb hh6 (by rw [hl]; exact h2) hcm (by simp only [Array.size_setIfInBounds]; exact hcs) ?_
  · rcases List.mem_or_eq_of_mem_set hy' with hm | rfl
    · exact hn y hm
    · rfl
  · simp only [Array.toList_setIfInBounds]
    rw [hl, List.take_set, List.take_set, List.take_set, List.take_set, List.take_set, List.take_set, ht]
    exact flat_nine xs i hi
theorem flat_hit (xs : List S88) (i : Nat) (hi : i < xs.length) (j : Nat) (u : Value) (hj : (encF xs[i])[j]? = some u) : (flatF xs)[i * 6 + j]? = some u := by
  have h := flatF_at xs i xs[i] (List.getElem?_eq_getElem hi)
  have hj6 : j < 6 := by
    have := (List.getElem?_eq_some_iff.1 hj).1
    rw [encF_len] at this
    exact this
  rw [← h, List.getElem?_take_of_lt hj6, List.getElem?_drop] at hj
  exact hj
theorem kF_cell1 {w : World} {B : Nat} {g c n : Nat} {xs : List S88} (h : Kd.R kF 88 w B (fun _ => True) (.slice (some ⟨g, 0, none⟩) n c) xs) (i : Nat) (hi : i < xs.length) (j : Nat) (u : Value) (hj : (encF xs[i])[j]? = some u) : w.cell? ⟨g, i * 6 + j, none⟩ = some u ∧ w.frozen? ⟨g, i * 6 + j, none⟩ = false := by
  obtain ⟨hn, g', c', cur, e, hb, hh, h2, hcm, hcs, ht⟩ := kF_open h (by omega)
  simp only [Value.slice.injEq, Option.some.injEq, Addr.mk.injEq] at e
  obtain ⟨⟨rfl, _⟩, rfl, rfl⟩ := e
  refine ⟨?_, blk_frozen hh _⟩
  rw [blk_cell hh]
  have h1 := flat_hit xs i hi j u hj
  have hj6 : j < 6 := by
    have := (List.getElem?_eq_some_iff.1 hj).1
    rw [encF_len] at this
    exact this
  rw [← ht, List.getElem?_take_of_lt (by omega)] at h1
  rw [← Array.getElem?_toList]
  exact h1
set_option maxHeartbeats 3200000 in
set_option maxRecDepth 100000 in
theorem sessions34 (v : Value) (xs : List S88) (B : Nat) (w : World) (hl : xs.length ≤ 1000000) (hB : B ≤ w.heap.size) (h : Kd.R kF 88 w B (fun _ => True) v xs) :
    Calls Try.prog 34 #[v] w fun e w' => e = .returned (.tuple #[]) ∧ Below B w w' := by
  obtain ⟨A, c, rfl⟩ := Kd.R_slice h
  have HR := Aside0.mk h
  have HL := Aside0.mk hl
  have HBS := Aside0.mk hB
  clear h hl hB
  obtain ⟨n, hn⟩ : ∃ n, n = xs.length := ⟨_, rfl⟩
  rw [← hn] at HR ⊢
  have HN := Aside0.mk hn
  clear hn
  have hu88 := Try.underlying88
  go_enter Try.func34, Try.ntmps34
  go_wp2_with fail
  go_loopg [2] n (fun kq v2 w' => ∃ (i : Nat) (ys : List S88), v2 = .int .i64 i ∧ Aside0 (i + kq = n) ∧ Aside0 (ys.length = n) ∧ Aside0 (Kd.R kF 88 w' B (fun _ => True) (.slice A n c) ys) ∧ Aside0 (Below B w w'))
  case atStart => exact ⟨0, xs, rfl, ⟨by omega⟩, ⟨HN.out.symm⟩, HR, ⟨Below.refl _ _⟩⟩
  case round =>
    clear HR
    obtain ⟨i, ys, rfl, HIK, HYL, HR, HB⟩ := hrel
    by_cases hi : i < n
    · have hd : decide ((i : Int) < (n : Int)) = true := decide_eq_true (by omega)
      have hform := kF_open HR.out (by have := HYL.out; omega)
      have hd2 : decide (i < n) = true := decide_eq_true hi
      obtain ⟨hnil, g, c', cur, e, hbg, hh, hjk⟩ := hform
      clear hjk
      simp only [Value.slice.injEq] at e
      obtain ⟨rfl, hjk, rfl⟩ := e
      clear hjk
      have hyi : i < ys.length := by have := HYL.out; omega
      have hx : (encF ys[i])[4]? = some (.slice none 0 0) := rfl
      have HI := Aside0.mk hi
      have HYI := Aside0.mk hyi
      have HG := Aside0.mk hbg
      have HH : Aside0 (g < wr.heap.size) := ⟨blk_lt hh⟩
      have x4 := (kF_cell1 HR.out i hyi 4 _ hx).1
      have p0 : ((0 : Int) ≤ (i : Int)) = True := eq_true (by omega)
      have q0 : ((i : Int) < (n : Int)) = True := eq_true (by omega)
      have HW1 : Aside0 (wrap64 ((i : Int) + 1) = ((i + 1 : Nat) : Int)) := ⟨by have := HN.out; have := HL.out; unfold wrap64; omega⟩
      clear hnil hbg hh hx hi hyi
      go_wp2_with fail
      refine (hits71 wr).mono ?_
      rintro e w1 ⟨rfl, hb1⟩
      have HR1 := Aside0.mk (Kd.R_below HR.out hb1)
      have HB1 : Aside0 (Below B w w1) := ⟨HB.out.trans (hb1.mono (by have := HB.out.size; have := HBS.out; omega))⟩
      obtain ⟨z0, f0⟩ : w1.cell? ⟨g, i * 6, none⟩ = some _ ∧ w1.frozen? ⟨g, i * 6, none⟩ = false := kF_cell1 HR1.out i HYI.out 0 _ rfl
      obtain ⟨z1, f1⟩ := kF_cell1 HR1.out i HYI.out 1 _ rfl
      obtain ⟨z2, f2⟩ := kF_cell1 HR1.out i HYI.out 2 _ rfl
      obtain ⟨z3, f3⟩ := kF_cell1 HR1.out i HYI.out 3 _ rfl
      obtain ⟨z4, f4⟩ := kF_cell1 HR1.out i HYI.out 4 _ rfl
      obtain ⟨z5, f5⟩ := kF_cell1 HR1.out i HYI.out 5 _ rfl
      clear hb1 x4 HR HB
      go_wp2_with fail
      go_roundg (gk - 1)
      case measure => have := HIK.out; have := HI.out; omega
      case rel => exact ⟨i + 1, ys.set i nineS, by rw [HW1.out], ⟨by have := HIK.out; have := HI.out; omega⟩, ⟨by rw [List.length_set]; exact HYL.out⟩, ⟨kF_nine HR1.out i HYI.out⟩, ⟨(((((HB1.out.setCell HG.out _).setCell HG.out _).setCell HG.out _).setCell HG.out _).setCell HG.out _).setCell HG.out _⟩⟩
    · have hd : decide ((i : Int) < (n : Int)) = false := decide_eq_false (by omega)
      go_wp2_with ((with_reducible refine gate_builtin (b := .append) (xs := #[.tmp 20, .tmp 22]) rfl ?_); at_builtin; refine Kd.R_append kF (w0 := wr) B rfl (.tmp 20) (.tmp 22) 22 88 (.agg #[.int .i64 0, .int .i64 0, .int .i64 0, .int .i64 0, .slice none 0 0, .int .i64 0]) 64 rfl Try.underlying22 info88 rfl (by decide) (by omega) (.slice A n c) ys (⟨0, 0, ⟨0, 0, []⟩, 0⟩ : S88) [.int .i64 0, .int .i64 0, .int .i64 0, .int .i64 0, .slice none 0 0, .int .i64 0] (fun _ => True) (fun _ => False) rfl rfl ⟨rfl, rfl⟩ (fun _ hk => hk.elim) (fun _ _ => trivial) HR.out (Below.refl _ _) (by have := HB.out.size; have := HBS.out; omega) (by have := HYL.out; have := HN.out; have := HL.out; omega) ?_; intro v1 w9 hr hb hg hat; have HB9 : Aside0 (Below B w w9) := ⟨HB.out.trans hb⟩; clear hr hb hg hat)
      go_end0
      exact ⟨rfl, HB9.out⟩
end Go.Proofs.Ytcacckaonjnmjaa.S
