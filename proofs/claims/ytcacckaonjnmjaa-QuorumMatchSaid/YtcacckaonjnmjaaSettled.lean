/- quorum.Settled, quorum.Index: what they answer. -/
import Derived.Test.YtcacckaonjnmjaaIter
import Derived.Test.YtcacckaonjnmjaaLayQ
import Derived.Test.YtcacckaonjnmjaaQMin
import Derived.Sort.OwnSorted
import Derived.Lib.Hide
import Derived.Lib.SlKeysI
namespace Go.Proofs.Ytcacckaonjnmjaa.It
open Go.RowKit Go.Shelf Go.Sort
attribute [local go_sem] Oper.semAt_some
set_option linter.unusedVariables false
set_option linter.unusedSimpArgs false
def le (x y : Int) : Bool := decide (x ≤ y)
set_option maxRecDepth 100000 in
set_option maxHeartbeats 2000000 in
theorem sorted_in (n : Nat) (hn : 5 ≤ n) (Bs cap : Nat) (ad : Addr) (zs : List Int) (hlen : zs.length ≤ 1000) (h0 : 0 < zs.length) (w : World) (hBs : Bs < w.heap.size)
    (hc : w.cell? ⟨Bs, 0, none⟩ = some (.slice (some ad) zs.length cap)) (hb : ad.block < w.heap.size) (hI : ∀ j, j < zs.length → w.cell? (ad.add j) = some (.int .i64 (zs[j]?.getD 0))) :
    CallsIn Fence.wide n Try.prog 93 #[.func (.func 109) #[] #[.pointer (some ⟨Bs, 0, none⟩)]] w fun e W' => ∃ v, e = .returned v ∧ W'.ownsRow w.heap.size 3 1 v zs.length ((zs.mergeSort fun x y => decide (x ≤ y)).map (Value.int .i64)) ∧ Below w.heap.size w W' := by
  have h1 : 1 ≤ n := by omega
  have hf107 : Fence.wide.fn 107 := trivial
  have hf108 : Fence.wide.fn 108 := trivial
  refine callsIn_of_wp Try.func93 rfl trivial ?_ rfl
  simp only [Try.ntmps93, List.size_toArray, List.length_cons, List.length_nil, Nat.reduceAdd, Nat.reduceSub, Array.replicate_succ, Array.replicate_zero, List.push_toArray, List.append_toArray, List.nil_append, List.cons_append]
  gi_wp2_with (gi_at_call 107; refine (collect_in Fence.wide (n - 1) trivial trivial trivial rfl (by omega) Bs cap ad zs hlen _ hBs hc hb hI).mono ?_; rintro e W ⟨v, rfl, hrow, hb2⟩)
  rcases hrow.2 with ⟨rfl, hz⟩ | ⟨gb, cp, cur, rfl, hbase, hgb, r1, r2, r3, r4⟩
  · omega
  · have hH : Holds (Value.int .i64) W gb 0 zs.toArray := holds_of_block_i hgb (by simpa using r4)
    have hgl : gb < W.heap.size := (Array.getElem?_eq_some_iff.1 hgb).1
    have cS : Calls Try.prog 108 #[.slice (some ⟨gb, 0, none⟩) zs.length cp] W fun e w' => e = .returned (.tuple #[]) ∧ ∃ n os, w' = grow (putRow (Value.int .i64) (Sort.ahead W n) gb 0 (zs.mergeSort fun x y => decide (x ≤ y)).toArray) os :=
      Any.slices_Sort_int Try.lays189 gb 0 cp zs W hH hgl (by omega)
    gi_wp2_with (gi_at_call 108; refine (callsIn_wide.2 cS).mono ?_; rintro e w' ⟨rfl, nn, os, rfl⟩)
    go_ret
    exact ⟨_, rfl, ownsRow_sorted_i (by simp) hbase hgb r1 r2 r3, hb2.grown (grownBy_sorted_i _) hb2.size (fun j hj => by cases hj; exact hbase)⟩
def mid (zs : List Int) : Int := ((zs.mergeSort fun x y => decide (x ≤ y))[(zs.length - 1) / 2]?).getD 0
theorem ownsRow_cell {w : World} {base e n : Nat} {v : Value} {xs : List Value} (h : w.ownsRow base e 1 v n xs) (h0 : 0 < n) : ∃ g cap, v = .slice (some ⟨g, 0, none⟩) n cap ∧ ∀ j u, xs[j]? = some u → w.cell? ⟨g, j, none⟩ = some u := by
  rcases h.2 with ⟨_, hz⟩ | ⟨g, cap, cur, rfl, _⟩
  · omega
  · exact ⟨g, cap, rfl, fun j u hu => by
      have := h.cells (g := g) rfl j u hu
      by_cases hj : j = 0 <;> simpa [Addr.add, hj] using this⟩
set_option maxRecDepth 100000 in
set_option maxHeartbeats 2000000 in
theorem settled_calls (cap : Nat) (ad : Addr) (zs : List Int) (hlen : zs.length ≤ 7) (h0 : 0 < zs.length) (w : World) (hb : ad.block < w.heap.size) (hI : ∀ j, j < zs.length → w.cell? (ad.add j) = some (.int .i64 (zs[j]?.getD 0))) :
    Calls Try.prog 81 #[.slice (some ad) zs.length cap] w fun e W' => e = .returned (.int .i64 (mid zs)) ∧ Below w.heap.size w W' := by
  refine (callsIn_wide (n := 9)).1 ?_
  have cV : ∀ W, CallsIn Fence.wide 8 Try.prog 94 #[.slice (some ad) zs.length cap] W fun e w' => e = .returned (.func (.func 109) #[] #[.pointer (some ⟨W.heap.size, 0, none⟩)]) ∧ w' = W.alloc (.cells #[.slice (some ad) zs.length cap] 42) := fun W => values_in Fence.wide 8 trivial rfl (some ad) zs.length cap W
  have hB : Below w.heap.size w (w.alloc (.cells #[.slice (some ad) zs.length cap] 42)) := (Below.refl _ w).alloc (Nat.le_refl _) _
  have cS := sorted_in 8 (by omega) w.heap.size cap ad zs (by omega) h0 (w.alloc (.cells #[.slice (some ad) zs.length cap] 42)) (by simp) ((cell_of_row _ _ 0 _ _ (0, 0) (heap_alloc_new w _)).trans rfl) (by simp; omega) (fun j hj => (hB.cell (p := ad.add j) (by rw [block_add]; exact hb)).trans (hI j hj))
  have hfV : Fence.wide.fn 94 := trivial
  have hfS : Fence.wide.fn 93 := trivial
  have HB := Lib.hid hB
  have HI := Lib.hid hI
  clear hB hI
  refine callsIn_of_wp Try.func81 rfl trivial ?_ rfl
  simp only [Try.ntmps81, List.size_toArray, List.length_cons, List.length_nil, Nat.reduceAdd, Nat.reduceSub, Array.replicate_succ, Array.replicate_zero, List.push_toArray, List.append_toArray, List.nil_append, List.cons_append]
  gi_wp2_with (first
    | (gi_at_call 94; refine (cV _).mono ?_; rintro e w' ⟨rfl, rfl⟩)
    | (gi_at_call 93; refine cS.mono ?_; rintro e w2 ⟨v, rfl, hrow, hb2⟩
       obtain ⟨g, cp, rfl, hcell⟩ := ownsRow_cell hrow h0
       have hx : w2.cell? ⟨g, (zs.length - 1) / 2, none⟩ = some (.int .i64 (mid zs)) := hcell _ _ (by
         rw [List.getElem?_map]
         unfold mid
         have hl : (zs.length - 1) / 2 < (zs.mergeSort fun x y => decide (x ≤ y)).length := by rw [List.length_mergeSort]; omega
         rw [List.getElem?_eq_getElem hl]
         rfl)
       have hq : ((zs.length : Int) - 1) / 2 = (((zs.length - 1) / 2 : Nat) : Int) := by omega
       have HROW := Lib.hid hrow
       have HB2 := Lib.hid hb2
       clear hrow hb2 hcell))
  go_ret
  exact ⟨rfl, HB.out.trans (HB2.out.mono (by simp))⟩
end Go.Proofs.Ytcacckaonjnmjaa.It
