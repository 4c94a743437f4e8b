/- The shelf: New (no segment is made). -/
import Derived.Test.YtpeldaogdeefeaaGreatMHShf
import Derived.Test.YtpeldaogdeefeaaGreatMHPur
import Derived.Deep.RegionHeld3
namespace Go.Proofs.YtpeldaogdeefeaaGreat.M
open Go.Proofs.YtpeldaogdeefeaaGreat.H Go.RowKit Go.Maps Go.Sort Go.Proofs.YtpeldaogdeefeaaGreatW.PrintWords Go.Proofs.YtpeldaogdeefeaaGreatW.PrintLast Go.Proofs.YtpeldaogdeefeaaGreatW.PrintMore Go.Proofs.YtpeldaogdeefeaaGreat.Base
set_option linter.unusedVariables false
set_option linter.unusedSimpArgs false
def marks (M : List (Bs × Bs)) : List (Bs × Unit) := M.map (fun p => (p.1, ()))
theorem names_marks (M : List (Bs × Bs)) : names (marks M) = names M := by
  unfold names marks
  rw [List.map_map]
  rfl
theorem marks_ins (k v : Bs) : ∀ M, marks (ins k v M) = ins k () (marks M)
  | [] => rfl
  | p :: t => by
    have ih := marks_ins k v t
    unfold ins
    by_cases h : p.1 < k
    · rw [if_pos h]
      show (p.1, ()) :: marks (ins k v t) = if p.1 < k then (p.1, ()) :: ins k () (marks t) else (k, ()) :: (p.1, ()) :: marks t
      rw [if_pos h, ih]
    · rw [if_neg h]
      show (k, ()) :: (p.1, ()) :: marks t = if p.1 < k then (p.1, ()) :: ins k () (marks t) else (k, ()) :: (p.1, ()) :: marks t
      rw [if_neg h]
/-- A shelf without segments: what it holds. -/
structure Shf (w : World) (B U g cnt : Nat) (M : List (Bs × Bs)) : Prop where
  ex : ∃ bt bf nt nf Dt Df, w.heap[g]? = some (.cells #[.map (some bt), .int .i64 (totB M : Int), .slice none 0 0, .map (some bf)] 102 (0, 0)) ∧ B ≤ bt ∧ bt < U ∧ B ≤ bf ∧ bf < U ∧ bt ≠ bf ∧ Texts w bt nt Dt ∧ Fresh w bf nf Df ∧ DIs fS Dt M ∧ DIs fB Df (marks M) ∧ nt ≤ cnt ∧ nf ≤ cnt
  lo : B ≤ g
  hi : g < U
  few : M.length ≤ 64
  tot : totB M ≤ 16384
  nm : ∀ p ∈ M, 1 ≤ p.1.length ∧ p.1.length ≤ 64
  tx : ∀ p ∈ M, p.2.length ≤ 2048
/-- What lies outside the shelf's own blocks stays. -/
structure KeptO (w w' : World) (B U : Nat) : Prop where
  size : w.heap.size ≤ w'.heap.size
  kept : ∀ i, i < w.heap.size → (i < B ∨ U ≤ i) → w'.heap[i]? = w.heap[i]?
  below : Below B w w'
theorem KeptO.trans {w w1 w2 : World} {B U : Nat} (h : KeptO w w1 B U) (k : KeptO w1 w2 B U) : KeptO w w2 B U :=
  ⟨Nat.le_trans h.size k.size, fun i hi hq => (k.kept i (by have := h.size; omega) hq).trans (h.kept i hi hq), h.below.trans k.below⟩
theorem KeptO.of_below {w w' : World} {B U : Nat} (h : Below w.heap.size w w') (hB : B ≤ w.heap.size) : KeptO w w' B U := ⟨h.size, fun i hi _ => h.block i hi, h.mono hB⟩
theorem Shf.move {w w' : World} {B U g cnt : Nat} {M : List (Bs × Bs)} (h : Shf w B U g cnt M) (hk : ∀ i, i < w.heap.size → w'.heap[i]? = w.heap[i]?) : Shf w' B U g cnt M := by
  obtain ⟨⟨bt, bf, nt, nf, Dt, Df, h1, h2, h3, h4, h5, h6, h7, h8, h9⟩, a, b, c, d, e, f⟩ := h
  exact ⟨⟨bt, bf, nt, nf, Dt, Df, (hk g (blk_lt h1)).trans h1, h2, h3, h4, h5, h6, map_keep h7 (hk bt h7.lt), map_keep h8 (hk bf h8.lt), h9⟩, a, b, c, d, e, f⟩
theorem Shf.below {w w' : World} {B U g cnt : Nat} {M : List (Bs × Bs)} (h : Shf w B U g cnt M) (hb : Below w.heap.size w w') : Shf w' B U g cnt M := h.move (fun i hi => hb.block i hi)
theorem Shf.size {w : World} {B U g cnt : Nat} {M : List (Bs × Bs)} (h : Shf w B U g cnt M) : B ≤ w.heap.size := by
  obtain ⟨bt, bf, nt, nf, Dt, Df, h1, _⟩ := h.ex
  have := blk_lt h1
  have := h.lo
  omega
theorem szL_take (l : List S36) (i : Nat) (h : i < l.length) : szL (l.take (i + 1)) = szL (l.take i) + l[i].f1.size := by
  rw [List.take_succ_eq_append_getElem h]
  unfold szL
  rw [List.map_append, List.sum_append]
  rfl
theorem szL_take_le (l : List S36) (i : Nat) : szL (l.take i) ≤ szL l := by
  have := congrArg szL (List.take_append_drop i l)
  unfold szL at *
  rw [List.map_append, List.sum_append] at this
  omega
theorem pairs_take (l : List S36) (i : Nat) (hi : i < l.length) (hr : Rise (names (pairs l))) : pairs (l.take (i + 1)) = ins l[i].f0.data.toList l[i].f1.data.toList (pairs (l.take i)) ∧ l[i].f0.data.toList ∉ names (pairs (l.take i)) := by
  have hlt : ∀ p ∈ pairs (l.take i), p.1 < l[i].f0.data.toList := fun p hp => by
    obtain ⟨x, hx, rfl⟩ := List.mem_map.1 hp
    obtain ⟨j, hj, rfl⟩ := List.getElem_of_mem hx
    rw [List.length_take] at hj
    rw [List.getElem_take]
    exact rise_at hr j i (by omega) hi
  refine ⟨?_, fun h => ?_⟩
  · rw [ins_last _ _ _ hlt, List.take_succ_eq_append_getElem hi]
    unfold pairs
    rw [List.map_append]
    rfl
  · obtain ⟨p, hp, e⟩ := List.mem_map.1 h
    have := hlt p hp
    rw [e] at this
    exact List.lt_irrefl _ this
/-- New's loop: what holds ahead of round i. -/
structure NewAt (w W : World) (l : List S36) (g bt bf i : Nat) : Prop where
  ex : ∃ Dt Df, W.heap[g]? = some (.cells #[.map (some bt), .int .i64 (szL (l.take i) : Int), .slice none 0 0, .map (some bf)] 102 (0, 0)) ∧ Texts W bt i Dt ∧ Fresh W bf i Df ∧ DIs fS Dt (pairs (l.take i)) ∧ DIs fB Df (marks (pairs (l.take i)))
  lo : w.heap.size ≤ g ∧ w.heap.size ≤ bt ∧ w.heap.size ≤ bf ∧ bt ≠ bf
  below : Below w.heap.size w W
theorem NewAt.move {w W W' : World} {l : List S36} {g bt bf i : Nat} (h : NewAt w W l g bt bf i) (hb : Below W.heap.size W W') : NewAt w W' l g bt bf i := by
  obtain ⟨⟨Dt, Df, h1, h2, h3, h4⟩, h5, h6⟩ := h
  exact ⟨⟨Dt, Df, blk_below h1 hb, map_keep h2 (hb.block _ h2.lt), map_keep h3 (hb.block _ h3.lt), h4⟩, h5, below_step h6 hb⟩
set_option maxRecDepth 100000 in
set_option maxHeartbeats 3200000 in
theorem new_calls (A : Option Addr) (c : Nat) (l : List S36) (w : World) (hC : Kd.C k36 w A l.length l) (hc : l.length ≤ c) (hok : DocsOk l) :
    Calls Tryz.prog 21 #[.slice A l.length c] w fun e w' => ∃ g, e = .returned (.tuple #[.pointer (some ⟨g, 0, none⟩), .int .i64 0]) ∧ Shf w' w.heap.size w'.heap.size g 64 (pairs l) ∧ Below w.heap.size w w' := by
  have HC := Aside0.mk hC
  have HCC := Aside0.mk hc
  have HOK := Aside0.mk hok
  have hmm := @run_makeMap Tryz.prog
  have hu102 := Tryz.underlying102
  have hu98 := Tryz.underlying98
  have hu36 := Tryz.underlying36
  obtain ⟨kc, hkc⟩ := check_is l hok
  have HK := Aside0.mk (hkc kc (Nat.le_refl _))
  clear hC hc hok hkc
  go_enter Tryz.func21, Tryz.ntmps21
  go_wp2_with fail
  refine (segment_Check.calls kc A c l 0 w HC.out HCC.out HK.out).mono ?_
  rintro e w1 ⟨rfl, hb1⟩
  have HB1 := Aside0.mk hb1
  clear hb1 HK
  go_wp2_with fail
  have H4 : NewAt w (((w1.alloc (.map #[] 0)).alloc (.map #[] 0)).alloc (.cells #[.map (some w1.heap.size), .int .i64 0, .slice none 0 0, .map (some (w1.heap.size + 1))] 102)) l (w1.heap.size + 1 + 1) w1.heap.size (w1.heap.size + 1) 0 := by
    have m1 : Texts (w1.alloc (.map #[] 0)) w1.heap.size 0 (.map []) := World.ownsMap_made w1 Tryz.prog 9 strE
    have m2 : Fresh ((w1.alloc (.map #[] 0)).alloc (.map #[] 0)) (w1.heap.size + 1) 0 (.map []) := by
      have h := World.ownsMap_made (w1.alloc (.map #[] 0)) Tryz.prog 9 booE
      rwa [show (w1.alloc (.map #[] 0)).heap.size = w1.heap.size + 1 by simp] at h
    have h3 := heap_alloc_new ((w1.alloc (.map #[] 0)).alloc (.map #[] 0)) (.cells #[.map (some w1.heap.size), .int .i64 0, .slice none 0 0, .map (some (w1.heap.size + 1))] 102)
    rw [show ((w1.alloc (.map #[] 0)).alloc (.map #[] 0)).heap.size = w1.heap.size + 1 + 1 by simp] at h3
    have hs := HB1.out.size
    exact ⟨⟨_, _, h3, (World.ownsMap.alloc m1 _).alloc _, World.ownsMap.alloc m2 _, DIs.empty fS, DIs.empty fB⟩, ⟨by omega, by omega, by omega, by omega⟩, below_alloc (below_alloc (below_alloc HB1.out _) _) _⟩
  have HN4 := Aside0.mk H4
  clear H4 hmm
  obtain ⟨bt, hbt⟩ : ∃ b, b = w1.heap.size := ⟨_, rfl⟩
  rw [← hbt] at HN4 ⊢
  obtain ⟨bf, hbf⟩ : ∃ b, b = bt + 1 := ⟨_, rfl⟩
  rw [← hbf] at HN4 ⊢
  obtain ⟨g, hg⟩ : ∃ b, b = bf + 1 := ⟨_, rfl⟩
  rw [← hg] at HN4 ⊢
  clear hbt hbf hg
  generalize ((w1.alloc (.map #[] 0)).alloc (.map #[] 0)).alloc (.cells #[.map (some bt), .int .i64 0, .slice none 0 0, .map (some bf)] 102) = w4 at *
  clear HB1
  go_loopg [20] l.length (fun kq v20 w' => ∃ i : Nat, Aside0 (i + kq = l.length) ∧ v20 = .int .i64 i ∧ Aside0 (NewAt w w' l g bt bf i))
  case atStart => exact ⟨0, ⟨by omega⟩, rfl, HN4⟩
  case round =>
    clear HN4
    obtain ⟨i, HIK, rfl, HN⟩ := hrel
    by_cases hlt : i < l.length
    · have hd1 : decide ((i : Int) < (l.length : Int)) = true := decide_eq_true (by omega)
      have hd2 : decide (i < l.length) = true := decide_eq_true hlt
      have HLT := Aside0.mk hlt
      obtain ⟨ad, eA, d0, d1⟩ := at_T36 HC.out (i : Int) (by omega) (by omega)
      rw [Int.toNat_natCast] at d0 d1
      rw [rd36 l i hlt] at d0 d1
      obtain ⟨id, hid⟩ : ∃ z, z = l[i].f0 := ⟨_, rfl⟩
      obtain ⟨tx, htx⟩ : ∃ z, z = l[i].f1 := ⟨_, rfl⟩
      rw [← hid] at d0
      rw [← htx] at d1
      have HID : Aside0 (∀ h : i < l.length, id = l[i].f0 ∧ tx = l[i].f1) := ⟨fun _ => ⟨hid, htx⟩⟩
      have HSZ : Aside0 (id.size ≤ 64 ∧ tx.size ≤ 2048) := ⟨by rw [hid, htx]; exact ⟨(HOK.out.nm _ (List.getElem_mem hlt)).2, HOK.out.tx _ (List.getElem_mem hlt)⟩⟩
      have e0 := (HN.out.below.cell (World.block_lt_of_cell? w _ d0)).trans d0
      have e1 := (HN.out.below.cell (World.block_lt_of_cell? w _ d1)).trans d1
      have q0 : ((i : Int) < (l.length : Int)) = True := eq_true (by omega)
      have p0 : ((0 : Int) ≤ (i : Int)) = True := eq_true (by omega)
      have hw1 : wrap64 ((i : Int) + 1) = ((i + 1 : Nat) : Int) := wrn i (by have := HOK.out.few; omega)
      subst eA
      clear hid htx d0 d1 hlt
      go_upto_region 8 with (fail)
      have hq := heap_alloc_new wr (.cells #[.string id, .string tx] 36)
      have hB2 : Below wr.heap.size wr (wr.alloc (.cells #[.string id, .string tx] 36)) := below_alloc (Below.refl _ _) _
      have HN2 := Aside0.mk (HN.out.move hB2)
      obtain ⟨q, hqe⟩ : ∃ b, b = wr.heap.size := ⟨_, rfl⟩
      rw [← hqe] at hq ⊢
      have HQ := Aside0.mk hq
      clear hq hB2 hqe e0 e1 HN
      generalize wr.alloc (.cells #[.string id, .string tx] 36) = w5 at *
      obtain ⟨⟨Dt, Df, h1, h2, h3, h4, h5⟩, ⟨l1, l2, l3, l4⟩, h6⟩ := HN2.out
      have HG := Aside0.mk h1
      have HT := Aside0.mk h2
      have HF := Aside0.mk h3
      have HDT := Aside0.mk h4
      have HDF := Aside0.mk h5
      have HLO : Aside0 (w.heap.size ≤ g ∧ w.heap.size ≤ bt ∧ w.heap.size ≤ bf ∧ bt ≠ bf) := ⟨⟨l1, l2, l3, l4⟩⟩
      have HB5 := Aside0.mk h6
      clear h1 h2 h3 h4 h5 l1 l2 l3 l4 h6 HN2
      have HNE : Aside0 (q ≠ g ∧ q ≠ bt ∧ q ≠ bf ∧ bf ≠ g) := ⟨⟨blk_ne HQ.out HG.out (by decide), Ne.symm (map_ne HT.out HQ.out), Ne.symm (map_ne HF.out HQ.out), map_ne HF.out HG.out⟩⟩
      have KP : Aside0 (∀ W, Below w5.heap.size w5 W → W.cell? ⟨q, 0, none⟩ = some (.string id) ∧ W.cell? ⟨q, 1, none⟩ = some (.string tx)) := ⟨fun W hb => ⟨(blk_cell (blk_below HQ.out hb) 0).trans rfl, (blk_cell (blk_below HQ.out hb) 1).trans rfl⟩⟩
      obtain ⟨k0, k1⟩ := KP.out w5 (Below.refl _ _)
      have H64 : Aside0 (∀ W, Below w5.heap.size w5 W → Calls Tryz.prog 64 #[.pointer (some ⟨g, 0, none⟩), .agg #[.string id, .string tx]] W fun e w' => e = .returned (.tuple #[]) ∧ (w'.cell? ⟨q, 0, none⟩ = some (.string id) ∧ w'.cell? ⟨q, 1, none⟩ = some (.string tx)) ∧ w'.heap[g]? = some (.cells #[.map (some bt), .int .i64 (szL (l.take (i + 1)) : Int), .slice none 0 0, .map (some bf)] 102 (0, 0)) ∧ Texts w' bt (i + 1) (Dt.put (.string id.data.toList) (fS tx.data.toList)) ∧ Fresh w' bf i Df ∧ Below w.heap.size w w') := ⟨fun W hb => by
        have hs := HSZ.out
        have hlt := HLT.out
        have hsz := szL_take_le l i
        have htot := HOK.out.tot
        have hfew := HOK.out.few
        refine (put_calls g bt i (by omega) Dt (szL (l.take i) : Int) (by omega) (by omega) (.slice none 0 0) (.map (some bf)) id tx (by unfold maxLen; omega) (by omega) W (blk_below HG.out hb) (map_keep HT.out (hb.block _ HT.out.lt))).mono ?_
        rintro e w' ⟨rfl, h1, h2, h3⟩
        have hqW := blk_below HQ.out hb
        have hq' : w'.heap[q]? = some (.cells #[.string id, .string tx] 36 (0, 0)) := (h3.kept q (blk_lt hqW) HNE.out.1 HNE.out.2.1).trans hqW
        refine ⟨rfl, ⟨(blk_cell hq' 0).trans rfl, (blk_cell hq' 1).trans rfl⟩, ?_, h2, h3.map (map_keep HF.out (hb.block _ HF.out.lt)) HNE.out.2.2.2 (Ne.symm HLO.out.2.2.2), ?_⟩
        · rw [h1, szL_take l i hlt, (HID.out hlt).2]
          rfl
        · exact (below_step HB5.out hb).trans (h3.below _ HLO.out.1 HLO.out.2.1 (by have := HB5.out.size; have := hb.size; omega))⟩
      go_region_held3 (fun w' => w'.cell? ⟨q, 0, none⟩ = some (.string id) ∧ w'.cell? ⟨q, 1, none⟩ = some (.string tx))
        (first | exact (Aside0.out ‹Aside0 (_ ∧ _)›) | exact KP.out _ (by repeat (first | exact Below.refl _ _ | apply pw_below_drewN | apply below_drew1 | apply below_alloc)))
        (first
          | (go_at_call 64; refine (H64.out _ (by repeat (first | exact Below.refl _ _ | apply pw_below_drewN | apply below_drew1))).mono ?_; rintro e w6 ⟨rfl, hS6, h1, h2, h3, h4⟩; have HS6 := Aside0.mk hS6; have HG6 := Aside0.mk h1; have HT6 := Aside0.mk h2; have HF6 := Aside0.mk h3; have HB6 := Aside0.mk h4; clear hS6 h1 h2 h3 h4))
      clear k0 k1 KP H64 HG HT HF HB5
      have hm6 : Fresh w6.drew bf i Df := World.ownsMap.drew HF6.out
      obtain ⟨w7, hrun7, hm7, hgr7⟩ := World.ownsMap.update hm6 K9 Tryz.underlying99 (by have := HOK.out.few; have := HLT.out; unfold maxLen; omega) (WideMaps.keyOf_string_mk Tryz.underlying9 (s := id) (by have := HSZ.out.1; unfold maxLen; omega)) (plainElem_bool (H := Unit) Tryz.underlying4 true)
      have HN7 : Aside0 (NewAt w w7 l g bt bf (i + 1)) := ⟨by
        obtain ⟨e1, e2⟩ := pairs_take l i HLT.out HOK.out.rise
        have hne := HNE.out
        have hg7 := (hgr7.block g (blk_lt HG6.out) (by simpa using Ne.symm hne.2.2.2)).trans HG6.out
        have ht7 := map_keep HT6.out (hgr7.block bt (by exact HT6.out.lt) (by simpa using HLO.out.2.2.2))
        refine ⟨⟨_, _, hg7, ht7, hm7, ?_, ?_⟩, HLO.out, ?_⟩
        · rw [e1, ← (HID.out HLT.out).1, ← (HID.out HLT.out).2]
          exact HDT.out.put _ _ (by rw [(HID.out HLT.out).1]; exact e2)
        · rw [e1, marks_ins, ← (HID.out HLT.out).1]
          exact HDF.out.put _ () (by rw [names_marks, (HID.out HLT.out).1]; exact e2)
        · have hs := HB6.out.size
          exact HB6.out.trans ((Kept2.drew w6 g bf).trans (Kept2.grown hgr7) |>.below _ HLO.out.1 HLO.out.2.2.1 hs)⟩
      obtain ⟨k0, k1⟩ := HS6.out
      have kg : w6.cell? ⟨g, 3, none⟩ = some (.map (some bf)) := (blk_cell HG6.out 3).trans rfl
      clear hm6 hm7 hgr7 HS6 HDT HDF HB6 HG6 HT6 HF6
      go_upto_region 9 with (fail)
      go_region
      go_wp2_with fail
      go_roundg (gk - 1)
      case measure => have := HIK.out; have := HLT.out; omega
      case rel => exact ⟨i + 1, ⟨by have := HIK.out; have := HLT.out; omega⟩, by rw [hw1], HN7⟩
    · have hd1 : decide ((i : Int) < (l.length : Int)) = false := decide_eq_false (by omega)
      have hd2 : decide (i < l.length) = false := decide_eq_false hlt
      have hi : i = l.length := by have := HIK.out; omega
      subst hi
      clear hlt
      go_wp2_with fail
      go_ret2
      obtain ⟨⟨Dt, Df, h1, h2, h3, h4, h5⟩, ⟨l1, l2, l3, l4⟩, h6⟩ := HN.out
      rw [List.take_length] at h1 h4 h5
      have hfew := HOK.out.few
      refine ⟨g, rfl, ⟨⟨bt, bf, _, _, Dt, Df, ?_, l2, h2.lt, l3, h3.lt, l4, h2, h3, h4, h5, by omega, by omega⟩, l1, blk_lt h1, by simpa [pairs] using hfew, by rw [tot_sz]; exact HOK.out.tot, ?_, ?_⟩, h6⟩
      · rw [tot_sz]; exact h1
      · intro p hp
        obtain ⟨x, hx, rfl⟩ := List.mem_map.1 hp
        have := HOK.out.nm x hx
        simpa [pr] using this
      · intro p hp
        obtain ⟨x, hx, rfl⟩ := List.mem_map.1 hp
        have := HOK.out.tx x hx
        simpa [pr] using this
end Go.Proofs.YtpeldaogdeefeaaGreat.M
