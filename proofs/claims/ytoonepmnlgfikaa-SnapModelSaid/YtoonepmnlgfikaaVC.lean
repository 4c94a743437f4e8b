/- Sessions: rows of one's own (VSum, VTab, VLong, VA, VB). -/
import Derived.Test.YtoonepmnlgfikaaDM
import Derived.Deep.LoopGhost
import Derived.Laws.CopyRow
import Derived.Deep.WholeRow
import Derived.BigRegion
import Derived.Test.YtoonepmnlgfikaaVxM
import Derived.Laws.BitsLemmas
import Derived.BigQuiet
import Derived.Test.YtoonepmnlgfikaaDMPure
import Derived.Deep.RegionHeld3
import Derived.Test.YtoonepmnlgfikaaDSPure
/-! VSum -/
namespace Go.Proofs.Ytoonepmnlgfikaa.D
open Go.RowKit Go.Proofs.YtoonepmnlgfikaaW.PrintWords Go.Proofs.YtoonepmnlgfikaaW.PrintLast Go.Proofs.YtoonepmnlgfikaaW.PrintMore Go.Proofs.Ytoonepmnlgfikaa.Base
set_option linter.unusedVariables false
set_option linter.unusedSimpArgs false
def crc1 (x : Int) : Int := if Go.bits .and .u32 x 1 = 1 then Go.bits .xor .u32 (x / 2) 3988292384 else x / 2
def crcN : Nat → Int → Int
  | 0, x => x
  | n + 1, x => crcN n (crc1 x)
def crcAdd (s b : Int) : Int := crcN 8 (Go.bits .xor .u32 s (b % 4294967296))
def CrcAt (w : World) (g : Nat) (x : Int) : Prop := w.heap[g]? = some (.cells #[.int .u32 x] 148 (0, 0))
set_option maxHeartbeats 1600000 in
set_option maxRecDepth 100000 in
theorem bits_calls (g : Nat) (s : Int) (w : World) (hg : CrcAt w g s) :
    Calls Try.prog 94 #[.pointer (some ⟨g, 0, none⟩)] w fun e w' => e = .returned (.tuple #[]) ∧ CrcAt w' g (crcN 8 s) ∧ w.grownBy w' (some g) := by
  have HG := Aside0.mk hg
  clear hg
  go_enter Try.func94, Try.ntmps94
  go_wp2_with fail
  go_loopg [2] 8 (fun kq v2 w' => ∃ (i : Nat) (x : Int), Aside0 (i + kq = 8) ∧ v2 = .int .i64 i ∧ Aside0 (CrcAt w' g x) ∧ Aside0 (crcN kq x = crcN 8 s) ∧ Aside0 (w.grownBy w' (some g)))
  case atStart => exact ⟨0, s, ⟨rfl⟩, rfl, HG, ⟨rfl⟩, ⟨World.grownBy.refl w _⟩⟩
  case round =>
    obtain ⟨i, x, HIK, rfl, HX, HN, HGR⟩ := hrel
    cases gk with
    | zero =>
      have hi : i = 8 := HIK.out
      subst hi
      have hd : decide (((8 : Nat) : Int) < 8) = false := rfl
      go_wp2_with fail
      go_end0
      exact ⟨rfl, by rw [← HN.out]; exact HX.out, HGR.out⟩
    | succ k =>
      have hik : i < 8 := by have := HIK.out; omega
      have hd : decide ((i : Int) < 8) = true := decide_eq_true (by omega)
      have HW : Aside0 (wrap64 ((i : Int) + 1) = ((i + 1 : Nat) : Int)) := ⟨by rw [wrap64_in _ (by omega) (by omega)]; rfl⟩
      have hk2 : Aside0 (k < k + 1 ∧ i + 1 + k = 8) := ⟨by have := HIK.out; omega⟩
      have c0 : wr.cell? ⟨g, 0, none⟩ = some (.int .u32 x) := (blk_cell HX.out 0).trans rfl
      have f0 := blk_frozen HX.out 0
      clear hik
      by_cases hb : Go.bits .and .u32 x 1 = 1
      · have hbb : (Go.bits .and .u32 x 1 == 1) = true := beq_iff_eq.mpr hb
        have HC1 : Aside0 (crc1 x = Go.bits .xor .u32 (x / 2) 3988292384) := ⟨by unfold crc1; rw [if_pos hb]⟩
        clear hb
        go_wp2_with fail
        go_roundg k
        case measure => exact hk2.out.1
        case rel => exact ⟨i + 1, crc1 x, ⟨hk2.out.2⟩, (by rw [HW.out]), ⟨by rw [HC1.out]; exact blk_set HX.out 0 _⟩, ⟨HN.out⟩, ⟨HGR.out.trans (grown_set wr ⟨g, 0, none⟩ _)⟩⟩
      · have hbb : (Go.bits .and .u32 x 1 == 1) = false := beq_eq_false_iff_ne.mpr hb
        have HC1 : Aside0 (crc1 x = x / 2) := ⟨by unfold crc1; rw [if_neg hb]⟩
        clear hb
        go_wp2_with fail
        go_roundg k
        case measure => exact hk2.out.1
        case rel => exact ⟨i + 1, crc1 x, ⟨hk2.out.2⟩, (by rw [HW.out]), ⟨by rw [HC1.out]; exact blk_set HX.out 0 _⟩, ⟨HN.out⟩, ⟨HGR.out.trans (grown_set wr ⟨g, 0, none⟩ _)⟩⟩
def crcL (s : Int) (l : List Int) : Int := l.foldl crcAdd s
set_option maxHeartbeats 1600000 in
set_option maxRecDepth 100000 in
theorem add_calls (g : Nat) (s : Int) (A : Option Addr) (c : Nat) (l : List Int) (hl : l.length ≤ 1000) (w : World) (hg : CrcAt w g s) (hA : ∀ W : World, (∀ i, i < w.heap.size → i ≠ g → W.heap[i]? = w.heap[i]?) → Kd.C (Kd.int .u8) W A l.length l) :
    Calls Try.prog 91 #[.pointer (some ⟨g, 0, none⟩), .slice A l.length c] w fun e w' => e = .returned (.tuple #[]) ∧ CrcAt w' g (crcL s l) ∧ w.grownBy w' (some g) := by
  have HG := Aside0.mk hg
  have HA := Aside0.mk hA
  have hu148 := Try.underlying148
  clear hg hA
  go_enter Try.func91, Try.ntmps91
  go_wp2_with fail
  go_loopg [5, 8] l.length (fun kq v5 v8 w' => ∃ (i : Nat) (x : Int), Aside0 (i + kq = l.length) ∧ v8 = .int .i64 i ∧ Aside0 (CrcAt w' g x) ∧ Aside0 (crcL x (l.drop i) = crcL s l) ∧ Aside0 (w.grownBy w' (some g)))
  case atStart => exact ⟨0, s, ⟨by omega⟩, rfl, HG, ⟨by rw [List.drop_zero]⟩, ⟨World.grownBy.refl w _⟩⟩
  case round =>
    obtain ⟨i, x, HIK, rfl, HX, HN, HGR⟩ := hrel
    by_cases hlt : i < l.length
    · have clt : decide ((i : Int) < (l.length : Int)) = true := decide_eq_true (by omega)
      have clt2 : decide (i < l.length) = true := decide_eq_true hlt
      have q0 : ((i : Int) < (l.length : Int)) = True := eq_true (by omega)
      have p0 : ((0 : Int) ≤ (i : Int)) = True := eq_true (by omega)
      have HW : Aside0 (wrap64 ((i : Int) + 1) = ((i + 1 : Nat) : Int)) := ⟨by rw [wrap64_in _ (by omega) (by omega)]; rfl⟩
      have HT := Aside0.mk (tk_next _ _ _ HIK.out hlt)
      have hC := HA.out wr (fun j hj hne => HGR.out.block j hj (by simpa using hne))
      have hr := Kd.reads_of_C (enc := Value.int .u8) (d := (0 : Int)) hC
      obtain ⟨ad, e, hc⟩ := hr.2.2 (by omega)
      subst e
      have kb : wr.cell? (ad.add i) = some (.int .u8 (l.getD i 0)) := hc i hlt
      have c0 : wr.cell? ⟨g, 0, none⟩ = some (.int .u32 x) := (blk_cell HX.out 0).trans rfl
      have f0 := blk_frozen HX.out 0
      have hdr : l.drop i = l.getD i 0 :: l.drop (i + 1) := by
        rw [List.drop_eq_getElem_cons hlt, List.getD_eq_getElem?_getD, List.getElem?_eq_getElem hlt]; rfl
      generalize l.getD i 0 = y at *
      have HNX : Aside0 (crcL (crcAdd x y) (l.drop (i + 1)) = crcL s l) := ⟨by rw [← HN.out, hdr]; rfl⟩
      clear hlt hC hr hc hdr
      go_wp2_with fail
      have hx1 : CrcAt (wr.setCell ⟨g, 0, none⟩ (.int .u32 (Go.bits .xor .u32 x (y % 4294967296)))) g (Go.bits .xor .u32 x (y % 4294967296)) := blk_set HX.out 0 _
      refine (bits_calls g _ _ hx1).mono ?_
      rintro e w2 ⟨rfl, hx2, hg2⟩
      have HX2 := Aside0.mk hx2
      have HG2 := Aside0.mk ((HGR.out.trans (grown_set wr ⟨g, 0, none⟩ _)).trans hg2)
      clear hx1 hx2 hg2 c0 f0 kb
      go_wp2_with fail
      go_roundg (gk - 1)
      case measure => exact HT.out.1
      case rel => exact ⟨i + 1, crcAdd x y, ⟨HT.out.2⟩, (by rw [HW.out]), HX2, HNX, HG2⟩
    · have clt : decide ((i : Int) < (l.length : Int)) = false := decide_eq_false (by omega)
      have clt2 : decide (i < l.length) = false := decide_eq_false hlt
      have HI : Aside0 (l.drop i = []) := ⟨List.drop_eq_nil_of_le (by omega)⟩
      clear hlt
      go_wp2_with fail
      go_end0
      exact ⟨rfl, by have := HN.out; rw [HI.out] at this; rw [← this]; exact HX.out, HGR.out⟩
def sumS (l : List Int) : Int := Go.bits .xor .u32 IntKind.u32.max (crcL (Go.bits .xor .u32 IntKind.u32.max 0) l)
set_option maxHeartbeats 1600000 in
set_option maxRecDepth 100000 in
theorem sumS_calls (A : Option Addr) (c : Nat) (l : List Int) (hl : l.length < 300) (w : World) (hA : Kd.C (Kd.int .u8) w A l.length l) :
    Calls Try.prog 83 #[.int .u32 0, .slice A l.length c] w fun e w' => e = .returned (.int .u32 (sumS l)) ∧ Below w.heap.size w w' := by
  have HA := Aside0.mk hA
  have hu148 := Try.underlying148
  have hu146 := Try.underlying146
  have clt : decide ((l.length : Int) < 300) = true := decide_eq_true (by omega)
  have clt2 : decide (l.length < 300) = true := decide_eq_true hl
  have HL := Aside0.mk hl
  clear hA hl
  go_enter Try.func83, Try.ntmps83
  go_wp2_with fail
  have hg := heap_alloc_new w (.cells #[.int .u32 (Go.bits .xor .u32 IntKind.u32.max 0)] 148)
  have hB : Below w.heap.size w (w.alloc (.cells #[.int .u32 (Go.bits .xor .u32 IntKind.u32.max 0)] 148)) := below_alloc (Below.refl _ _) _
  obtain ⟨g, hgg⟩ : ∃ g, g = w.heap.size := ⟨_, rfl⟩
  rw [← hgg] at hg ⊢
  generalize w.alloc (.cells #[.int .u32 (Go.bits .xor .u32 IntKind.u32.max 0)] 148) = w1 at *
  have HSZ : Aside0 (w.heap.size ≤ g) := ⟨by omega⟩
  have HB := Aside0.mk hB
  refine (add_calls g _ A c l (by have := HL.out; omega) w1 hg (fun W hW => C_heap HA.out (fun i hi => (hW i (by have := HB.out.size; omega) (by have := HSZ.out; omega)).trans (HB.out.block i hi)))).mono ?_
  rintro e w2 ⟨rfl, hx2, hg2⟩
  have k0 : w2.cell? ⟨g, 0, none⟩ = some (.int .u32 (crcL (Go.bits .xor .u32 IntKind.u32.max 0) l)) := (blk_cell hx2 0).trans rfl
  have HB2 : Aside0 (Below w.heap.size w w2) := ⟨pw_below_grown hB _ hB.size hg2 (fun k hk => by cases hk; omega)⟩
  clear hx2 hg2 hg hB hgg
  go_wp2_with fail
  go_ret
  exact ⟨rfl, HB2.out⟩
end Go.Proofs.Ytoonepmnlgfikaa.D
/-! VTab -/
namespace Go.Proofs.Ytoonepmnlgfikaa.D
open Go.RowKit Go.Proofs.YtoonepmnlgfikaaW.PrintWords Go.Proofs.YtoonepmnlgfikaaW.PrintLast Go.Proofs.YtoonepmnlgfikaaW.PrintMore Go.Proofs.Ytoonepmnlgfikaa.Base
set_option linter.unusedVariables false
set_option linter.unusedSimpArgs false
/-- bits at a block of the sum's own type. -/
def CrcAt1 (w : World) (g : Nat) (x : Int) : Prop := w.heap[g]? = some (.cells #[.int .u32 x] 146 (0, 0))
set_option maxHeartbeats 1600000 in
set_option maxRecDepth 100000 in
theorem bits_calls1 (g : Nat) (s : Int) (w : World) (hg : CrcAt1 w g s) :
    Calls Try.prog 94 #[.pointer (some ⟨g, 0, none⟩)] w fun e w' => e = .returned (.tuple #[]) ∧ CrcAt1 w' g (crcN 8 s) ∧ w.grownBy w' (some g) := by
  have HG := Aside0.mk hg
  clear hg
  go_enter Try.func94, Try.ntmps94
  go_wp2_with fail
  go_loopg [2] 8 (fun kq v2 w' => ∃ (i : Nat) (x : Int), Aside0 (i + kq = 8) ∧ v2 = .int .i64 i ∧ Aside0 (CrcAt1 w' g x) ∧ Aside0 (crcN kq x = crcN 8 s) ∧ Aside0 (w.grownBy w' (some g)))
  case atStart => exact ⟨0, s, ⟨rfl⟩, rfl, HG, ⟨rfl⟩, ⟨World.grownBy.refl w _⟩⟩
  case round =>
    obtain ⟨i, x, HIK, rfl, HX, HN, HGR⟩ := hrel
    cases gk with
    | zero =>
      have hi : i = 8 := HIK.out
      subst hi
      have hd : decide (((8 : Nat) : Int) < 8) = false := rfl
      go_wp2_with fail
      go_end0
      exact ⟨rfl, by rw [← HN.out]; exact HX.out, HGR.out⟩
    | succ k =>
      have hik : i < 8 := by have := HIK.out; omega
      have hd : decide ((i : Int) < 8) = true := decide_eq_true (by omega)
      have HW : Aside0 (wrap64 ((i : Int) + 1) = ((i + 1 : Nat) : Int)) := ⟨by rw [wrap64_in _ (by omega) (by omega)]; rfl⟩
      have hk2 : Aside0 (k < k + 1 ∧ i + 1 + k = 8) := ⟨by have := HIK.out; omega⟩
      have c0 : wr.cell? ⟨g, 0, none⟩ = some (.int .u32 x) := (blk_cell HX.out 0).trans rfl
      have f0 := blk_frozen HX.out 0
      clear hik
      by_cases hb : Go.bits .and .u32 x 1 = 1
      · have hbb : (Go.bits .and .u32 x 1 == 1) = true := beq_iff_eq.mpr hb
        have HC1 : Aside0 (crc1 x = Go.bits .xor .u32 (x / 2) 3988292384) := ⟨by unfold crc1; rw [if_pos hb]⟩
        clear hb
        go_wp2_with fail
        go_roundg k
        case measure => exact hk2.out.1
        case rel => exact ⟨i + 1, crc1 x, ⟨hk2.out.2⟩, (by rw [HW.out]), ⟨by rw [HC1.out]; exact blk_set HX.out 0 _⟩, ⟨HN.out⟩, ⟨HGR.out.trans (grown_set wr ⟨g, 0, none⟩ _)⟩⟩
      · have hbb : (Go.bits .and .u32 x 1 == 1) = false := beq_eq_false_iff_ne.mpr hb
        have HC1 : Aside0 (crc1 x = x / 2) := ⟨by unfold crc1; rw [if_neg hb]⟩
        clear hb
        go_wp2_with fail
        go_roundg k
        case measure => exact hk2.out.1
        case rel => exact ⟨i + 1, crc1 x, ⟨hk2.out.2⟩, (by rw [HW.out]), ⟨by rw [HC1.out]; exact blk_set HX.out 0 _⟩, ⟨HN.out⟩, ⟨HGR.out.trans (grown_set wr ⟨g, 0, none⟩ _)⟩⟩
/-- The table's cells: the first i are filled. -/
def tabE (j : Nat) : Int := crcN 8 ((j : Int) % 4294967296)
def tabL (i : Nat) : List Int := (List.range i).map tabE ++ List.replicate (256 - i) (0 : Int)
theorem tabL_len (i : Nat) (h : i ≤ 256) : (tabL i).length = 256 := by
  unfold tabL
  rw [List.length_append, List.length_map, List.length_range, List.length_replicate]
  omega
theorem tabL_step (i : Nat) (h : i < 256) : tabL (i + 1) = (tabL i).set i (tabE i) := by
  unfold tabL
  have e : List.replicate (256 - i) (0 : Int) = 0 :: List.replicate (256 - (i + 1)) 0 := by
    rw [show 256 - i = (256 - (i + 1)) + 1 by omega]; rfl
  rw [List.range_succ, List.map_append, List.append_assoc, e, List.set_append_right _ _ (by rw [List.length_map, List.length_range]; exact Nat.le_refl _), List.length_map, List.length_range, Nat.sub_self]
  rfl
def TabAt (w : World) (b i : Nat) : Prop := w.heap[b]? = some (.cells ((tabL i).map (Value.int .u32)).toArray 150 (0, 0))
theorem add_mid1 (q o j : Nat) : (⟨q, o, none⟩ : Addr).add j = ⟨q, o + j, none⟩ := by unfold Addr.add; split <;> simp_all
def tabC : Array Value := ((tabL 256).map (Value.int .u32)).toArray
theorem tabC_size : tabC.size = 256 := by unfold tabC; rw [List.size_toArray, List.length_map, tabL_len 256 (Nat.le_refl _)]
theorem tabC_one : tabC.all (·.oneCell') = true := by
  unfold tabC
  refine Array.all_eq_true_iff_forall_mem.2 (fun v hv => ?_)
  rw [List.mem_toArray] at hv
  obtain ⟨x, _, rfl⟩ := List.mem_map.1 hv
  rfl
theorem hi150 : (Try.prog.info? 150).map (·.size) = some tabC.size := by
  rw [tabC_size]
  kernel_rfl
theorem TabAt.all {w : World} {b : Nat} (h : TabAt w b 256) : w.heap[b]? = some (.cells tabC 150 (0, 0)) := h
theorem TabAt.zero (w : World) : TabAt (w.alloc (.cells Try.zeroCells150 150)) w.heap.size 0 := by
  have h := heap_alloc_new w (.cells Try.zeroCells150 150)
  have e : Try.zeroCells150 = ((tabL 0).map (Value.int .u32)).toArray := by kernel_rfl
  rw [e] at h
  unfold TabAt
  rw [← e] at h ⊢
  exact h
theorem TabAt.step {w : World} {b i : Nat} (h : TabAt w b i) (hi : i < 256) : TabAt (w.setCell ⟨b, i, none⟩ (.int .u32 (tabE i))) b (i + 1) := by
  have h1 := blk_set h i (.int .u32 (tabE i))
  unfold TabAt
  rw [tabL_step i hi, List.map_set]
  simpa using h1
theorem tabStore {w : World} {b : Nat} (hT : w.heap[b]? = some (.cells tabC 150 (0, 0))) : (storeCells ⟨b, 0, none⟩ tabC.toList).run Try.prog w = .ok () w := by
  have h := run_storeVar_row (P := Try.prog) w b 150 150 tabC tabC hT hi150 rfl tabC_one
  rw [setRow_self w b tabC 150 (0, 0) hT] at h
  have h2 := hi150
  cases hq : Try.prog.info? 150 with
  | none => rw [hq] at h2; cases h2
  | some i =>
    rw [hq] at h2
    have hs : tabC.size = i.size := (Option.some.inj h2).symm
    simpa [storeVar, sizeOf, typeInfo, hq, Value.cells, hs] using h
set_option maxHeartbeats 3200000 in
set_option maxRecDepth 100000 in
theorem table_calls (w : World) :
    Calls Try.prog 92 #[] w fun e w' => e = .returned (.agg tabC) ∧ Below w.heap.size w w' := by
  have hu150 := Try.underlying150
  have hu146 := Try.underlying146
  go_enter Try.func92, Try.ntmps92
  go_wp2_with fail
  have HT0 : Aside0 (TabAt (w.alloc (.cells Try.zeroCells150 150)) w.heap.size 0) := ⟨TabAt.zero w⟩
  have HB0 : Aside0 (Below w.heap.size w (w.alloc (.cells Try.zeroCells150 150))) := ⟨below_alloc (Below.refl _ _) _⟩
  obtain ⟨b, hb⟩ : ∃ b, b = w.heap.size := ⟨_, rfl⟩
  rw [← hb] at HT0 ⊢
  have HBW : Aside0 (w.heap.size ≤ b) := ⟨by omega⟩
  clear hb
  generalize w.alloc (.cells Try.zeroCells150 150) = w1 at *
  go_loopg [1, 2, 3] 256 (fun kq v1 v2 v3 w' => ∃ i : Nat, Aside0 (i + kq = 256) ∧ v3 = .int .i64 i ∧ Aside0 (TabAt w' b i) ∧ Aside0 (Below w.heap.size w w'))
  case atStart => exact ⟨0, ⟨rfl⟩, rfl, HT0, HB0⟩
  case round =>
    obtain ⟨i, HIK, rfl, HT, HB⟩ := hrel
    clear HT0 HB0
    by_cases hlt : i < 256
    · have clt : decide ((i : Int) < 256) = true := decide_eq_true (by omega)
      have HLT := Aside0.mk hlt
      have HN := Aside0.mk (tk_next _ _ _ HIK.out hlt)
      have HW : Aside0 (wrap64 ((i : Int) + 1) = ((i + 1 : Nat) : Int)) := ⟨by rw [wrap64_in _ (by omega) (by omega)]; rfl⟩
      have q0 : ((i : Int) < 256) = True := eq_true (by omega)
      have p0 : ((0 : Int) ≤ (i : Int)) = True := eq_true (by omega)
      clear hlt
      have HBA : Aside0 (Below w.heap.size w (wr.alloc (.cells #[.int .u32 ((i : Int) % 4294967296)] 146))) := ⟨below_alloc HB.out _⟩
      have HTA : Aside0 (TabAt (wr.alloc (.cells #[.int .u32 ((i : Int) % 4294967296)] 146)) b i) := ⟨blk_alloc HT.out _⟩
      have hbt : b < wr.heap.size := blk_lt HT.out
      have hws : w.heap.size ≤ wr.heap.size := HB.out.size
      go_wp2_with fail
      have hx1 : CrcAt1 (wr.alloc (.cells #[.int .u32 ((i : Int) % 4294967296)] 146)) wr.heap.size ((i : Int) % 4294967296) := heap_alloc_new wr _
      obtain ⟨g, hg⟩ : ∃ g, g = wr.heap.size := ⟨_, rfl⟩
      rw [← hg] at hx1 ⊢
      have HGB : Aside0 (b ≠ g ∧ w.heap.size ≤ g) := ⟨by omega⟩
      clear hg hbt hws
      generalize wr.alloc (.cells #[.int .u32 ((i : Int) % 4294967296)] 146) = wa at *
      refine (bits_calls1 g _ _ hx1).mono ?_
      rintro e w2 ⟨rfl, hx2, hg2⟩
      have c0 : w2.cell? ⟨g, 0, none⟩ = some (.int .u32 (tabE i)) := (blk_cell hx2 0).trans rfl
      have HT2 : Aside0 (TabAt w2 b i) := ⟨blk_grown HTA.out hg2 (fun e => HGB.out.1 (Option.some.inj e))⟩
      have HB2 : Aside0 (Below w.heap.size w w2) := ⟨pw_below_grown HBA.out _ HBA.out.size hg2 (fun k hk => by cases hk; exact HGB.out.2)⟩
      have HT3 : Aside0 (TabAt (w2.setCell ⟨b, i, none⟩ (.int .u32 (tabE i))) b (i + 1)) := ⟨HT2.out.step HLT.out⟩
      have HB3 : Aside0 (Below w.heap.size w (w2.setCell ⟨b, i, none⟩ (.int .u32 (tabE i)))) := ⟨below_set HB2.out HBW.out⟩
      have hxl : (tabL i)[i]? = some ((tabL i).getD i 0) := by
        rw [List.getD_eq_getElem?_getD, List.getElem?_eq_getElem (by rw [tabL_len i (Nat.le_of_lt HLT.out)]; exact HLT.out)]; rfl
      have cb : w2.cell? ⟨b, i, none⟩ = some (.int .u32 ((tabL i).getD i 0)) := by
        have := blk_cell HT2.out i
        rw [this, List.getElem?_toArray, List.getElem?_map, hxl]; rfl
      have fb := blk_frozen HT2.out i
      have hadd : (⟨b, 0, none⟩ : Addr).add i = ⟨b, i, none⟩ := by rw [D.add_mid1]; simp
      generalize (tabL i).getD i 0 = y at *
      generalize tabE i = x at *
      clear hx1 hx2 hg2 hxl
      go_wp2_with fail
      go_roundg (gk - 1)
      case measure => exact HN.out.1
      case rel => exact ⟨i + 1, ⟨HN.out.2⟩, (by rw [HW.out]), HT3, HB3⟩
    · have clt : decide ((i : Int) < 256) = false := decide_eq_false (by omega)
      have hi : i = 256 := by have := HIK.out; omega
      subst hi
      clear hlt
      have hT := HT.out.all
      go_wp2_with fail
      refine wp_load_row 150 (.tmp 0) rfl b rfl 150 tabC (0, 0) _ hT hu150 rfl hi150 ?_
      have hst := tabStore hT
      go_wp2_with fail
      refine bodyPost_ret (results_cell_row rfl _ _ b 150 tabC (0, 0) _ rfl hT hu150 rfl hi150) rfl ⟨rfl, HB.out⟩
end Go.Proofs.Ytoonepmnlgfikaa.D
/-! VLong -/
namespace Go.Proofs.Ytoonepmnlgfikaa.D
open Go.RowKit Go.Proofs.YtoonepmnlgfikaaW.PrintWords Go.Proofs.YtoonepmnlgfikaaW.PrintLast Go.Proofs.YtoonepmnlgfikaaW.PrintMore Go.Proofs.Ytoonepmnlgfikaa.Base
set_option linter.unusedVariables false
set_option linter.unusedSimpArgs false
/-- One byte by the table. -/
def tabJ (x y : Int) : Nat := (Go.bits .xor .u8 (x % 256) y).toNat
def crcTab (x y : Int) : Int := Go.bits .xor .u32 (x / 256) ((tabL 256).getD (tabJ x y) 0)
def crcTL (x : Int) (l : List Int) : Int := l.foldl crcTab x
theorem tabJ_lt (x y : Int) : tabJ x y < 256 := by
  unfold tabJ
  have h1 := Go.bits_lo_u8 .xor (x % 256) y
  have h2 := Go.bits_hi_u8 .xor (x % 256) y
  omega
theorem tabJ_cast (x y : Int) : ((tabJ x y : Nat) : Int) = Go.bits .xor .u8 (x % 256) y := by
  unfold tabJ
  exact Int.toNat_of_nonneg (Go.bits_lo_u8 .xor (x % 256) y)
theorem tabC_at (j : Nat) (h : j < 256) : tabC[j]? = some (.int .u32 ((tabL 256).getD j 0)) := by
  unfold tabC
  rw [List.getElem?_toArray, List.getElem?_map, List.getD_eq_getElem?_getD, List.getElem?_eq_getElem (by rw [tabL_len 256 (Nat.le_refl _)]; exact h)]
  rfl
theorem tabStoreNew (w : World) : (storeCells ⟨w.heap.size, 0, none⟩ tabC.toList).run Try.prog (w.alloc (.cells Try.zeroCells150 150)) = .ok () (w.alloc (.cells tabC 150)) :=
  run_storeCells_new (P := Try.prog) w 150 Try.zeroCells150 tabC hi150 (by rw [tabC_size]; kernel_rfl) tabC_one
def sumT (l : List Int) : Int := Go.bits .xor .u32 IntKind.u32.max (crcTL (Go.bits .xor .u32 IntKind.u32.max 0) l)
set_option maxHeartbeats 3200000 in
set_option maxRecDepth 100000 in
theorem sumT_calls (A : Option Addr) (c : Nat) (l : List Int) (hl : ¬ l.length < 300) (hl2 : l.length ≤ 2000000) (w : World) (hA : Kd.C (Kd.int .u8) w A l.length l) :
    Calls Try.prog 83 #[.int .u32 0, .slice A l.length c] w fun e w' => e = .returned (.int .u32 (sumT l)) ∧ Below w.heap.size w w' := by
  have HA := Aside0.mk hA
  have hu148 := Try.underlying148
  have hu146 := Try.underlying146
  have hu150 := Try.underlying150
  have clt : decide ((l.length : Int) < 300) = false := decide_eq_false (by omega)
  have clt2 : decide (l.length < 300) = false := decide_eq_false hl
  have HL := Aside0.mk hl2
  clear hA hl hl2
  go_enter Try.func83, Try.ntmps83
  go_wp2_with fail
  have hg := heap_alloc_new w (.cells #[.int .u32 (Go.bits .xor .u32 IntKind.u32.max 0)] 148)
  have hB : Below w.heap.size w (w.alloc (.cells #[.int .u32 (Go.bits .xor .u32 IntKind.u32.max 0)] 148)) := below_alloc (Below.refl _ _) _
  obtain ⟨g, hgg⟩ : ∃ g, g = w.heap.size := ⟨_, rfl⟩
  rw [← hgg] at hg ⊢
  generalize w.alloc (.cells #[.int .u32 (Go.bits .xor .u32 IntKind.u32.max 0)] 148) = w1 at *
  have HSZ : Aside0 (w.heap.size ≤ g) := ⟨by omega⟩
  have HB := Aside0.mk hB
  have HG := Aside0.mk hg
  clear hg hB hgg
  refine (table_calls w1).mono ?_
  rintro e w2 ⟨rfl, hB2⟩
  have HB2 : Aside0 (Below w.heap.size w w2) := ⟨below_then HB.out HB.out.size hB2⟩
  have HG2 := Aside0.mk (blk_below HG.out hB2)
  clear hB2
  have hst := tabStoreNew w2
  go_wp2_with fail
  have HB3 : Aside0 (Below w.heap.size w (w2.alloc (.cells tabC 150))) := ⟨below_alloc HB2.out _⟩
  have HG3 := Aside0.mk (blk_alloc HG2.out (.cells tabC 150))
  have HT3 := Aside0.mk (heap_alloc_new w2 (.cells tabC 150))
  obtain ⟨h, hh⟩ : ∃ h, h = w2.heap.size := ⟨_, rfl⟩
  rw [← hh] at HT3 ⊢
  have HHG : Aside0 (h ≠ g) := ⟨by have := blk_lt HG2.out; omega⟩
  clear hst hh
  generalize w2.alloc (.cells tabC 150) = w3 at *
  go_loopg [8, 29] l.length (fun kq v8 v29 w' => ∃ (i : Nat) (x : Int), Aside0 (i + kq = l.length) ∧ v29 = .int .i64 i ∧ Aside0 (w'.heap[g]? = some (.cells #[.int .u32 x] 148 (0, 0))) ∧ Aside0 (w'.heap[h]? = some (.cells tabC 150 (0, 0))) ∧ Aside0 (crcTL x (l.drop i) = crcTL (Go.bits .xor .u32 IntKind.u32.max 0) l) ∧ Aside0 (Below w.heap.size w w'))
  case atStart => exact ⟨0, _, ⟨by omega⟩, rfl, HG3, HT3, ⟨by rw [List.drop_zero]⟩, HB3⟩
  case round =>
    obtain ⟨i, x, HIK, rfl, HX, HT, HN, HB⟩ := hrel
    by_cases hlt : i < l.length
    · have clt : decide ((i : Int) < (l.length : Int)) = true := decide_eq_true (by omega)
      have clt2 : decide (i < l.length) = true := decide_eq_true hlt
      have q0 : ((i : Int) < (l.length : Int)) = True := eq_true (by omega)
      have p0 : ((0 : Int) ≤ (i : Int)) = True := eq_true (by omega)
      have hl2 := HL.out
      have HW : Aside0 (wrap64 ((i : Int) + 1) = ((i + 1 : Nat) : Int)) := ⟨by rw [wrap64_in _ (by omega) (by omega)]; rfl⟩
      have HTK := Aside0.mk (tk_next _ _ _ HIK.out hlt)
      have hC := C_heap HA.out (fun j hj => HB.out.block j hj)
      have hr := Kd.reads_of_C (enc := Value.int .u8) (d := (0 : Int)) hC
      obtain ⟨ad, e, hc⟩ := hr.2.2 (by omega)
      subst e
      have kb : wr.cell? (ad.add i) = some (.int .u8 (l.getD i 0)) := hc i hlt
      have c0 : wr.cell? ⟨g, 0, none⟩ = some (.int .u32 x) := (blk_cell HX.out 0).trans rfl
      have f0 := blk_frozen HX.out 0
      have hdr : l.drop i = l.getD i 0 :: l.drop (i + 1) := by
        rw [List.drop_eq_getElem_cons hlt, List.getD_eq_getElem?_getD, List.getElem?_eq_getElem hlt]; rfl
      generalize l.getD i 0 = y at *
      have HNX : Aside0 (crcTL (crcTab x y) (l.drop (i + 1)) = crcTL (Go.bits .xor .u32 IntKind.u32.max 0) l) := ⟨by rw [← HN.out, hdr]; rfl⟩
      have cj : wr.cell? ⟨h, tabJ x y, none⟩ = some (.int .u32 ((tabL 256).getD (tabJ x y) 0)) := (blk_cell HT.out _).trans (tabC_at _ (tabJ_lt x y))
      have HCT : Aside0 (crcTab x y = Go.bits .xor .u32 (x / 256) ((tabL 256).getD (tabJ x y) 0)) := ⟨rfl⟩
      have hj : Go.bits .xor .u8 (x % 256) y = ((tabJ x y : Nat) : Int) := (tabJ_cast x y).symm
      have hjl := tabJ_lt x y
      have hja : (⟨h, 0, none⟩ : Addr).add (tabJ x y) = ⟨h, tabJ x y, none⟩ := by rw [add_mid1]; simp
      generalize (tabL 256).getD (tabJ x y) 0 = z at *
      generalize tabJ x y = j at *
      have q1 : ((j : Int) < 256) = True := eq_true (by omega)
      have p1 : ((0 : Int) ≤ (j : Int)) = True := eq_true (by omega)
      clear hlt hC hr hc hdr hl2 hjl
      go_wp2_with fail
      go_region
      have HX2 : Aside0 ((wr.setCell ⟨g, 0, none⟩ (.int .u32 (Go.bits .xor .u32 (x / 256) z))).drew.heap[g]? = some (.cells #[.int .u32 (Go.bits .xor .u32 (x / 256) z)] 148 (0, 0))) := ⟨blk_drew (blk_set HX.out 0 _)⟩
      have HT2 : Aside0 ((wr.setCell ⟨g, 0, none⟩ (.int .u32 (Go.bits .xor .u32 (x / 256) z))).drew.heap[h]? = some (.cells tabC 150 (0, 0))) := ⟨blk_drew (blk_far HT.out (p := ⟨g, 0, none⟩) HHG.out _)⟩
      have HB4 : Aside0 (Below w.heap.size w (wr.setCell ⟨g, 0, none⟩ (.int .u32 (Go.bits .xor .u32 (x / 256) z))).drew) := ⟨below_drew (below_set HB.out HSZ.out)⟩
      rw [← HCT.out] at HX2 HT2 HB4 ⊢
      clear HX HT HB kb c0 f0 cj
      go_wp2_with fail
      go_roundg (gk - 1)
      case measure => exact HTK.out.1
      case rel => exact ⟨i + 1, crcTab x y, ⟨HTK.out.2⟩, (by rw [HW.out]), HX2, HT2, HNX, HB4⟩
    · have clt : decide ((i : Int) < (l.length : Int)) = false := decide_eq_false (by omega)
      have clt2 : decide (i < l.length) = false := decide_eq_false hlt
      have HI : Aside0 (l.drop i = []) := ⟨List.drop_eq_nil_of_le (by omega)⟩
      have c0 : wr.cell? ⟨g, 0, none⟩ = some (.int .u32 x) := (blk_cell HX.out 0).trans rfl
      have hfin : crcTL (Go.bits .xor .u32 IntKind.u32.max 0) l = x := by have := HN.out; rw [HI.out] at this; exact this.symm
      clear hlt
      go_wp2_with fail
      go_ret
      exact ⟨by unfold sumT; rw [hfin]; rfl, HB.out⟩
/-- The sum, of any payload. -/
def sumV (l : List Int) : Int := if l.length < 300 then sumS l else sumT l
theorem sum_calls (A : Option Addr) (c : Nat) (l : List Int) (hl2 : l.length ≤ 2000000) (w : World) (hA : Kd.C (Kd.int .u8) w A l.length l) :
    Calls Try.prog 83 #[.int .u32 0, .slice A l.length c] w fun e w' => e = .returned (.int .u32 (sumV l)) ∧ Below w.heap.size w w' := by
  unfold sumV
  by_cases h : l.length < 300
  · rw [if_pos h]
    exact sumS_calls A c l h w hA
  · rw [if_neg h]
    exact sumT_calls A c l h hl2 w hA
end Go.Proofs.Ytoonepmnlgfikaa.D
/-! VA -/
namespace Go.Proofs.Ytoonepmnlgfikaa.D
open Go.RowKit Go.Proofs.YtoonepmnlgfikaaW.PrintWords Go.Proofs.YtoonepmnlgfikaaW.PrintLast Go.Proofs.YtoonepmnlgfikaaW.PrintMore Go.Proofs.Ytoonepmnlgfikaa.Base
set_option linter.unusedVariables false
set_option linter.unusedSimpArgs false
theorem ipow {b m n : Nat} (hb : 0 < b) (h : m ≤ n) : ((b : Nat) : Int) ^ m ≤ ((b : Nat) : Int) ^ n := by exact_mod_cast Nat.pow_le_pow_right hb h
/-- A number as n bytes, the highest first. -/
def be (v : Int) : Nat → List Int
  | 0 => []
  | n + 1 => (v / 2 ^ (8 * n)) % 256 :: be v n
theorem be_len (v : Int) : ∀ n, (be v n).length = n
  | 0 => rfl
  | n + 1 => by show (be v n).length + 1 = _; rw [be_len v n]
theorem be_byte (v : Int) : ∀ n, ∀ x ∈ be v n, 0 ≤ x ∧ x < 256
  | 0, x, h => by cases h
  | n + 1, x, h => by
    rcases List.mem_cons.1 h with rfl | h
    · exact ⟨Int.emod_nonneg _ (by decide), Int.emod_lt_of_pos _ (by decide)⟩
    · exact be_byte v n x h
theorem number_l0 (v : Int) : ∀ (n : Nat) (l : List Int) (k : Nat), n ≤ 8 → n < k → l.length + n < 140737488355328 → V.frames_Number.l0 k l v ((n : Int) - 1) = some (l ++ be v n)
  | 0, l, k, hn, hk, hl => by
    obtain ⟨k, rfl⟩ : ∃ m, k = m + 1 := ⟨k - 1, by omega⟩
    rw [V.frames_Number.l0, if_neg (by omega)]
    show some l = some (l ++ [])
    rw [List.append_nil]
  | n + 1, l, k, hn, hk, hl => by
    obtain ⟨k, rfl⟩ : ∃ m, k = m + 1 := ⟨k - 1, by omega⟩
    have e : ((n + 1 : Nat) : Int) - 1 = (n : Int) := by omega
    have hw : wrap64 (8 * (n : Int)) = 8 * (n : Int) := wrap64_in _ (by omega) (by omega)
    have hw2 : wrap64 ((n : Int) - 1) = (n : Int) - 1 := wrap64_in _ (by omega) (by omega)
    have hs : shr .i64 v (8 * (n : Int)) = v / 2 ^ (8 * n) := by
      unfold shr
      have h1 : (8 * (n : Int)).toNat = 8 * n := by omega
      rw [h1, Nat.min_eq_left (by show 8 * n ≤ 64; omega)]
    rw [e, V.frames_Number.l0, if_pos (by omega), hw, if_pos (by omega), if_pos (by omega), hs, hw2, number_l0 v n _ k (by omega) (by omega) (by rw [List.length_append]; show l.length + 1 + n < _; omega), List.append_assoc]
    rfl
theorem number_is (v : Int) (n : Nat) (l : List Int) (hn : n ≤ 8) (hl : l.length + n < 140737488355328) : V.frames_Number.f 20 l v (n : Int) = some (l ++ be v n) := by
  unfold V.frames_Number.f
  rw [wrap64_in _ (by omega) (by omega)]
  exact number_l0 v n l 20 hn (by omega) hl
/-- Bytes as a number. -/
def rdv (a : Int) (l : List Int) : Int := l.foldl (fun a b => a * 256 + b) a
theorem rdv_le : ∀ (l : List Int) (a : Int), (∀ x ∈ l, 0 ≤ x ∧ x < 256) → 0 ≤ a → 0 ≤ rdv a l ∧ rdv a l < (a + 1) * 256 ^ l.length
  | [], a, h, ha => by show 0 ≤ a ∧ a < (a + 1) * 1; omega
  | b :: l, a, h, ha => by
    have hb := h b (by simp)
    have ih := rdv_le l (a * 256 + b) (fun x hx => h x (by simp [hx])) (by omega)
    refine ⟨ih.1, Int.lt_of_lt_of_le ih.2 ?_⟩
    have e : (256 : Int) ^ (b :: l).length = 256 ^ l.length * 256 := by rw [List.length_cons, Int.pow_succ]
    rw [e]
    have hp : (0 : Int) < 256 ^ l.length := Int.pow_pos (by decide)
    have h2 : a * 256 + b + 1 ≤ (a + 1) * 256 := by omega
    calc (a * 256 + b + 1) * 256 ^ l.length ≤ ((a + 1) * 256) * 256 ^ l.length := Int.mul_le_mul_of_nonneg_right h2 (by omega)
      _ = (a + 1) * (256 ^ l.length * 256) := by rw [Int.mul_assoc, Int.mul_comm 256]
theorem read_l0 (xs : List Int) (hb : ∀ x ∈ xs, 0 ≤ x ∧ x < 256) (hx : xs.length ≤ 8) : ∀ (d i k : Nat) (a : Int), i + d = xs.length → d < k → 0 ≤ a → (a + 1) * 256 ^ d ≤ 9223372036854775807 → V.frames_Read.l0 k a xs (xs.length : Int) (i : Int) = some (rdv a (xs.drop i))
  | 0, i, k, a, hi, hk, ha, hm => by
    obtain ⟨k, rfl⟩ : ∃ m, k = m + 1 := ⟨k - 1, by omega⟩
    rw [V.frames_Read.l0, if_neg (by omega), List.drop_eq_nil_of_le (by omega)]
    rfl
  | d + 1, i, k, a, hi, hk, ha, hm => by
    obtain ⟨k, rfl⟩ : ∃ m, k = m + 1 := ⟨k - 1, by omega⟩
    have hlt : i < xs.length := by omega
    have hw : wrap64 ((i : Int) + 1) = ((i + 1 : Nat) : Int) := by rw [wrap64_in _ (by omega) (by omega)]; rfl
    have hr : rd xs (i : Int) = xs[i] := by
      show xs.getD (i : Int).toNat 0 = _
      rw [Int.toNat_natCast, List.getD_eq_getElem?_getD, List.getElem?_eq_getElem hlt]; rfl
    have hbx := hb _ (List.getElem_mem hlt)
    have hp : (1 : Int) ≤ 256 ^ d := by have : (0 : Int) < 256 ^ d := Int.pow_pos (by decide); omega
    have e : (256 : Int) ^ (d + 1) = 256 ^ d * 256 := Int.pow_succ ..
    have hm2 : ((a + 1) * 256) * 256 ^ d ≤ 9223372036854775807 := by rw [Int.mul_assoc, Int.mul_comm 256, ← e]; exact hm
    have hm3 : (a + 1) * 256 ≤ 9223372036854775807 := by
      have h0 : 0 ≤ (a + 1) * 256 := by omega
      have := Int.mul_le_mul_of_nonneg_left hp h0
      omega
    have hw1 : wrap64 (a * 256) = a * 256 := wrap64_in _ (by omega) (by omega)
    have hw2 : wrap64 xs[i] = xs[i] := wrap64_in _ (by omega) (by omega)
    have hor : Go.bits .or .i64 (a * 256) xs[i] = a * 256 + xs[i] := by
      refine bits_join .i64 63 (by decide) (fun n h0 h1 => by rw [IntKind.wrap_i64]; omega) 8 _ _ (by omega) (by show a * 256 % 256 = 0; omega) (by show a * 256 < 9223372036854775808; omega) hbx.1 (by show xs[i] < 256; omega) (by show xs[i] < 9223372036854775808; omega)
    rw [V.frames_Read.l0, if_pos (by omega), if_pos (by omega), if_pos (by omega), hr, hw1, hw2, hor, hw, List.drop_eq_getElem_cons hlt]
    rw [read_l0 xs hb hx d (i + 1) k (a * 256 + xs[i]) (by omega) (by omega) (by omega) ?_]
    · rfl
    · refine Int.le_trans (Int.mul_le_mul_of_nonneg_right (show a * 256 + xs[i] + 1 ≤ (a + 1) * 256 by omega) (by omega)) hm2
theorem read_is (xs : List Int) (hb : ∀ x ∈ xs, 0 ≤ x ∧ x < 256) (hx : xs.length ≤ 7) : V.frames_Read.f 20 xs = some (rdv 0 xs) := by
  unfold V.frames_Read.f
  have := read_l0 xs hb (by omega) xs.length 0 20 0 (by omega) (by omega) (by omega) (by
    have h7 : (256 : Int) ^ xs.length ≤ 256 ^ 7 := ipow (b := 256) (by decide) hx
    have : (256 : Int) ^ 7 = 72057594037927936 := by decide
    omega)
  simpa using this
theorem imodmul (m Q : Nat) : (m : Int) % ((Q : Int) * 256) = (m : Int) % (Q : Int) + (Q : Int) * ((m : Int) / (Q : Int) % 256) := by
  have h := Nat.mod_mul (x := m) (a := Q) (b := 256)
  have h2 : ((m % (Q * 256) : Nat) : Int) = ((m % Q + Q * (m / Q % 256) : Nat) : Int) := by rw [h]
  simp only [Int.natCast_emod, Int.natCast_add, Int.natCast_mul, Int.natCast_ediv] at h2
  exact h2
theorem rdv_be (v : Int) (h0 : 0 ≤ v) : ∀ (n : Nat) (a : Int), rdv a (be v n) = a * 2 ^ (8 * n) + v % 2 ^ (8 * n)
  | 0, a => by show a = a * 1 + v % 1; omega
  | n + 1, a => by
    show rdv (a * 256 + (v / 2 ^ (8 * n)) % 256) (be v n) = _
    rw [rdv_be v h0 n]
    have e : (2 : Int) ^ (8 * (n + 1)) = 2 ^ (8 * n) * 256 := by rw [show 8 * (n + 1) = 8 * n + 8 by omega, Int.pow_add]; rfl
    rw [e]
    have hp : (0 : Int) < 2 ^ (8 * n) := Int.pow_pos (by decide)
    have h1 : v % (2 ^ (8 * n) * 256) = v % 2 ^ (8 * n) + 2 ^ (8 * n) * (v / 2 ^ (8 * n) % 256) := by
      obtain ⟨m, rfl⟩ := Int.eq_ofNat_of_zero_le h0
      have hc : (2 : Int) ^ (8 * n) = ((2 ^ (8 * n) : Nat) : Int) := (Int.natCast_pow 2 (8 * n)).symm
      rw [hc]
      exact imodmul m _
    generalize (2 : Int) ^ (8 * n) = P at *
    rw [h1]
    have : (a * 256 + v / P % 256) * P = a * (P * 256) + P * (v / P % 256) := by rw [Int.add_mul, Int.mul_assoc, Int.mul_comm 256 P, Int.mul_comm (v / P % 256) P]
    rw [this]
    omega
theorem rdv_be0 (v : Int) (n : Nat) (h0 : 0 ≤ v) (h1 : v < 2 ^ (8 * n)) : rdv 0 (be v n) = v := by
  rw [rdv_be v h0 n 0, Int.zero_mul, Int.zero_add, Int.emod_eq_of_lt h0 h1]
/-- Eight bytes of a number below 2^40: three noughts ahead. -/
theorem be8 (v : Int) (h0 : 0 ≤ v) (h1 : v < 1099511627776) : be v 8 = [0, 0, 0] ++ be v 5 := by
  have h : ∀ m, 5 ≤ m → v / 2 ^ (8 * m) % 256 = 0 := fun m hm => by
    have : v / 2 ^ (8 * m) = 0 := by
      refine Int.ediv_eq_zero_of_lt h0 (Int.lt_of_lt_of_le h1 ?_)
      have : (2 : Int) ^ (8 * 5) ≤ 2 ^ (8 * m) := ipow (b := 2) (by decide) (by omega)
      exact this
    rw [this]; rfl
  show v / 2 ^ (8 * 7) % 256 :: v / 2 ^ (8 * 6) % 256 :: v / 2 ^ (8 * 5) % 256 :: be v 5 = _
  rw [h 7 (by omega), h 6 (by omega), h 5 (by omega)]
  rfl
theorem rd_zero (xs : List Int) (k : Nat) : True := trivial
/-- Reading eight bytes of a number below 2^40. -/
theorem read8_is (v : Int) (h0 : 0 ≤ v) (h1 : v < 1099511627776) : V.frames_Read.f 20 (be v 8) = some v := by
  unfold V.frames_Read.f
  have hb := be_byte v 8
  have hl := be_len v 8
  have e8 := be8 v h0 h1
  have z0 : ∀ i : Nat, i < 3 → rd (be v 8) (i : Int) = 0 := fun i hi => by
    rw [e8]
    match i, hi with
    | 0, _ => rfl
    | 1, _ => rfl
    | 2, _ => rfl
  have step : ∀ (k i : Nat), i < 3 → V.frames_Read.l0 (k + 1) 0 (be v 8) ((be v 8).length : Int) (i : Int) = V.frames_Read.l0 k 0 (be v 8) ((be v 8).length : Int) ((i + 1 : Nat) : Int) := fun k i hi => by
    have hw : wrap64 ((i : Int) + 1) = ((i + 1 : Nat) : Int) := by rw [wrap64_in _ (by omega) (by omega)]; rfl
    have w0 : wrap64 (0 * 256) = 0 := wrap64_in 0 (by omega) (by omega)
    have w1 : wrap64 0 = 0 := wrap64_in 0 (by omega) (by omega)
    have hor : Go.bits .or .i64 (wrap64 (0 * 256)) (wrap64 0) = 0 := by
      rw [w0, w1]
      exact bits_join .i64 63 (by decide) (fun n h0 h1 => by rw [IntKind.wrap_i64]; omega) 8 0 0 (by omega) rfl (by decide) (by omega) (by decide) (by decide)
    rw [V.frames_Read.l0, if_pos (by rw [hl]; omega), if_pos (by omega), if_pos (by rw [hl]; omega), z0 i hi, hor, hw]
  have s0 := step 19 0 (by omega)
  have s1 := step 18 1 (by omega)
  have s2 := step 17 2 (by omega)
  have h3 := read_l0 (be v 8) hb (by omega) 5 3 17 0 (by omega) (by omega) (by omega) (by decide)
  have hd : (be v 8).drop 3 = be v 5 := by rw [e8]; rfl
  rw [hd, rdv_be0 v 5 h0 h1] at h3
  exact (s0.trans (s1.trans s2)).trans h3
/-- A payload's frame. -/
def layB (p : List Int) : List Int := be p.length 4 ++ p ++ be (sumV p) 4 ++ [1]
theorem layB_len (p : List Int) : (layB p).length = p.length + 9 := by
  unfold layB
  simp only [List.length_append, be_len, List.length_cons, List.length_nil]
  omega
theorem wrap_u32' (n : Int) : IntKind.u32.wrap n = n % 4294967296 := by simp [IntKind.wrap, IntKind.bits, IntKind.signed]
theorem bits32 (x y : Int) : 0 ≤ Go.bits .xor .u32 x y ∧ Go.bits .xor .u32 x y < 4294967296 := by
  unfold Go.bits
  simp only [wrap_u32']
  omega
theorem sumV_range (p : List Int) : 0 ≤ sumV p ∧ sumV p < 4294967296 := by
  unfold sumV
  split
  · exact bits32 _ _
  · exact bits32 _ _
theorem readlen_is (n : Nat) (h : n < 4294967296) : V.frames_Read.f 20 (be (n : Int) 4) = some (n : Int) := by
  rw [read_is _ (be_byte _ 4) (by rw [be_len]; omega), rdv_be0 _ 4 (by omega) (by show (n : Int) < 4294967296; omega)]
theorem readsum_is (p : List Int) : V.frames_Read.f 20 (be (sumV p) 4) = some (sumV p) := by
  have := sumV_range p
  rw [read_is _ (be_byte _ 4) (by rw [be_len]; omega), rdv_be0 _ 4 this.1 this.2]
end Go.Proofs.Ytoonepmnlgfikaa.D
/-! VFrames -/
namespace Go.Proofs.Ytoonepmnlgfikaa.D
open Go.RowKit Go.Proofs.YtoonepmnlgfikaaW.PrintWords Go.Proofs.YtoonepmnlgfikaaW.PrintLast Go.Proofs.YtoonepmnlgfikaaW.PrintMore Go.Proofs.Ytoonepmnlgfikaa.Base
set_option linter.unusedVariables false
set_option linter.unusedSimpArgs false
theorem sumV_wrap (p : List Int) : wrap64 (sumV p) = sumV p := by
  have h := sumV_range p
  generalize sumV p = x at *
  exact wrap64_in _ (by omega) (by omega)
theorem C_one (X : World) (q : Nat) (z : Nat × Nat) (h : X.heap[q]? = some (.cells #[.int .u8 1] 5 z)) : Kd.C (Kd.int .u8) X (some ⟨q, 0, none⟩) ([1] : List Int).length [1] :=
  Kd.C_of_reads (enc := Value.int .u8) (d := (0 : Int)) ⟨rfl, by decide, fun _ => ⟨_, rfl, fun j hj => by
    rw [add_plain, cell_of_row X q j _ 5 z h]
    match j, hj with
    | 0, _ => rfl⟩⟩
set_option maxHeartbeats 3200000 in
set_option maxRecDepth 100000 in
theorem lay_calls (A : Option Addr) (c : Nat) (p : List Int) (hp : p.length ≤ 40000) (w : World) (hC : Kd.C (Kd.int .u8) w A p.length p) :
    Calls Try.prog 71 #[.slice none 0 0, .slice A p.length c] w fun e w' => ∃ v, e = .returned v ∧ Kd.R (Kd.int .u8) 5 w' w.heap.size (fun _ => True) v (layB p) ∧ Below w.heap.size w w' := by
  have HC := Aside0.mk hC
  have HP := Aside0.mk hp
  have hws := sumV_wrap p
  have H1 := Aside0.mk (number_is (p.length : Int) 4 [] (by decide) (by decide))
  obtain ⟨b1, hb1⟩ : ∃ b1, b1 = be (p.length : Int) 4 := ⟨_, rfl⟩
  obtain ⟨b2, hb2⟩ : ∃ b2, b2 = b1 ++ p := ⟨_, rfl⟩
  obtain ⟨b3, hb3⟩ : ∃ b3, b3 = b2 ++ be (sumV p) 4 := ⟨_, rfl⟩
  have HL1 : Aside0 (b1.length = 4) := ⟨by rw [hb1, be_len]⟩
  have HL2 : Aside0 (b2.length = 4 + p.length) := ⟨by rw [hb2, List.length_append, HL1.out]⟩
  have HL3 : Aside0 (b3.length = 8 + p.length) := ⟨by rw [hb3, List.length_append, HL2.out, be_len]; omega⟩
  have HE : Aside0 (b3 ++ [1] = layB p) := ⟨by rw [hb3, hb2, hb1]; rfl⟩
  have H1 : Aside0 (V.frames_Number.f 20 [] (p.length : Int) 4 = some b1) := ⟨by rw [hb1]; exact H1.out⟩
  have H3 : Aside0 (V.frames_Number.f 20 b2 (sumV p) 4 = some b3) := ⟨by rw [hb3]; exact number_is (sumV p) 4 b2 (by decide) (by have := HL2.out; have := HP.out; omega)⟩
  have HB2 := Aside0.mk hb2
  clear hC hp hb1 hb2 hb3
  go_enter Try.func71, Try.ntmps71
  go_wp2_with (first
    | (go_at_call 65; have hR2 := HR2.out; refine (V.frames_Number.calls 20 (fun _ => True) _ b2 (sumV p) 4 b3 w _ (by exact HBW3.out) (Kd.R_below hR2 HB3.out) H3.out).mono ?_; rintro e w4 ⟨v4, rfl, hr, hb, hk⟩; obtain ⟨A4, c4, rfl⟩ := Kd.R_slice hr; have HR4 := Aside0.mk (Kd.R_mono (ok' := fun _ => True) hr (fun _ _ => trivial)); have HBW4 := Aside0.mk hb; clear hr hb hk hR2 HR2)
    | (go_at_call 65; refine (V.frames_Number.calls 20 (fun _ => True) (.slice none 0 0) [] (p.length : Int) 4 b1 w w (Below.refl _ _) (Kd.R_nil _ _ _ _ _) H1.out).mono ?_; rintro e w1 ⟨v1, rfl, hr, hb, hk⟩; obtain ⟨A1, c1, rfl⟩ := Kd.R_slice hr; have HR1 := Aside0.mk (Kd.R_mono (ok' := fun _ => True) hr (fun _ _ => trivial)); have HBW1 := Aside0.mk hb; clear hr hb hk)
    | (go_at_call 83; refine (sum_calls A c p (by have := HP.out; omega) _ (Kd.C_below HC.out HBW2.out)).mono ?_; rintro e w3 ⟨rfl, hb3⟩; have HB3 := Aside0.mk hb3; have HBW3 := Aside0.mk (below_step HBW2.out hb3); clear hb3)
    | ((with_reducible refine gate_builtin (b := .append) (xs := #[.tmp 8, .tmp 9]) rfl ?_); at_builtin; refine Kd.R_append_rows (Kd.int .u8) (w0 := w) w.heap.size rfl (.tmp 8) (.tmp 9) 27 5 (.int .u8 0) 1 rfl Try.underlying27 info5 rfl (by decide) (by decide) _ b1 p _ _ _ (fun _ => True) (fun _ => False) rfl rfl HR1.out (Kd.C_below HC.out HBW1.out) (fun _ _ h => h) (fun _ h => h.elim) (fun _ _ => trivial) HBW1.out HBW1.out.size (by have := HL1.out; have := HP.out; omega) ?_; intro v2 w2 ho2 hb2 hg2 hat2; rw [← HB2.out] at ho2; obtain ⟨A2, c2, rfl⟩ := Kd.R_slice ho2; have HR2 := Aside0.mk ho2; have HBW2 := Aside0.mk hb2; clear ho2 hb2 hg2 hat2 HR1 HBW1)
    | ((with_reducible refine gate_builtin (b := .append) (xs := #[.tmp 15, .tmp 16]) rfl ?_); at_builtin; refine Kd.R_append_rows (Kd.int .u8) (w0 := w) w.heap.size rfl (.tmp 15) (.tmp 16) 27 5 (.int .u8 0) 1 rfl Try.underlying27 info5 rfl (by decide) (by decide) _ b3 [1] _ _ _ (fun _ => True) (fun _ => False) rfl rfl (Kd.R_alloc HR4.out _) (C_one _ _ (0, 0) (heap_alloc_new w4 _)) (fun _ _ h => h) (fun _ h => h.elim) (fun _ _ => trivial) (HBW4.out.alloc HBW4.out.size _) (by have := HBW4.out.size; simp; omega) (by have := HL3.out; have := HP.out; show (b3.length + 1) * 1 ≤ _; omega) ?_; intro v5 w5 ho5 hb5 hg5 hat5; rw [HE.out] at ho5; obtain ⟨A5, c5, rfl⟩ := Kd.R_slice ho5; have HR5 := Aside0.mk ho5; have HBW5 := Aside0.mk hb5; clear ho5 hb5 hg5 hat5 HR4 HBW4))
  go_ret
  exact ⟨_, rfl, HR5.out, HBW5.out⟩
theorem lay_take (p : List Int) : (layB p).take 4 = be (p.length : Int) 4 := by
  unfold layB
  rw [List.append_assoc, List.append_assoc, List.take_append_of_le_length (by rw [be_len]; exact Nat.le_refl _), List.take_of_length_le (by rw [be_len]; exact Nat.le_refl _)]
theorem lay_mid (p : List Int) : ((layB p).take (4 + p.length)).drop 4 = p := by
  unfold layB
  have h1 : (be (p.length : Int) 4 ++ p).length = 4 + p.length := by rw [List.length_append, be_len]
  rw [List.append_assoc, List.take_append_of_le_length (by rw [h1]; exact Nat.le_refl _), List.take_of_length_le (by rw [h1]; exact Nat.le_refl _), List.drop_append_of_le_length (by rw [be_len]; exact Nat.le_refl _), List.drop_eq_nil_of_le (by rw [be_len]; exact Nat.le_refl _)]
  rfl
theorem lay_tail (p : List Int) : (layB p).drop (4 + p.length) = be (sumV p) 4 ++ [1] := by
  unfold layB
  have h1 : (be (p.length : Int) 4 ++ p).length = 4 + p.length := by rw [List.length_append, be_len]
  rw [List.append_assoc, List.drop_append_of_le_length (by rw [h1]; exact Nat.le_refl _), List.drop_eq_nil_of_le (by rw [h1]; exact Nat.le_refl _)]
  rfl
theorem tail_get (x : Int) : (be x 4 ++ [1]).getD 4 0 = 1 := rfl
theorem tail_take (x : Int) : (be x 4 ++ [1]).take 4 = be x 4 := rfl
theorem tail_len (x : Int) : (be x 4 ++ [1]).length = 5 := rfl
theorem nx_facts (m n m4 : Nat) (h4 : m4 = 4 + m) (hn : n = m + 9) (hm : m ≤ 40000) : decide ((n : Int) < 4) = false ∧ decide (n < 4) = false ∧ wrap64 ((n : Int) - 4) = (n : Int) - 4 ∧ wrap64 ((n : Int) - 4 - 5) = (m : Int) ∧ wrap64 (4 + (m : Int)) = (m4 : Int) ∧ wrap64 ((m4 : Int) + 5) = (n : Int) ∧ decide ((m : Int) < (m : Int)) = false :=
  ⟨decide_eq_false (by omega), decide_eq_false (by omega), wrap64_in _ (by omega) (by omega), by rw [wrap64_in _ (by omega) (by omega)]; omega, by rw [wrap64_in _ (by omega) (by omega)]; omega, by rw [wrap64_in _ (by omega) (by omega)]; omega, decide_eq_false (by omega)⟩
set_option maxHeartbeats 3200000 in
set_option maxRecDepth 100000 in
theorem next_calls (A : Option Addr) (c : Nat) (p : List Int) (hp : p.length ≤ 40000) (w : World) (hc : (layB p).length ≤ c) (hC : Kd.C (Kd.int .u8) w A (layB p).length (layB p)) :
    Calls Try.prog 70 #[.slice A (layB p).length c] w fun e w' => ∃ A' c', e = .returned (.tuple #[.slice A' p.length c', .int .i64 ((layB p).length : Int), .int .i64 0]) ∧ p.length ≤ c' ∧ Kd.C (Kd.int .u8) w' A' p.length p ∧ Below w.heap.size w w' := by
  obtain ⟨i5, hi5, _, hsz5, _⟩ := info_parts info5
  have hll := layB_len p
  have hC1 : Kd.C (Kd.int .u8) w A 4 (be (p.length : Int) 4) := by
    have h := Kd.C_take (m := 4) hC (by omega)
    rw [lay_take] at h
    exact h
  have hC2 : Kd.C (Kd.int .u8) w (if c = 4 then A else A.map (·.add (4 * 1))) p.length p := by
    have h := Kd.C_take (m := 4 + p.length) hC (by omega)
    have hl : ((layB p).take (4 + p.length)).length = 4 + p.length := by rw [List.length_take]; omega
    have h2 := Kd.C_drop (m := 4) (c := c) h (by omega) (by omega)
    rw [lay_mid] at h2
    exact h2
  have hC3 : Kd.C (Kd.int .u8) w (if c = 4 + p.length then A else A.map (·.add ((4 + p.length) * 1))) 5 (be (sumV p) 4 ++ [1]) := by
    have h := Kd.C_drop (m := 4 + p.length) (c := c) hC (by omega) hc
    rw [lay_tail] at h
    exact h
  have hcut1 : ∀ W : World, (Instr.slice 27 (.slice A (layB p).length c) none (some (.int .i64 4)) none).run Try.prog W = .ok (.slice A 4 c) W := cut_to 27 5 .i64 Try.underlying27 hi5 A _ c 4 (by decide) (by omega) hc
  have hcut2 := cut_mid (P := Try.prog) 27 5 .i64 .i64 Try.underlying27 hi5 1 hsz5 A (layB p).length c 4 ((4 + p.length : Nat) : Int) (by decide) (by omega) (by omega) hc
  have hcut3 := cut_from (P := Try.prog) 27 5 .i64 Try.underlying27 hi5 1 hsz5 A (layB p).length c ((4 + p.length : Nat) : Int) (by omega) (by omega)
  have e1 : ((4 + p.length : Nat) : Int).toNat = 4 + p.length := by omega
  have e2 : (4 : Int).toNat = 4 := rfl
  rw [e1, e2] at hcut2
  rw [e1] at hcut3
  obtain ⟨Ap, hAp⟩ : ∃ Ap, Ap = (if c = 4 then A else A.map (·.add (4 * 1))) := ⟨_, rfl⟩
  obtain ⟨At, hAt⟩ : ∃ At, At = (if c = 4 + p.length then A else A.map (·.add ((4 + p.length) * 1))) := ⟨_, rfl⟩
  rw [← hAp] at hC2 hcut2
  rw [← hAt] at hC3 hcut3
  have e3 : 4 + p.length - 4 = p.length := by omega
  have e4 : (layB p).length - (4 + p.length) = 5 := by omega
  rw [e3] at hcut2
  rw [e4] at hcut3
  obtain ⟨cp, hcp⟩ : ∃ cp, cp = c - 4 := ⟨_, rfl⟩
  obtain ⟨ct, hct⟩ : ∃ ct, ct = c - (4 + p.length) := ⟨_, rfl⟩
  rw [← hcp] at hcut2
  rw [← hct] at hcut3
  obtain ⟨m4, hm4⟩ : ∃ m4, m4 = 4 + p.length := ⟨_, rfl⟩
  rw [← hm4] at hcut2 hcut3
  have HCP : Aside0 (p.length ≤ cp ∧ 5 ≤ ct) := ⟨by omega⟩
  have HCC : Aside0 (4 ≤ c) := ⟨by omega⟩
  obtain ⟨n, hn⟩ : ∃ n, n = (layB p).length := ⟨_, rfl⟩
  rw [← hn] at hcut1 hcut2 hcut3 ⊢
  have HN : Aside0 (n = p.length + 9) := ⟨by omega⟩
  have HP := Aside0.mk hp
  have HC1 := Aside0.mk hC1
  have HC2 := Aside0.mk hC2
  have hR3 := Kd.reads_of_C (enc := Value.int .u8) (d := (0 : Int)) hC3
  obtain ⟨at_, eat, hc3⟩ := hR3.2.2 (by decide)
  subst eat
  have kt : w.cell? (at_.add 4) = some (.int .u8 1) := hc3 4 (by decide)
  have HC3 : Aside0 (Kd.C (Kd.int .u8) w (some at_) 4 (be (sumV p) 4)) := ⟨by
    have h := Kd.C_take (m := 4) hC3 (show 4 ≤ 5 by decide)
    exact h⟩
  have hcut4 : ∀ W : World, (Instr.slice 27 (.slice (some at_) 5 ct) none (some (.int .i64 4)) none).run Try.prog W = .ok (.slice (some at_) 4 ct) W := cut_to 27 5 .i64 Try.underlying27 hi5 (some at_) 5 ct 4 (by decide) (by decide) HCP.out.2
  obtain ⟨hd1, hd1n, hw1, hw2, hw3, hw5, hd2⟩ := nx_facts p.length n m4 hm4 HN.out hp
  have hws := sumV_wrap p
  have HSZ : Aside0 (V.frames_Size.f (p.length : Int) = some (n : Int)) := ⟨by
    unfold V.frames_Size.f
    rw [hw3, hw5]⟩
  clear hC hc hll hC1 hC2 hC3 hR3 hc3 hAp hAt hcp hct hi5 hsz5 e1 e2 e3 e4 hn hp hm4
  go_enter Try.func70, Try.ntmps70
  go_wp2_with (go_at_call 64; refine (V.frames_Read.calls 20 A c (be (p.length : Int) 4) (p.length : Int) w HC1.out HCC.out (readlen_is p.length (by have := HP.out; omega))).mono ?_; rintro e w1 ⟨rfl, ⟨n1, rfl⟩⟩)
  have kt2 : ∀ n, (w.drewN n).cell? ⟨at_.block, at_.off + 4, none⟩ = some (.int .u8 1) := fun n => kt
  go_quiet (fail)
  go_wp2_with (first
    | (go_at_call 64; refine (V.frames_Read.calls 20 (some at_) ct (be (sumV p) 4) (sumV p) _ (Kd.C_drewN HC3.out _) (by have := HCP.out.2; rw [be_len]; omega) (readsum_is p)).mono ?_; rintro e w2 ⟨rfl, ⟨n2, rfl⟩⟩)
    | (go_at_call 83; refine (sum_calls Ap cp p (by have := HP.out; omega) _ (Kd.C_drewN HC2.out _)).mono ?_; rintro e w3 ⟨rfl, hb3⟩; have HB3 := Aside0.mk hb3; clear hb3)
    | (go_at_call 84; refine (V.frames_Size.calls _ _ _ HSZ.out).mono ?_; rintro e w4 ⟨rfl, ⟨n4, rfl⟩⟩))
  refine bodyPost_ret (results_tmp3 rfl _ _ _) rfl ?_
  have HBW := below_step (pw_below_drewN (Below.refl _ w) _) HB3.out
  exact ⟨Ap, cp, rfl, HCP.out.1, Kd.C_drewN (Kd.C_below HC2.out HBW) _, pw_below_drewN HBW _⟩
end Go.Proofs.Ytoonepmnlgfikaa.D
/-! VB -/
namespace Go.Proofs.Ytoonepmnlgfikaa.D
open Go.RowKit Go.Proofs.YtoonepmnlgfikaaW.PrintWords Go.Proofs.YtoonepmnlgfikaaW.PrintLast Go.Proofs.YtoonepmnlgfikaaW.PrintMore Go.Proofs.Ytoonepmnlgfikaa.Base Go.Maps Go.Sort Go.Shelf
set_option linter.unusedVariables false
set_option linter.unusedSimpArgs false
section
variable {w : World} {B g b cnt : Nat} {n : Int} {D : DataW Unit} {F : Model}
theorem dsk_append_new' (h : Dsk w B g b cnt n D F) (h0 : 0 ≤ n) (h1 : n ≤ 1000000) (hcnt : cnt < 1000) (name : ByteArray) (hs : name.size ≤ maxLen) (l : List Int) (A : Option Addr) (c : Nat) (hl : l.length ≤ 50000) (hA : ArgOk B w A l) (hn : nameB name = true) (hF : F name.data.toList = none) (hlt : Maps.size D < 16) :
    Calls Try.prog 11 #[.pointer (some ⟨g, 0, none⟩), .string name, .slice A l.length c] w fun e w' => e = .returned (.int .i64 0) ∧ ∃ D', Dsk w' B g b (cnt + 1) (n + 1) D' (F.put name.data.toList (some ([], l))) ∧ Maps.size D' = Maps.size D + 1 ∧ Calm B w w' ∧ Below B w w' := by
  have hp := h.at_none hF
  refine (append_new g b cnt hcnt n h0 h1 D name hs l A c (by omega) w (fun W hW => hA W (fun i hi hc => hW i hi ?_ ?_)) hn h.pow h.files h.gb hp hlt).mono ?_
  · rintro rfl
    rcases hc with hc | ⟨c, z, hc⟩
    · have := h.lowg; omega
    · have := h.pow
      unfold PowAt at this
      rw [hc] at this
      injection this with this
      injection this with _ this _
      exact absurd this (by decide)
  · rintro rfl
    rcases hc with hc | ⟨c, z, hc⟩
    · have := h.lowb; omega
    · obtain ⟨es, clock, hb, _⟩ := h.files
      rw [hc] at hb
      injection hb with hb
      cases hb
  · rintro e w' ⟨rfl, hg', f, v, hm', hfl, hf', hr', hk', hs', hbel⟩
    have hc := h.calm_of hs' hk'
    have hR : FileR w' B f [] l := ⟨⟨_, v, hf', Kd.R_nil _ _ _ _ _, Kd.R_lower (Kd.R_mono hr' (fun _ _ => trivial)) h.base⟩, Nat.le_trans h.base hfl, by simp, by omega⟩
    have hmore := h.more name.data.toList [] l f hF (by rw [arr_name]; exact hn) hlt hg' hm' hc (fun i c hi => hk' i (blk_lt hi) (h.ne82 hi).1 (h.ne82 hi).2) hfl hR
    exact ⟨rfl, _, hmore, by rw [Maps.size_put h.tidy, h.none_ _ hF]; rfl, hc, hbel B h.lowg h.lowb h.base⟩
theorem dsk_sync_hit' (h : Dsk w B g b cnt n D F) (h0 : 0 ≤ n) (h1 : n ≤ 1000000) (name : ByteArray) (hs : name.size ≤ maxLen) (s q : List Int) (hF : F name.data.toList = some (s, q)) :
    Calls Try.prog 12 #[.pointer (some ⟨g, 0, none⟩), .string name] w fun e w' => e = .returned (.int .i64 0) ∧ Dsk w' B g b cnt (n + 1) D (F.put name.data.toList (some (q, q))) ∧ Calm B w w' ∧ Below B w w' := by
  have hn := h.good name.data.toList (by rw [hF]; exact Option.some_ne_none _)
  rw [arr_name] at hn
  obtain ⟨f, hp, hR⟩ := h.some_ _ s q hF
  obtain ⟨⟨v0, v1, hf, hr0, hr1⟩, hfB, hls, hll⟩ := hR
  obtain ⟨A1, c1, rfl⟩ := Kd.R_slice hr1
  have hne := h.ne82 hf
  refine (sync_hit g b cnt f v0 A1 q.length c1 n h0 h1 D name hs w hn h.pow h.files h.gb (hp _) hf).mono ?_
  rintro e w' ⟨rfl, hg', hf', hk', hs', hbel⟩
  have hc := h.calm_file hf hfB hs' (fun i h1 h2 h3 h4 => hk' i h1 h2 h4)
  have hR' : FileR w' B f q q := ⟨⟨_, _, hf', hc.row hr1, hc.row hr1⟩, hfB, hll, hll⟩
  have hb' : w'.heap[b]? = w.heap[b]? := hk' b (World.ownsMap.lt h.files) h.gb (Ne.symm hne.2)
  have ht := h.turn name.data.toList s q q q f hF (hp _) hg' hb' hc (fun i c hif hi => hk' i (blk_lt hi) (h.ne82 hi).1 hif) hR'
  exact ⟨rfl, ht, hc, hbel B h.lowg hfB h.base⟩

set_option maxHeartbeats 1600000 in
set_option maxRecDepth 100000 in
theorem sweep_none (h : Dsk w B g b cnt n D F) (name : ByteArray) (hs : name.size ≤ maxLen) (hn : nameB name = true) (hF : F name.data.toList = none) :
    Calls Try.prog 49 #[.pointer (some ⟨g, 0, none⟩), .string name] w fun e w' => e = .returned (.int .i64 0) ∧ Drawn0 w w' := by
  go_enter Try.func49, Try.ntmps49
  go_wp2_with fail
  refine (read_none g b cnt n D name hs w hn h.pow h.files (h.at_none hF)).mono ?_
  rintro e w' ⟨rfl, ⟨n1, rfl⟩⟩
  go_wp2_with fail
  go_ret
  exact ⟨rfl, n1, rfl⟩
set_option maxHeartbeats 3200000 in
set_option maxRecDepth 100000 in
theorem replace_calls (h : Dsk w B g b cnt n D F) (h0 : 0 ≤ n) (h1 : n ≤ 900000) (hcnt : cnt < 900) (name fresh : ByteArray) (hs : name.size ≤ maxLen) (hs2 : fresh.size ≤ maxLen) (hn : nameB name = true) (hf : nameB fresh = true) (hne : name.data.toList ≠ fresh.data.toList) (hF : F fresh.data.toList = none) (hlt : Maps.size D < 16) (A : Option Addr) (c : Nat) (p : List Int) (hp : p.length ≤ 40000) (hC : Kd.C (Kd.int .u8) w A p.length p) :
    Calls Try.prog 66 #[.pointer (some ⟨g, 0, none⟩), .string name, .string fresh, .slice A p.length c] w fun e w' => e = .returned (.int .i64 0) ∧ ∃ n', 0 ≤ n' ∧ n' ≤ n + 3 ∧ Step w B g b n' (cnt + 2) (F.put name.data.toList (some (layB p, layB p))) w' := by
  have H := Aside0.mk h
  have HC := Aside0.mk hC
  have HLL : Aside0 ((layB p).length ≤ 50000) := ⟨by rw [layB_len]; omega⟩
  clear hC
  go_enter Try.func66, Try.ntmps66
  go_wp2_with fail
  refine (sweep_none H.out fresh hs2 hf hF).mono ?_
  rintro e w1 ⟨rfl, ⟨n1, rfl⟩⟩
  go_wp2_with fail
  refine (lay_calls A c p hp _ (Kd.C_drewN HC.out n1)).mono ?_
  rintro e w2 ⟨v2, rfl, hr2, hb2⟩
  obtain ⟨A2, c2, rfl⟩ := Kd.R_slice hr2
  have HD2 := Aside0.mk ((H.out.drewN n1).below hb2)
  have HR2 := Aside0.mk hr2
  have HB2 : Aside0 (Calm B w w2 ∧ Below B w w2) := ⟨(Calm.drewN n1).trans (Calm.below hb2), (pw_below_drewN (Below.refl _ _) n1).trans (hb2.mono H.out.base)⟩
  clear hr2 hb2
  go_wp2_with fail
  refine (dsk_append_new' HD2.out h0 (by omega) (by omega) fresh hs2 (layB p) A2 c2 HLL.out (ArgOk.of_row HR2.out) hf hF hlt).mono ?_
  rintro e w3 ⟨rfl, D3, hD3, hz3, hc3, hb3⟩
  have HD3 := Aside0.mk hD3
  have HB3 : Aside0 (Calm B w w3 ∧ Below B w w3) := ⟨HB2.out.1.trans hc3, HB2.out.2.trans hb3⟩
  clear hD3 hz3 hc3 hb3 HD2 HR2 HB2
  go_wp2_with fail
  refine (dsk_sync_hit' HD3.out (by omega) (by omega) fresh hs2 [] (layB p) (Model.put_same _ _ _)).mono ?_
  rintro e w4 ⟨rfl, hD4, hc4, hb4⟩
  have HD4 := Aside0.mk hD4
  have HB4 : Aside0 (Calm B w w4 ∧ Below B w w4) := ⟨HB3.out.1.trans hc4, HB3.out.2.trans hb4⟩
  clear hD4 hc4 hb4 HD3 HB3
  go_wp2_with fail
  refine (dsk_rename HD4.out (by omega) (by omega) (by omega) fresh name hs2 hs).mono ?_
  rintro e w5 ⟨e5, F5, n5, rfl, hn0, hn1, hst, hrl⟩
  have hrl' : e5 = 0 ∧ F5 = F.put name.data.toList (some (layB p, layB p)) := by
    rcases hrl with ⟨_, _, h | ⟨s, q, h, h3, h4⟩⟩ | ⟨h, _⟩
    · rw [Model.put_same] at h; cases h.1
    · rw [Model.put_same] at h
      injection h with h
      injection h with h1 h2
      subst h1 h2
      refine ⟨h3, h4.trans ?_⟩
      funext k
      unfold Model.put
      by_cases hk : k = name.data.toList
      · rw [if_pos hk, if_pos hk]
      · rw [if_neg hk, if_neg hk]
        by_cases hk2 : k = fresh.data.toList
        · rw [if_pos hk2, hk2, hF]
        · rw [if_neg hk2, if_neg hk2, if_neg hk2]
    · rw [hn, hf] at h; rcases h with h | h <;> cases h
  obtain ⟨rfl, rfl⟩ := hrl'
  obtain ⟨⟨c5, D5, hD5, hcn5⟩, hc5, hb5⟩ := hst
  have HST : Aside0 (Step w B g b n5 (cnt + 2) (F.put name.data.toList (some (layB p, layB p))) w5) := ⟨⟨⟨c5, D5, hD5, by omega⟩, HB4.out.1.trans hc5, HB4.out.2.trans hb5⟩⟩
  have HNN : Aside0 (0 ≤ n5 ∧ n5 ≤ n + 3) := ⟨by omega⟩
  clear hrl hD5 hc5 hb5 hn0 hn1 HD4 HB4
  go_wp2_with fail
  go_ret
  exact ⟨rfl, n5, HNN.out.1, HNN.out.2, HST.out⟩
set_option maxHeartbeats 1600000 in
set_option maxRecDepth 100000 in
theorem only_none (h : Dsk w B g b cnt n D F) (name : ByteArray) (hs : name.size ≤ maxLen) (hn : nameB name = true) (hF : F name.data.toList = none) :
    Calls Try.prog 63 #[.pointer (some ⟨g, 0, none⟩), .string name] w fun e w' => e = .returned (.tuple #[.slice none 0 0, .bool false, .int .i64 0]) ∧ Drawn0 w w' := by
  go_enter Try.func63, Try.ntmps63
  go_wp2_with fail
  refine (read_none g b cnt n D name hs w hn h.pow h.files (h.at_none hF)).mono ?_
  rintro e w' ⟨rfl, ⟨n1, rfl⟩⟩
  go_wp2_with fail
  refine bodyPost_ret (results_tmp3 rfl _ _ _) rfl ?_
  exact ⟨rfl, n1, rfl⟩
set_option maxHeartbeats 1600000 in
set_option maxRecDepth 100000 in
theorem only_hit (h : Dsk w B g b cnt n D F) (name : ByteArray) (hs : name.size ≤ maxLen) (p : List Int) (hp : p.length ≤ 40000) (s : List Int) (hF : F name.data.toList = some (s, layB p)) :
    Calls Try.prog 63 #[.pointer (some ⟨g, 0, none⟩), .string name] w fun e w' => ∃ A c, e = .returned (.tuple #[.slice A p.length c, .bool true, .int .i64 0]) ∧ p.length ≤ c ∧ Kd.C (Kd.int .u8) w' A p.length p ∧ Below w.heap.size w w' := by
  go_enter Try.func63, Try.ntmps63
  go_wp2_with fail
  refine (dsk_read h name hs s (layB p) hF).mono ?_
  rintro e w1 ⟨v1, rfl, hr1, hb1⟩
  obtain ⟨A1, c1, rfl⟩ := Kd.R_slice hr1
  have HR1 := Aside0.mk (Kd.R_reads' hr1)
  have HB1 := Aside0.mk hb1
  clear hr1 hb1
  go_wp2_with fail
  refine (next_calls A1 c1 p hp w1 HR1.out.2.1 HR1.out.2.2).mono ?_
  rintro e w2 ⟨A2, c2, rfl, hl2, hC2, hb2⟩
  have HC2 := Aside0.mk hC2
  have HB2 := Aside0.mk (below_step HB1.out hb2)
  have HL2 := Aside0.mk hl2
  have hbs : (((layB p).length : Int) != ((layB p).length : Int)) = false := bne_self_eq_false _
  clear hC2 hb2 hl2
  go_wp2_with fail
  refine bodyPost_ret (results_tmp3 rfl _ _ _) rfl ?_
  exact ⟨A2, c2, rfl, HL2.out, HC2.out, HB2.out⟩
end
end Go.Proofs.Ytoonepmnlgfikaa.D
/-! VSnap -/
namespace Go.Proofs.Ytoonepmnlgfikaa.D
open Go.RowKit Go.Proofs.YtoonepmnlgfikaaW.PrintWords Go.Proofs.YtoonepmnlgfikaaW.PrintLast Go.Proofs.YtoonepmnlgfikaaW.PrintMore Go.Proofs.Ytoonepmnlgfikaa.Base Go.Maps Go.Sort Go.Shelf
set_option linter.unusedVariables false
set_option linter.unusedSimpArgs false
def nVote : ByteArray := ⟨#[115, 110, 97, 112, 45, 118, 111, 116, 101]⟩
def nData : ByteArray := ⟨#[115, 110, 97, 112, 45, 100, 97, 116, 97]⟩
def nFresh : ByteArray := ⟨#[115, 110, 97, 112, 45, 110, 101, 119]⟩
theorem name_vote : nameB nVote = true := by decide +kernel
theorem name_data : nameB nData = true := by decide +kernel
theorem name_fresh : nameB nFresh = true := by decide +kernel
/-- What a store keeps. -/
structure Kept where
  term : Int
  vote : Int
  index : Int
  last : Int
  data : ByteArray
def StoreAt (w : World) (s g : Nat) (k : Kept) : Prop := w.heap[s]? = some (.cells #[.int .i64 k.term, .int .i64 k.vote, .int .i64 k.index, .int .i64 k.last, .string k.data, .pointer (some ⟨g, 0, none⟩), .bool false] 99 (0, 0))
theorem add_flat (q o j : Nat) : (⟨q, o, none⟩ : Addr).add j = ⟨q, o + j, none⟩ := by
  unfold Addr.add
  split
  · next h => subst h; rfl
  · rfl
theorem StoreAt.cells {w : World} {s g : Nat} {k : Kept} (h : StoreAt w s g k) : w.cell? ⟨s, 0, none⟩ = some (.int .i64 k.term) ∧ w.cell? ⟨s, 1, none⟩ = some (.int .i64 k.vote) ∧ w.cell? ⟨s, 2, none⟩ = some (.int .i64 k.index) ∧ w.cell? ⟨s, 3, none⟩ = some (.int .i64 k.last) ∧ w.cell? ⟨s, 4, none⟩ = some (.string k.data) ∧ w.cell? ⟨s, 5, none⟩ = some (.pointer (some ⟨g, 0, none⟩)) ∧ w.cell? ⟨s, 6, none⟩ = some (.bool false) :=
  ⟨(blk_cell h 0).trans rfl, (blk_cell h 1).trans rfl, (blk_cell h 2).trans rfl, (blk_cell h 3).trans rfl, (blk_cell h 4).trans rfl, (blk_cell h 5).trans rfl, (blk_cell h 6).trans rfl⟩
section
variable {w : World} {B g b cnt : Nat} {n : Int} {D : DataW Unit} {F : Model}
set_option maxHeartbeats 1600000 in
set_option maxRecDepth 100000 in
theorem votes_none (s : Nat) (k : Kept) (h : Dsk w B g b cnt n D F) (hs : StoreAt w s g k) (hF : F nVote.data.toList = none) :
    Calls Try.prog 50 #[.pointer (some ⟨s, 0, none⟩)] w fun e w' => e = .returned (.int .i64 0) ∧ Drawn0 w w' := by
  obtain ⟨k0, k1, k2, k3, k4, k5, k6⟩ := hs.cells
  have hu99 := Try.underlying99
  go_enter Try.func50, Try.ntmps50
  go_wp2_with fail
  refine (only_none h nVote (by decide) name_vote hF).mono ?_
  rintro e w' ⟨rfl, ⟨n1, rfl⟩⟩
  go_wp2_with fail
  go_ret
  exact ⟨rfl, n1, rfl⟩
set_option maxHeartbeats 1600000 in
set_option maxRecDepth 100000 in
theorem snapshot_none (s : Nat) (k : Kept) (h : Dsk w B g b cnt n D F) (hs : StoreAt w s g k) (hF : F nData.data.toList = none) :
    Calls Try.prog 51 #[.pointer (some ⟨s, 0, none⟩)] w fun e w' => e = .returned (.int .i64 0) ∧ Drawn0 w w' := by
  obtain ⟨k0, k1, k2, k3, k4, k5, k6⟩ := hs.cells
  have hu99 := Try.underlying99
  go_enter Try.func51, Try.ntmps51
  go_wp2_with fail
  refine (only_none h nData (by decide) name_data hF).mono ?_
  rintro e w' ⟨rfl, ⟨n1, rfl⟩⟩
  go_wp2_with fail
  go_ret
  exact ⟨rfl, n1, rfl⟩
set_option maxHeartbeats 3200000 in
set_option maxRecDepth 100000 in
theorem votes_hit (s : Nat) (k : Kept) (h : Dsk w B g b cnt n D F) (hs : StoreAt w s g k) (t v : Int) (ht0 : 0 ≤ t) (ht1 : t < 1099511627776) (hv0 : 0 ≤ v) (hv1 : v < 1099511627776) (q : List Int) (hF : F nVote.data.toList = some (q, layB (be t 8 ++ be v 8))) :
    Calls Try.prog 50 #[.pointer (some ⟨s, 0, none⟩)] w fun e w' => e = .returned (.int .i64 0) ∧ StoreAt w' s g { k with term := t, vote := v } ∧ w.grownBy w' (some s) := by
  obtain ⟨k0, k1, k2, k3, k4, k5, k6⟩ := hs.cells
  have HS := Aside0.mk hs
  have hu99 := Try.underlying99
  have hu97 := Try.underlying97
  obtain ⟨p, hp⟩ : ∃ p, p = be t 8 ++ be v 8 := ⟨_, rfl⟩
  rw [← hp] at hF
  have hpl : p.length = 16 := by rw [hp, List.length_append, be_len, be_len]
  have hp1 : p.take 8 = be t 8 := by rw [hp]; rfl
  have hp2 : p.drop 8 = be v 8 := by rw [hp]; rfl
  clear hs
  go_enter Try.func50, Try.ntmps50
  go_wp2_with fail
  refine (only_hit h nVote (by decide) p (by omega) q hF).mono ?_
  rintro e w1 ⟨A, c, rfl, hcl, hC, hb⟩
  rw [hpl] at hcl hC ⊢
  obtain ⟨i5, hi5, _, hsz5, _⟩ := info_parts info5
  have hcut1 : ∀ W : World, (Instr.slice 27 (.slice A 16 c) none (some (.int .i64 8)) none).run Try.prog W = .ok (.slice A 8 c) W := cut_to 27 5 .i64 Try.underlying27 hi5 A 16 c 8 (by decide) (by decide) hcl
  have hc8 : (c = 8) = False := eq_false (by omega)
  have hC1 : Kd.C (Kd.int .u8) w1 A 8 (be t 8) := by
    have h1 := Kd.C_take (m := 8) (by rw [hpl]; exact hC) (by omega)
    rw [hp1] at h1
    exact h1
  have hC2 : Kd.C (Kd.int .u8) w1 (if c = 8 then A else A.map (·.add (8 * 1))) 8 (be v 8) := by
    have h1 := Kd.C_drop (m := 8) (c := c) (by rw [hpl]; exact hC) (by omega) (by omega)
    rw [hp2] at h1
    exact h1
  obtain ⟨ad, eA, _⟩ := hC.2.2 (by decide)
  subst eA
  rw [if_neg (by rw [hc8]; exact id)] at hC2
  obtain ⟨A2, hA2⟩ : ∃ A2, A2 = (some ⟨ad.block, ad.off + 8, none⟩ : Option Addr) := ⟨_, rfl⟩
  have hC2 : Kd.C (Kd.int .u8) w1 A2 8 (be v 8) := by rw [hA2]; exact hC2
  have HCL : Aside0 (8 ≤ c ∧ 8 ≤ c - 8) := ⟨by omega⟩
  have HA2 := Aside0.mk hA2
  have HC1 := Aside0.mk hC1
  have HC2 := Aside0.mk hC2
  have HS1 : Aside0 (StoreAt w1 s g k) := ⟨(hb.block s (blk_lt HS.out)).trans HS.out⟩
  have HB := Aside0.mk hb
  have hf0 : ∀ n, (w1.drewN n).frozen? ⟨s, 0, none⟩ = false := fun n => blk_frozen (show (w1.drewN n).heap[s]? = _ from HS1.out) 0
  have hf1 : ∀ n, (w1.drewN n).frozen? ⟨s, 1, none⟩ = false := fun n => blk_frozen (show (w1.drewN n).heap[s]? = _ from HS1.out) 1
  clear hC hC1 hC2 hb hA2 k0 k1 k2 k3 k4 k5 k6 hp1 hp2 hi5 hsz5 hcl hF hp
  go_wp2_with fail
  have H1 : Aside0 (∀ W, Drawn0 w1 W → Calls Try.prog 64 #[.slice (some ad) 8 c] W fun e w' => e = .returned (.int .i64 t) ∧ Drawn0 w1 w') := ⟨fun W ⟨m, hm⟩ => by
    subst hm
    refine (V.frames_Read.calls 20 (some ad) c (be t 8) t _ (Kd.C_drewN HC1.out m) HCL.out.1 (read8_is t ht0 ht1)).mono ?_
    rintro e w2 ⟨rfl, ⟨n2, rfl⟩⟩
    exact ⟨rfl, _, World.drewN_drewN _ _ _⟩⟩
  have H2 : Aside0 (∀ W, Drawn0 w1 W → Calls Try.prog 64 #[.slice (some ⟨ad.block, ad.off + 8, none⟩) 8 (c - 8)] W fun e w' => e = .returned (.int .i64 v) ∧ Drawn0 w1 w') := ⟨fun W ⟨m, hm⟩ => by
    subst hm
    rw [← HA2.out]
    refine (V.frames_Read.calls 20 A2 (c - 8) (be v 8) v _ (Kd.C_drewN HC2.out m) HCL.out.2 (read8_is v hv0 hv1)).mono ?_
    rintro e w2 ⟨rfl, ⟨n2, rfl⟩⟩
    exact ⟨rfl, _, World.drewN_drewN _ _ _⟩⟩
  have HFZ : Aside0 (∀ W, Drawn0 w1 W → StoreAt W s g k) := ⟨fun W ⟨m, hm⟩ => by subst hm; exact HS1.out⟩
  go_region_held3 (fun w' => True) (trivial)
    (first
    | (go_at_call 64; have hx := HD3.out; refine (H2.out _ (by first | exact hx | exact hx.step _)).mono ?_; rintro e w4 ⟨rfl, hd⟩; have HD4 := Aside0.mk hd; have HS4 := Aside0.mk (HFZ.out _ hd); have hf40 := blk_frozen HS4.out 0; have hf41 := blk_frozen HS4.out 1; have kc40 := HS4.out.cells.1; have kc41 := HS4.out.cells.2.1; clear hd hx)
    | (go_at_call 64; refine (H1.out _ (by first | exact ⟨1, rfl⟩ | exact ⟨0, rfl⟩ | exact ⟨_, rfl⟩)).mono ?_; rintro e w3 ⟨rfl, hd⟩; have HD3 := Aside0.mk hd; clear hd))
  go_wp2_with fail
  go_ret
  have hb1 : Below w.heap.size w w4 := below_step HB.out HD4.out.below
  exact ⟨rfl, blk_set (blk_set HS4.out 0 _) 1 _, ((grown_of_below hb1 (some s)).trans (grown_set w4 ⟨s, 0, none⟩ _)).trans (grown_set _ ⟨s, 1, none⟩ _)⟩
set_option maxHeartbeats 3200000 in
set_option maxRecDepth 100000 in
theorem snapshot_hit (s : Nat) (k : Kept) (h : Dsk w B g b cnt n D F) (hs : StoreAt w s g k) (t v : Int) (ht0 : 0 ≤ t) (ht1 : t < 1099511627776) (hv0 : 0 ≤ v) (hv1 : v < 1099511627776) (x : List Int) (hx : x.length ≤ 30000) (hx0 : 0 < x.length) (q : List Int) (hF : F nData.data.toList = some (q, layB (be t 8 ++ be v 8 ++ x))) :
    Calls Try.prog 51 #[.pointer (some ⟨s, 0, none⟩)] w fun e w' => e = .returned (.int .i64 0) ∧ StoreAt w' s g { k with index := t, last := v, data := strOfNums x } ∧ w.grownBy w' (some s) := by
  obtain ⟨k0, k1, k2, k3, k4, k5, k6⟩ := hs.cells
  have HS := Aside0.mk hs
  have hu99 := Try.underlying99
  have hu97 := Try.underlying97
  obtain ⟨p, hp⟩ : ∃ p, p = be t 8 ++ be v 8 ++ x := ⟨_, rfl⟩
  rw [← hp] at hF
  have hpl : p.length = 16 + x.length := by rw [hp, List.length_append, List.length_append, be_len, be_len]
  have hp1 : p.take 8 = be t 8 := by rw [hp]; rfl
  have hp2 : (p.take 16).drop 8 = be v 8 := by rw [hp]; rfl
  have hp3 : p.drop 16 = x := by rw [hp]; rfl
  have HX := Aside0.mk hx
  clear hs hx
  go_enter Try.func51, Try.ntmps51
  go_wp2_with fail
  refine (only_hit h nData (by decide) p (by have := HX.out; omega) q hF).mono ?_
  rintro e w1 ⟨A, c, rfl, hcl, hC, hb⟩
  obtain ⟨m, hm⟩ : ∃ m, m = p.length := ⟨_, rfl⟩
  have hm16 : 16 ≤ m := by omega
  have hcm : m ≤ c := by omega
  obtain ⟨i5, hi5, _, hsz5, _⟩ := info_parts info5
  have hcut1 : ∀ W : World, (Instr.slice 27 (.slice A m c) none (some (.int .i64 8)) none).run Try.prog W = .ok (.slice A 8 c) W := cut_to 27 5 .i64 Try.underlying27 hi5 A m c 8 (by decide) (by omega) hcm
  have hC1 : Kd.C (Kd.int .u8) w1 A 8 (be t 8) := by
    have h1 := Kd.C_take (m := 8) hC (by omega)
    rw [hp1] at h1
    exact h1
  have hC2 : Kd.C (Kd.int .u8) w1 (if c = 8 then A else A.map (·.add (8 * 1))) 8 (be v 8) := by
    have h0 := Kd.C_take (m := 16) hC (by omega)
    have hl : (p.take 16).length = 16 := by rw [List.length_take]; omega
    have h1 := Kd.C_drop (m := 8) (c := c) h0 (by omega) (by omega)
    rw [hp2] at h1
    exact h1
  have hC3 : Kd.C (Kd.int .u8) w1 (if c = 16 then A else A.map (·.add (16 * 1))) x.length x := by
    have h1 := Kd.C_drop (m := 16) (c := c) hC (by omega) (by omega)
    rw [hp3] at h1
    exact h1
  have hcut2 := cut_mid (P := Try.prog) 27 5 .i64 .i64 Try.underlying27 hi5 1 hsz5 A m c 8 16 (by decide) (by decide) (by omega) hcm
  have hcut3 := cut_from (P := Try.prog) 27 5 .i64 Try.underlying27 hi5 1 hsz5 A m c 16 (by decide) (by omega)
  obtain ⟨ad, eA, _⟩ := hC.2.2 (by omega)
  subst eA
  have hc8 : (c = 8) = False := eq_false (by omega)
  rw [if_neg (by rw [hc8]; exact id)] at hC2
  have hc16 : (c = 16) = False := eq_false (by omega)
  rw [if_neg (by rw [hc16]; exact id)] at hC3
  have hcut3 : ∀ W : World, (Instr.slice 27 (.slice (some ad) m c) (some (.int .i64 16)) none none).run Try.prog W = .ok (.slice (some ⟨ad.block, ad.off + 16, none⟩) (m - 16) (c - 16)) W := fun W => by
    have h1 := hcut3 W
    rw [if_neg (by show ¬ c = 16; rw [hc16]; exact id)] at h1
    exact h1
  have hcut2 : ∀ W : World, (Instr.slice 27 (.slice (some ad) m c) (some (.int .i64 8)) (some (.int .i64 16)) none).run Try.prog W = .ok (.slice (some ⟨ad.block, ad.off + 8, none⟩) 8 (c - 8)) W := fun W => by
    have h1 := hcut2 W
    rw [if_neg (by show ¬ c = 8; rw [hc8]; exact id)] at h1
    exact h1
  have hmx : m - 16 = x.length := by omega
  have HCL : Aside0 (8 ≤ c ∧ 8 ≤ c - 8) := ⟨by omega⟩
  have HC1 := Aside0.mk hC1
  have HC2 : Aside0 (Kd.C (Kd.int .u8) w1 (some ⟨ad.block, ad.off + 8, none⟩) 8 (be v 8)) := ⟨hC2⟩
  have HC3 : Aside0 (Kd.C (Kd.int .u8) w1 (some ⟨ad.block, ad.off + 16, none⟩) x.length x) := ⟨hC3⟩
  have HS1 : Aside0 (StoreAt w1 s g k) := ⟨(hb.block s (blk_lt HS.out)).trans HS.out⟩
  have HB := Aside0.mk hb
  have hd16 : decide ((m : Int) < 16) = false := decide_eq_false (by omega)
  have hd16n : decide (m < 16) = false := decide_eq_false (by omega)
  have hR3 := Kd.reads_of_C (enc := Value.int .u8) (d := (0 : Int)) HC3.out
  obtain ⟨ad3, e3, hc3⟩ := hR3.2.2 hx0
  injection e3 with e3
  subst e3
  have hne : ad.block ≠ s := by
    intro e
    have h1 : w1.cell? ⟨ad.block, ad.off + 16 + 0, none⟩ = some (.int .u8 (x.getD 0 0)) := hc3 0 hx0
    rw [e, cell_of_row w1 s _ _ 99 (0, 0) HS1.out, Array.getElem?_eq_none (by show 7 ≤ ad.off + 16 + 0; omega)] at h1
    cases h1
  have HST : Aside0 (∀ W : World, (∀ i, i ≠ s → W.heap[i]? = w1.heap[i]?) → Sem.run Try.prog (convert 27 9 (.slice (some ⟨ad.block, ad.off + 16, none⟩) (m - 16) (c - 16))) W = .ok (.string (strOfNums x)) W) := ⟨fun W hW => by
    rw [hmx]
    refine Kd.C_string (P := Try.prog) Try.underlying27 Try.underlying5 Try.underlying9 (Kd.C_of_reads (enc := Value.int .u8) (d := (0 : Int)) ⟨hR3.1, hR3.2.1, fun hn => ⟨_, rfl, fun j hj => ?_⟩⟩)
    have h1 : w1.cell? ⟨ad.block, ad.off + 16 + j, none⟩ = some (.int .u8 (x.getD j 0)) := by rw [← add_flat]; exact hc3 j hj
    rw [add_flat]
    unfold World.cell? at h1 ⊢
    rw [hW _ hne]
    exact h1⟩
  have HE : Aside0 (∀ W, Drawn0 w1 W → ∀ i, i ≠ s → W.heap[i]? = w1.heap[i]?) := ⟨fun W ⟨m, hm⟩ i hi => by subst hm; rfl⟩
  rw [← hm]
  clear hC hC1 hC2 hC3 hb hR3 hc3 k0 k1 k2 k3 k4 k5 k6 hp1 hp2 hp3 hi5 hsz5 hcl hF hp hpl hm hcm hmx hx0
  go_wp2_with fail
  have H1 : Aside0 (∀ W, Drawn0 w1 W → Calls Try.prog 64 #[.slice (some ad) 8 c] W fun e w' => e = .returned (.int .i64 t) ∧ Drawn0 w1 w') := ⟨fun W ⟨m, hm⟩ => by
    subst hm
    refine (V.frames_Read.calls 20 (some ad) c (be t 8) t _ (Kd.C_drewN HC1.out m) HCL.out.1 (read8_is t ht0 ht1)).mono ?_
    rintro e w2 ⟨rfl, ⟨n2, rfl⟩⟩
    exact ⟨rfl, _, World.drewN_drewN _ _ _⟩⟩
  have H2 : Aside0 (∀ W, Drawn0 w1 W → Calls Try.prog 64 #[.slice (some ⟨ad.block, ad.off + 8, none⟩) 8 (c - 8)] W fun e w' => e = .returned (.int .i64 v) ∧ Drawn0 w1 w') := ⟨fun W ⟨m, hm⟩ => by
    subst hm
    refine (V.frames_Read.calls 20 (some ⟨ad.block, ad.off + 8, none⟩) (c - 8) (be v 8) v _ (Kd.C_drewN HC2.out m) HCL.out.2 (read8_is v hv0 hv1)).mono ?_
    rintro e w2 ⟨rfl, ⟨n2, rfl⟩⟩
    exact ⟨rfl, _, World.drewN_drewN _ _ _⟩⟩
  have HFZ : Aside0 (∀ W, Drawn0 w1 W → StoreAt W s g k) := ⟨fun W ⟨m, hm⟩ => by subst hm; exact HS1.out⟩
  go_region_held3 (fun w' => Sem.run Try.prog (convert 27 9 (.slice (some ⟨ad.block, ad.off + 16, none⟩) (m - 16) (c - 16))) w' = .ok (.string (strOfNums x)) w')
    (first
    | exact HST.out _ (fun i hi => (Below.heap_setCell _ _ _ i hi).trans ((Below.heap_setCell _ _ _ i hi).trans ((Below.heap_setCell _ _ _ i hi).trans (HE.out _ HD4.out i hi))))
    | exact HST.out _ (fun i hi => (Below.heap_setCell _ _ _ i hi).trans ((Below.heap_setCell _ _ _ i hi).trans (HE.out _ HD4.out i hi)))
    | exact HST.out _ (fun i hi => (Below.heap_setCell _ _ _ i hi).trans (HE.out _ HD4.out i hi))
    | exact HST.out _ (HE.out _ HD4.out)
    | exact HST.out _ (HE.out _ HD3.out)
    | exact HST.out _ (HE.out _ ⟨1, rfl⟩)
    | exact HST.out _ (HE.out _ ⟨_, rfl⟩))
    (first
    | (go_at_call 64; have hx := HD3.out; refine (H2.out _ (by first | exact hx | exact hx.step _)).mono ?_; rintro e w4 ⟨rfl, hd⟩; have HD4 := Aside0.mk hd; have HS4 := Aside0.mk (HFZ.out _ hd); have hf40 := blk_frozen HS4.out 2; have hf41 := blk_frozen HS4.out 3; have hf42 := blk_frozen HS4.out 4; have kc40 := HS4.out.cells.2.2.1; have kc41 := HS4.out.cells.2.2.2.1; have kc42 := HS4.out.cells.2.2.2.2.1; clear hd hx)
    | (go_at_call 64; refine (H1.out _ (by first | exact ⟨1, rfl⟩ | exact ⟨0, rfl⟩ | exact ⟨_, rfl⟩)).mono ?_; rintro e w3 ⟨rfl, hd⟩; have HD3 := Aside0.mk hd; clear hd))
  go_wp2_with fail
  go_ret
  have hb1 : Below w.heap.size w w4 := below_step HB.out HD4.out.below
  exact ⟨rfl, blk_set (blk_set (blk_set HS4.out 2 _) 3 _) 4 _, (((grown_of_below hb1 (some s)).trans (grown_set w4 ⟨s, 2, none⟩ _)).trans (grown_set _ ⟨s, 3, none⟩ _)).trans (grown_set _ ⟨s, 4, none⟩ _)⟩
set_option maxHeartbeats 6400000 in
set_option maxRecDepth 100000 in
theorem snapshot_hit0 (s : Nat) (k : Kept) (h : Dsk w B g b cnt n D F) (hs : StoreAt w s g k) (t v : Int) (ht0 : 0 ≤ t) (ht1 : t < 1099511627776) (hv0 : 0 ≤ v) (hv1 : v < 1099511627776) (x : List Int) (hx0 : x = []) (q : List Int) (hF : F nData.data.toList = some (q, layB (be t 8 ++ be v 8 ++ x))) :
    Calls Try.prog 51 #[.pointer (some ⟨s, 0, none⟩)] w fun e w' => e = .returned (.int .i64 0) ∧ StoreAt w' s g { k with index := t, last := v, data := strOfNums x } ∧ w.grownBy w' (some s) := by
  obtain ⟨k0, k1, k2, k3, k4, k5, k6⟩ := hs.cells
  have HS := Aside0.mk hs
  have hu99 := Try.underlying99
  have hu97 := Try.underlying97
  obtain ⟨p, hp⟩ : ∃ p, p = be t 8 ++ be v 8 ++ x := ⟨_, rfl⟩
  rw [← hp] at hF
  have hpl : p.length = 16 + x.length := by rw [hp, List.length_append, List.length_append, be_len, be_len]
  have hp1 : p.take 8 = be t 8 := by rw [hp]; rfl
  have hp2 : (p.take 16).drop 8 = be v 8 := by rw [hp]; rfl
  have hp3 : p.drop 16 = x := by rw [hp]; rfl
  have HX : Aside0 (x.length = 0) := ⟨by rw [hx0]; rfl⟩
  clear hs
  go_enter Try.func51, Try.ntmps51
  go_wp2_with fail
  refine (only_hit h nData (by decide) p (by have := HX.out; omega) q hF).mono ?_
  rintro e w1 ⟨A, c, rfl, hcl, hC, hb⟩
  obtain ⟨m, hm⟩ : ∃ m, m = p.length := ⟨_, rfl⟩
  have hm16 : 16 ≤ m := by omega
  have hcm : m ≤ c := by omega
  obtain ⟨i5, hi5, _, hsz5, _⟩ := info_parts info5
  have hcut1 : ∀ W : World, (Instr.slice 27 (.slice A m c) none (some (.int .i64 8)) none).run Try.prog W = .ok (.slice A 8 c) W := cut_to 27 5 .i64 Try.underlying27 hi5 A m c 8 (by decide) (by omega) hcm
  have hC1 : Kd.C (Kd.int .u8) w1 A 8 (be t 8) := by
    have h1 := Kd.C_take (m := 8) hC (by omega)
    rw [hp1] at h1
    exact h1
  have hC2 : Kd.C (Kd.int .u8) w1 (if c = 8 then A else A.map (·.add (8 * 1))) 8 (be v 8) := by
    have h0 := Kd.C_take (m := 16) hC (by omega)
    have hl : (p.take 16).length = 16 := by rw [List.length_take]; omega
    have h1 := Kd.C_drop (m := 8) (c := c) h0 (by omega) (by omega)
    rw [hp2] at h1
    exact h1
  have hC3 : Kd.C (Kd.int .u8) w1 (if c = 16 then A else A.map (·.add (16 * 1))) x.length x := by
    have h1 := Kd.C_drop (m := 16) (c := c) hC (by omega) (by omega)
    rw [hp3] at h1
    exact h1
  have hcut2 := cut_mid (P := Try.prog) 27 5 .i64 .i64 Try.underlying27 hi5 1 hsz5 A m c 8 16 (by decide) (by decide) (by omega) hcm
  have hcut3 := cut_from (P := Try.prog) 27 5 .i64 Try.underlying27 hi5 1 hsz5 A m c 16 (by decide) (by omega)
  obtain ⟨ad, eA, _⟩ := hC.2.2 (by omega)
  subst eA
  have hc8 : (c = 8) = False := eq_false (by omega)
  rw [if_neg (by rw [hc8]; exact id)] at hC2
  by_cases h16 : c = 16
  · have hc16 : (c = 16) = True := eq_true h16
    rw [if_pos h16] at hC3
    have hcut3 : ∀ W : World, (Instr.slice 27 (.slice (some ad) m c) (some (.int .i64 16)) none none).run Try.prog W = .ok (.slice (some ad) (m - 16) (c - 16)) W := fun W => by
      have h1 := hcut3 W
      rw [if_pos (show c = Int.toNat 16 from h16)] at h1
      exact h1
    have hcut2 : ∀ W : World, (Instr.slice 27 (.slice (some ad) m c) (some (.int .i64 8)) (some (.int .i64 16)) none).run Try.prog W = .ok (.slice (some ⟨ad.block, ad.off + 8, none⟩) 8 (c - 8)) W := fun W => by
      have h1 := hcut2 W
      rw [if_neg (by show ¬ c = 8; rw [hc8]; exact id)] at h1
      exact h1
    have hmx : m - 16 = x.length := by omega
    have HCL : Aside0 (8 ≤ c ∧ 8 ≤ c - 8) := ⟨by omega⟩
    have HC1 := Aside0.mk hC1
    have HC2 : Aside0 (Kd.C (Kd.int .u8) w1 (some ⟨ad.block, ad.off + 8, none⟩) 8 (be v 8)) := ⟨hC2⟩
    have HC3 : Aside0 (Kd.C (Kd.int .u8) w1 (some ad) x.length x) := ⟨hC3⟩
    have HS1 : Aside0 (StoreAt w1 s g k) := ⟨(hb.block s (blk_lt HS.out)).trans HS.out⟩
    have HB := Aside0.mk hb
    have hd16 : decide ((m : Int) < 16) = false := decide_eq_false (by omega)
    have hd16n : decide (m < 16) = false := decide_eq_false (by omega)
    have hR3 := Kd.reads_of_C (enc := Value.int .u8) (d := (0 : Int)) HC3.out
    have HST : Aside0 (∀ W : World, (∀ i, i ≠ s → W.heap[i]? = w1.heap[i]?) → Sem.run Try.prog (convert 27 9 (.slice (some ad) (m - 16) (c - 16))) W = .ok (.string (strOfNums x)) W) := ⟨fun W hW => by
      rw [hmx]
      refine Kd.C_string (P := Try.prog) Try.underlying27 Try.underlying5 Try.underlying9 (Kd.C_of_reads (enc := Value.int .u8) (d := (0 : Int)) ⟨hR3.1, hR3.2.1, fun hn => absurd hn (by have := HX.out; omega)⟩)⟩
    have HE : Aside0 (∀ W, Drawn0 w1 W → ∀ i, i ≠ s → W.heap[i]? = w1.heap[i]?) := ⟨fun W ⟨m, hm⟩ i hi => by subst hm; rfl⟩
    rw [← hm]
    clear hC hC1 hC2 hC3 hb hR3 k0 k1 k2 k3 k4 k5 k6 hp1 hp2 hp3 hi5 hsz5 hcl hF hp hpl hm hcm hmx hx0 h16
    go_wp2_with fail
    have H1 : Aside0 (∀ W, Drawn0 w1 W → Calls Try.prog 64 #[.slice (some ad) 8 c] W fun e w' => e = .returned (.int .i64 t) ∧ Drawn0 w1 w') := ⟨fun W ⟨m, hm⟩ => by
      subst hm
      refine (V.frames_Read.calls 20 (some ad) c (be t 8) t _ (Kd.C_drewN HC1.out m) HCL.out.1 (read8_is t ht0 ht1)).mono ?_
      rintro e w2 ⟨rfl, ⟨n2, rfl⟩⟩
      exact ⟨rfl, _, World.drewN_drewN _ _ _⟩⟩
    have H2 : Aside0 (∀ W, Drawn0 w1 W → Calls Try.prog 64 #[.slice (some ⟨ad.block, ad.off + 8, none⟩) 8 (c - 8)] W fun e w' => e = .returned (.int .i64 v) ∧ Drawn0 w1 w') := ⟨fun W ⟨m, hm⟩ => by
      subst hm
      refine (V.frames_Read.calls 20 (some ⟨ad.block, ad.off + 8, none⟩) (c - 8) (be v 8) v _ (Kd.C_drewN HC2.out m) HCL.out.2 (read8_is v hv0 hv1)).mono ?_
      rintro e w2 ⟨rfl, ⟨n2, rfl⟩⟩
      exact ⟨rfl, _, World.drewN_drewN _ _ _⟩⟩
    have HFZ : Aside0 (∀ W, Drawn0 w1 W → StoreAt W s g k) := ⟨fun W ⟨m, hm⟩ => by subst hm; exact HS1.out⟩
    go_region_held3 (fun w' => Sem.run Try.prog (convert 27 9 (.slice (some ad) (m - 16) (c - 16))) w' = .ok (.string (strOfNums x)) w')
      (first
      | exact HST.out _ (fun i hi => (Below.heap_setCell _ _ _ i hi).trans ((Below.heap_setCell _ _ _ i hi).trans ((Below.heap_setCell _ _ _ i hi).trans (HE.out _ HD4.out i hi))))
      | exact HST.out _ (fun i hi => (Below.heap_setCell _ _ _ i hi).trans ((Below.heap_setCell _ _ _ i hi).trans (HE.out _ HD4.out i hi)))
      | exact HST.out _ (fun i hi => (Below.heap_setCell _ _ _ i hi).trans (HE.out _ HD4.out i hi))
      | exact HST.out _ (HE.out _ HD4.out)
      | exact HST.out _ (HE.out _ HD3.out)
      | exact HST.out _ (HE.out _ ⟨1, rfl⟩)
      | exact HST.out _ (HE.out _ ⟨_, rfl⟩))
      (first
      | (go_at_call 64; have hx := HD3.out; refine (H2.out _ (by first | exact hx | exact hx.step _)).mono ?_; rintro e w4 ⟨rfl, hd⟩; have HD4 := Aside0.mk hd; have HS4 := Aside0.mk (HFZ.out _ hd); have hf40 := blk_frozen HS4.out 2; have hf41 := blk_frozen HS4.out 3; have hf42 := blk_frozen HS4.out 4; have kc40 := HS4.out.cells.2.2.1; have kc41 := HS4.out.cells.2.2.2.1; have kc42 := HS4.out.cells.2.2.2.2.1; clear hd hx)
      | (go_at_call 64; refine (H1.out _ (by first | exact ⟨1, rfl⟩ | exact ⟨0, rfl⟩ | exact ⟨_, rfl⟩)).mono ?_; rintro e w3 ⟨rfl, hd⟩; have HD3 := Aside0.mk hd; clear hd))
    go_wp2_with fail
    go_ret
    have hb1 : Below w.heap.size w w4 := below_step HB.out HD4.out.below
    exact ⟨rfl, blk_set (blk_set (blk_set HS4.out 2 _) 3 _) 4 _, (((grown_of_below hb1 (some s)).trans (grown_set w4 ⟨s, 2, none⟩ _)).trans (grown_set _ ⟨s, 3, none⟩ _)).trans (grown_set _ ⟨s, 4, none⟩ _)⟩
  · have hc16 : (c = 16) = False := eq_false h16
    rw [if_neg h16] at hC3
    have hcut3 : ∀ W : World, (Instr.slice 27 (.slice (some ad) m c) (some (.int .i64 16)) none none).run Try.prog W = .ok (.slice (some ⟨ad.block, ad.off + 16, none⟩) (m - 16) (c - 16)) W := fun W => by
      have h1 := hcut3 W
      rw [if_neg (show ¬ c = Int.toNat 16 from h16)] at h1
      exact h1
    have hcut2 : ∀ W : World, (Instr.slice 27 (.slice (some ad) m c) (some (.int .i64 8)) (some (.int .i64 16)) none).run Try.prog W = .ok (.slice (some ⟨ad.block, ad.off + 8, none⟩) 8 (c - 8)) W := fun W => by
      have h1 := hcut2 W
      rw [if_neg (by show ¬ c = 8; rw [hc8]; exact id)] at h1
      exact h1
    have hmx : m - 16 = x.length := by omega
    have HCL : Aside0 (8 ≤ c ∧ 8 ≤ c - 8) := ⟨by omega⟩
    have HC1 := Aside0.mk hC1
    have HC2 : Aside0 (Kd.C (Kd.int .u8) w1 (some ⟨ad.block, ad.off + 8, none⟩) 8 (be v 8)) := ⟨hC2⟩
    have HC3 : Aside0 (Kd.C (Kd.int .u8) w1 (some ⟨ad.block, ad.off + 16, none⟩) x.length x) := ⟨hC3⟩
    have HS1 : Aside0 (StoreAt w1 s g k) := ⟨(hb.block s (blk_lt HS.out)).trans HS.out⟩
    have HB := Aside0.mk hb
    have hd16 : decide ((m : Int) < 16) = false := decide_eq_false (by omega)
    have hd16n : decide (m < 16) = false := decide_eq_false (by omega)
    have hR3 := Kd.reads_of_C (enc := Value.int .u8) (d := (0 : Int)) HC3.out
    have HST : Aside0 (∀ W : World, (∀ i, i ≠ s → W.heap[i]? = w1.heap[i]?) → Sem.run Try.prog (convert 27 9 (.slice (some ⟨ad.block, ad.off + 16, none⟩) (m - 16) (c - 16))) W = .ok (.string (strOfNums x)) W) := ⟨fun W hW => by
      rw [hmx]
      refine Kd.C_string (P := Try.prog) Try.underlying27 Try.underlying5 Try.underlying9 (Kd.C_of_reads (enc := Value.int .u8) (d := (0 : Int)) ⟨hR3.1, hR3.2.1, fun hn => absurd hn (by have := HX.out; omega)⟩)⟩
    have HE : Aside0 (∀ W, Drawn0 w1 W → ∀ i, i ≠ s → W.heap[i]? = w1.heap[i]?) := ⟨fun W ⟨m, hm⟩ i hi => by subst hm; rfl⟩
    rw [← hm]
    clear hC hC1 hC2 hC3 hb hR3 k0 k1 k2 k3 k4 k5 k6 hp1 hp2 hp3 hi5 hsz5 hcl hF hp hpl hm hcm hmx hx0 h16
    go_wp2_with fail
    have H1 : Aside0 (∀ W, Drawn0 w1 W → Calls Try.prog 64 #[.slice (some ad) 8 c] W fun e w' => e = .returned (.int .i64 t) ∧ Drawn0 w1 w') := ⟨fun W ⟨m, hm⟩ => by
      subst hm
      refine (V.frames_Read.calls 20 (some ad) c (be t 8) t _ (Kd.C_drewN HC1.out m) HCL.out.1 (read8_is t ht0 ht1)).mono ?_
      rintro e w2 ⟨rfl, ⟨n2, rfl⟩⟩
      exact ⟨rfl, _, World.drewN_drewN _ _ _⟩⟩
    have H2 : Aside0 (∀ W, Drawn0 w1 W → Calls Try.prog 64 #[.slice (some ⟨ad.block, ad.off + 8, none⟩) 8 (c - 8)] W fun e w' => e = .returned (.int .i64 v) ∧ Drawn0 w1 w') := ⟨fun W ⟨m, hm⟩ => by
      subst hm
      refine (V.frames_Read.calls 20 (some ⟨ad.block, ad.off + 8, none⟩) (c - 8) (be v 8) v _ (Kd.C_drewN HC2.out m) HCL.out.2 (read8_is v hv0 hv1)).mono ?_
      rintro e w2 ⟨rfl, ⟨n2, rfl⟩⟩
      exact ⟨rfl, _, World.drewN_drewN _ _ _⟩⟩
    have HFZ : Aside0 (∀ W, Drawn0 w1 W → StoreAt W s g k) := ⟨fun W ⟨m, hm⟩ => by subst hm; exact HS1.out⟩
    go_region_held3 (fun w' => Sem.run Try.prog (convert 27 9 (.slice (some ⟨ad.block, ad.off + 16, none⟩) (m - 16) (c - 16))) w' = .ok (.string (strOfNums x)) w')
      (first
      | exact HST.out _ (fun i hi => (Below.heap_setCell _ _ _ i hi).trans ((Below.heap_setCell _ _ _ i hi).trans ((Below.heap_setCell _ _ _ i hi).trans (HE.out _ HD4.out i hi))))
      | exact HST.out _ (fun i hi => (Below.heap_setCell _ _ _ i hi).trans ((Below.heap_setCell _ _ _ i hi).trans (HE.out _ HD4.out i hi)))
      | exact HST.out _ (fun i hi => (Below.heap_setCell _ _ _ i hi).trans (HE.out _ HD4.out i hi))
      | exact HST.out _ (HE.out _ HD4.out)
      | exact HST.out _ (HE.out _ HD3.out)
      | exact HST.out _ (HE.out _ ⟨1, rfl⟩)
      | exact HST.out _ (HE.out _ ⟨_, rfl⟩))
      (first
      | (go_at_call 64; have hx := HD3.out; refine (H2.out _ (by first | exact hx | exact hx.step _)).mono ?_; rintro e w4 ⟨rfl, hd⟩; have HD4 := Aside0.mk hd; have HS4 := Aside0.mk (HFZ.out _ hd); have hf40 := blk_frozen HS4.out 2; have hf41 := blk_frozen HS4.out 3; have hf42 := blk_frozen HS4.out 4; have kc40 := HS4.out.cells.2.2.1; have kc41 := HS4.out.cells.2.2.2.1; have kc42 := HS4.out.cells.2.2.2.2.1; clear hd hx)
      | (go_at_call 64; refine (H1.out _ (by first | exact ⟨1, rfl⟩ | exact ⟨0, rfl⟩ | exact ⟨_, rfl⟩)).mono ?_; rintro e w3 ⟨rfl, hd⟩; have HD3 := Aside0.mk hd; clear hd))
    go_wp2_with fail
    go_ret
    have hb1 : Below w.heap.size w w4 := below_step HB.out HD4.out.below
    exact ⟨rfl, blk_set (blk_set (blk_set HS4.out 2 _) 3 _) 4 _, (((grown_of_below hb1 (some s)).trans (grown_set w4 ⟨s, 2, none⟩ _)).trans (grown_set _ ⟨s, 3, none⟩ _)).trans (grown_set _ ⟨s, 4, none⟩ _)⟩
theorem snapshot_hit' (s : Nat) (k : Kept) (h : Dsk w B g b cnt n D F) (hs : StoreAt w s g k) (t v : Int) (ht0 : 0 ≤ t) (ht1 : t < 1099511627776) (hv0 : 0 ≤ v) (hv1 : v < 1099511627776) (x : List Int) (hx : x.length ≤ 30000) (q : List Int) (hF : F nData.data.toList = some (q, layB (be t 8 ++ be v 8 ++ x))) :
    Calls Try.prog 51 #[.pointer (some ⟨s, 0, none⟩)] w fun e w' => e = .returned (.int .i64 0) ∧ StoreAt w' s g { k with index := t, last := v, data := strOfNums x } ∧ w.grownBy w' (some s) := by
  by_cases h0 : x = []
  · exact snapshot_hit0 s k h hs t v ht0 ht1 hv0 hv1 x h0 q hF
  · exact snapshot_hit s k h hs t v ht0 ht1 hv0 hv1 x hx (List.length_pos_iff.mpr h0) q hF
end
end Go.Proofs.Ytoonepmnlgfikaa.D
/-! VSet -/
namespace Go.Proofs.Ytoonepmnlgfikaa.D
open Go.RowKit Go.Proofs.YtoonepmnlgfikaaW.PrintWords Go.Proofs.YtoonepmnlgfikaaW.PrintLast Go.Proofs.YtoonepmnlgfikaaW.PrintMore Go.Proofs.Ytoonepmnlgfikaa.Base Go.Maps Go.Sort Go.Shelf
set_option linter.unusedVariables false
set_option linter.unusedSimpArgs false
def dup (x : List Int) : List Int × List Int := (layB x, layB x)
/-- The files of a store. -/
def snapF (vt : Option (Int × Int)) (sn : Option (Int × Int × ByteArray)) : Model := fun k => if k = nVote.data.toList then vt.map (fun x => dup (be x.1 8 ++ be x.2 8)) else if k = nData.data.toList then sn.map (fun x => dup (be x.1 8 ++ be x.2.1 8 ++ bytesOf x.2.2)) else none
theorem snapF_vote (vt : Option (Int × Int)) (sn : Option (Int × Int × ByteArray)) : snapF vt sn nVote.data.toList = vt.map (fun x => dup (be x.1 8 ++ be x.2 8)) := if_pos rfl
theorem snapF_data (vt : Option (Int × Int)) (sn : Option (Int × Int × ByteArray)) : snapF vt sn nData.data.toList = sn.map (fun x => dup (be x.1 8 ++ be x.2.1 8 ++ bytesOf x.2.2)) := by
  unfold snapF
  rw [if_neg (by decide), if_pos rfl]
theorem snapF_fresh (vt : Option (Int × Int)) (sn : Option (Int × Int × ByteArray)) : snapF vt sn nFresh.data.toList = none := by
  unfold snapF
  rw [if_neg (by decide), if_neg (by decide)]
theorem snapF_put_vote (vt : Option (Int × Int)) (sn : Option (Int × Int × ByteArray)) (t v : Int) : (snapF vt sn).put nVote.data.toList (some (layB (be t 8 ++ be v 8), layB (be t 8 ++ be v 8))) = snapF (some (t, v)) sn := by
  funext k
  unfold Model.put snapF
  by_cases h : k = nVote.data.toList
  · rw [if_pos h, if_pos h]; rfl
  · rw [if_neg h, if_neg h, if_neg h]
theorem snapF_put_data (vt : Option (Int × Int)) (sn : Option (Int × Int × ByteArray)) (i o : Int) (x : ByteArray) : (snapF vt sn).put nData.data.toList (some (layB (be i 8 ++ be o 8 ++ bytesOf x), layB (be i 8 ++ be o 8 ++ bytesOf x))) = snapF vt (some (i, o, x)) := by
  funext k
  unfold Model.put snapF
  by_cases h : k = nData.data.toList
  · rw [if_pos h, h, if_neg (by decide), if_pos rfl]; rfl
  · rw [if_neg h]
    by_cases h2 : k = nVote.data.toList
    · rw [if_pos h2, if_pos h2]
    · rw [if_neg h2, if_neg h2, if_neg h, if_neg h]
theorem two_of {l : List (List UInt8)} {a b : List UInt8} (hn : l.Nodup) (h : ∀ x ∈ l, x = a ∨ x = b) : l.length ≤ 2 := by
  match l, hn, h with
  | [], _, _ => simp
  | [x], _, _ => simp
  | [x, y], _, _ => simp
  | x :: y :: z :: t, hn, h =>
    exfalso
    simp only [List.nodup_cons, List.mem_cons, not_or] at hn
    have hx := h x (by simp)
    have hy := h y (by simp)
    have hz := h z (by simp)
    rcases hx with rfl | rfl <;> rcases hy with rfl | rfl <;> rcases hz with rfl | rfl <;> simp_all
section
variable {w : World} {B g b cnt : Nat} {n : Int} {D : DataW Unit} {F : Model}
theorem Dsk.small {vt : Option (Int × Int)} {sn : Option (Int × Int × ByteArray)} (h : Dsk w B g b cnt n D (snapF vt sn)) : Maps.size D < 16 := by
  have h1 := two_of (a := nVote.data.toList) (b := nData.data.toList) (Files.keys h.files).1 (fun x hx => by
    have h2 := (h.mem x).1 hx
    unfold snapF at h2
    by_cases h3 : x = nVote.data.toList
    · exact .inl h3
    · rw [if_neg h3] at h2
      by_cases h4 : x = nData.data.toList
      · exact .inr h4
      · rw [if_neg h4] at h2; exact absurd rfl h2)
  rw [h.keys_len] at h1
  omega
/-- A block that is no disk's was turned. -/
theorem Dsk.store (h : Dsk w B g b cnt n D F) {s : Nat} {c : Array Value} {z : Nat × Nat} (hs : w.heap[s]? = some (.cells c 99 z)) {W : World} (hk : ∀ i, i ≠ s → W.heap[i]? = w.heap[i]?) : Dsk W B g b cnt n D F := by
  have hne : ∀ {i : Nat} {o : Obj}, w.heap[i]? = some o → (∀ c z, o ≠ .cells c 99 z) → i ≠ s := fun {i o} hi ho => by
    rintro rfl
    rw [hs] at hi
    injection hi with hi
    exact ho _ _ hi.symm
  have hrow : ∀ {v : Value} {l : List Int}, Kd.R (Kd.int .u8) 5 w B (fun _ => True) v l → Kd.R (Kd.int .u8) 5 W B (fun _ => True) v l := fun {v l} hr =>
    Kd.R_mono (Kd.R_step (Kd.R_bound hr) (fun k hk2 hl => hk k (by
      obtain ⟨q, hq, c, hc⟩ := hk2.2.2.2
      obtain rfl : q = 5 := by
        rcases List.mem_cons.1 hq with h | h
        · exact h
        · cases h
      exact hne hc (fun c z e => by injection e with _ e _; exact absurd e (by decide))))) (fun _ _ => trivial)
  obtain ⟨es, clock, hb, _⟩ := h.files
  exact { h with
    pow := (hk g (hne h.pow (fun c z e => by injection e with _ e _; exact absurd e (by decide)))).trans h.pow
    files := Files.of_block h.files (hk b (hne hb (fun c z e => by cases e)))
    some_ := fun nm s1 l1 e => by
      obtain ⟨f, h1, ⟨⟨v0, v1, h3, h4, h5⟩, h6, h7, h8⟩⟩ := h.some_ nm s1 l1 e
      exact ⟨f, h1, ⟨⟨v0, v1, (hk f (hne h3 (fun c z e => by injection e with _ e _; exact absurd e (by decide)))).trans h3, hrow h4, hrow h5⟩, h6, h7, h8⟩⟩ }
theorem StoreAt.kept {s : Nat} {k : Kept} {W : World} (hs : StoreAt w s g k) (hc : Calm B w W) : StoreAt W s g k := (hc.kept s (blk_lt hs) (.inr ⟨_, _, _, hs, by decide, by decide⟩)).trans hs
end
/-- Blocks of what is kept (type 70) stay. -/
def Keep70 (w W : World) : Prop := ∀ (i : Nat) (c : Array Value), w.heap[i]? = some (.cells c 70 (0, 0)) → W.heap[i]? = w.heap[i]?
theorem Keep70.trans {w w1 w2 : World} (h : Keep70 w w1) (k : Keep70 w1 w2) : Keep70 w w2 := fun i c hi => (k i c ((h i c hi).trans hi)).trans (h i c hi)
theorem Keep70.of_below {w W : World} (h : Below w.heap.size w W) : Keep70 w W := fun i _ hi => h.block i (blk_lt hi)
theorem Keep70.of_calm {B : Nat} {w W : World} (h : Calm B w W) : Keep70 w W := fun i c hi => h.kept i (blk_lt hi) (.inr ⟨c, 70, (0, 0), hi, by decide, by decide⟩)
theorem Keep70.set {w W : World} {s g : Nat} {k : Kept} (h : Keep70 w W) (hs : StoreAt W s g k) (j : Nat) (v : Value) : Keep70 w (W.setCell ⟨s, j, none⟩ v) := fun i c hi =>
  (Below.heap_setCell W ⟨s, j, none⟩ v i (fun e => blk_ne ((h i c hi).trans hi) hs (by decide) (by rw [e]))).trans (h i c hi)
/-- What a call of a store leaves. -/
structure SnapStep (w : World) (B g b s : Nat) (cmax : Nat) (nmax : Int) (F : Model) (k : Kept) (w' : World) : Prop where
  disk : ∃ n cnt D, Dsk w' B g b cnt n D F ∧ 0 ≤ n ∧ n ≤ nmax ∧ cnt ≤ cmax
  store : StoreAt w' s g k
  below : Below B w w'
  calm : Keep70 w w'
theorem below_set {B : Nat} {w W : World} (h : Below B w W) {s : Nat} (hs : B ≤ s) (j : Nat) (v : Value) : Below B w (W.setCell ⟨s, j, none⟩ v) := h.setCell (by show B ≤ s; exact hs) _
set_option maxHeartbeats 3200000 in
set_option maxRecDepth 100000 in
theorem put_calls {w : World} {B g b cnt s : Nat} {n : Int} {D : DataW Unit} {F : Model} {k : Kept} (h : Dsk w B g b cnt n D F) (h0 : 0 ≤ n) (h1 : n ≤ 900000) (hcnt : cnt < 900) (hs : StoreAt w s g k) (hBs : B ≤ s) (name : ByteArray) (hnm : name.size ≤ maxLen) (hn : nameB name = true) (hne : name.data.toList ≠ nFresh.data.toList) (hF : F nFresh.data.toList = none) (hlt : Maps.size D < 16) (x y : Int) (data : ByteArray) (hd : data.size ≤ 30000) :
    Calls Try.prog 55 #[.pointer (some ⟨s, 0, none⟩), .string name, .bool true, .int .i64 x, .int .i64 y, .string data] w fun e w' => e = .returned (.int .i64 0) ∧ SnapStep w B g b s (cnt + 2) (n + 3) (F.put name.data.toList (some (layB (be x 8 ++ be y 8 ++ bytesOf data), layB (be x 8 ++ be y 8 ++ bytesOf data)))) k w' := by
  obtain ⟨k0, k1, k2, k3, k4, k5, k6⟩ := hs.cells
  have HS := Aside0.mk hs
  have H := Aside0.mk h
  have hu99 := Try.underlying99
  have hu97 := Try.underlying97
  obtain ⟨p1, hp1⟩ : ∃ p1, p1 = be x 8 := ⟨_, rfl⟩
  obtain ⟨p2, hp2⟩ : ∃ p2, p2 = p1 ++ be y 8 := ⟨_, rfl⟩
  obtain ⟨p, hp⟩ : ∃ p, p = p2 ++ bytesOf data := ⟨_, rfl⟩
  have HL1 : Aside0 (p1.length = 8) := ⟨by rw [hp1, be_len]⟩
  have HL2 : Aside0 (p2.length = 16) := ⟨by rw [hp2, List.length_append, HL1.out, be_len]⟩
  have HL : Aside0 (p.length ≤ 40000) := ⟨by rw [hp, List.length_append, HL2.out, bytesOf_length]; omega⟩
  have H1 : Aside0 (V.frames_Number.f 20 [] x 8 = some p1) := ⟨by rw [hp1]; exact number_is x 8 [] (by decide) (by decide)⟩
  have H2 : Aside0 (V.frames_Number.f 20 p1 y 8 = some p2) := ⟨by rw [hp2]; exact number_is y 8 p1 (by decide) (by rw [HL1.out]; decide)⟩
  have HE : Aside0 (be x 8 ++ be y 8 ++ bytesOf data = p) := ⟨by rw [hp, hp2, hp1]⟩
  have HP := Aside0.mk hp
  have HD := Aside0.mk hd
  rw [HE.out]
  clear hs h hp1 hp2 hp hd
  go_enter Try.func55, Try.ntmps55
  go_wp2_with (first
    | (go_at_call 65; have hR1 := HR1.out; refine (V.frames_Number.calls 20 (fun _ => True) _ p1 y 8 p2 w _ (by exact HBW1.out) hR1 H2.out).mono ?_; rintro e w2 ⟨v2, rfl, hr, hb, hk⟩; obtain ⟨A2, c2, rfl⟩ := Kd.R_slice hr; have HR2 := Aside0.mk (Kd.R_mono (ok' := fun _ => True) hr (fun _ _ => trivial)); have HBW2 := Aside0.mk hb; clear hr hb hk hR1 HR1)
    | (go_at_call 65; refine (V.frames_Number.calls 20 (fun _ => True) (.slice none 0 0) [] x 8 p1 w w (Below.refl _ _) (Kd.R_nil _ _ _ _ _) H1.out).mono ?_; rintro e w1 ⟨v1, rfl, hr, hb, hk⟩; obtain ⟨A1, c1, rfl⟩ := Kd.R_slice hr; have HR1 := Aside0.mk (Kd.R_mono (ok' := fun _ => True) hr (fun _ _ => trivial)); have HBW1 := Aside0.mk hb; clear hr hb hk)
    | ((with_reducible refine gate_builtin (b := .append) (xs := #[.tmp 26, .tmp 27]) rfl ?_); at_builtin; refine print_append_str (w0 := w) w.heap.size rfl (.tmp 26) (.tmp 27) 27 9 5 rfl Try.underlying27 Try.underlying9 info5 _ p2 data rfl rfl (Kd.own_of_R HR2.out) HBW2.out HBW2.out.size (by have := HL2.out; have := HD.out; omega) ?_; intro v3 w3 ho3 hb3 hg3; rw [← HP.out] at ho3; have hr3 := Kd.R_of_own (enc := Value.int .u8) (h1 := fun _ => rfl) (ok := fun _ => True) ho3 (fun _ _ => trivial); have hr3 : Kd.R (Kd.int .u8) 5 w3 w.heap.size (fun _ => True) v3 p := hr3; obtain ⟨A3, c3, rfl⟩ := Kd.R_slice hr3; have HR3 := Aside0.mk hr3; have HBW3 := Aside0.mk hb3; have k53 := ((HBW3.out.block s (blk_lt HS.out))); have k53 : w3.cell? ⟨s, 5, none⟩ = some (.pointer (some ⟨g, 0, none⟩)) := (blk_cell (k53.trans HS.out) 5).trans rfl; clear ho3 hb3 hg3 hr3 HR2 HBW2)
    | (go_at_call 66; refine (replace_calls (H.out.below HBW3.out) h0 h1 hcnt name nFresh hnm (by decide) hn name_fresh hne hF hlt A3 c3 p HL.out (Kd.R_reads' HR3.out).2.2).mono ?_; rintro e w4 ⟨rfl, n4, hn40, hn41, hst4⟩; obtain ⟨⟨cn4, D4, hD4, hcn4⟩, hc4, hb4⟩ := hst4; have HD4 := Aside0.mk hD4; have HCN4 := Aside0.mk hcn4; have HNN4 : Aside0 (0 ≤ n4 ∧ n4 ≤ n + 3) := ⟨⟨hn40, hn41⟩⟩; have hs3 : StoreAt w3 s g k := (HBW3.out.block s (blk_lt HS.out)).trans HS.out; have HS4 := Aside0.mk (StoreAt.kept hs3 hc4); have HB4 : Aside0 (Below B w w4) := ⟨(HBW3.out.mono H.out.base).trans hb4⟩; have HK4 : Aside0 (Keep70 w w4) := ⟨(Keep70.of_below HBW3.out).trans (Keep70.of_calm hc4)⟩; have f64 := blk_frozen HS4.out 6; have c64 := HS4.out.cells.2.2.2.2.2.2; clear hD4 hcn4 hc4 hb4 hn40 hn41 hs3 k53))
  go_ret
  refine ⟨rfl, ⟨n4, cn4, D4, HD4.out.store HS4.out (fun i hi => Below.heap_setCell _ _ _ i hi), HNN4.out.1, HNN4.out.2, HCN4.out⟩, blk_set HS4.out 6 _, below_set HB4.out hBs 6 _, Keep70.set HK4.out HS4.out 6 _⟩
end Go.Proofs.Ytoonepmnlgfikaa.D
/-! VOps -/
namespace Go.Proofs.Ytoonepmnlgfikaa.D
open Go.RowKit Go.Proofs.YtoonepmnlgfikaaW.PrintWords Go.Proofs.YtoonepmnlgfikaaW.PrintLast Go.Proofs.YtoonepmnlgfikaaW.PrintMore Go.Proofs.Ytoonepmnlgfikaa.Base Go.Maps Go.Sort Go.Shelf
set_option linter.unusedVariables false
set_option linter.unusedSimpArgs false
theorem snumber_is (x : Int) (h0 : 0 ≤ x) (h1 : x < 1099511627776) : V.snap_number.f x = some true := by
  unfold V.snap_number.f
  rw [if_pos h0, decide_eq_true h1]
set_option maxHeartbeats 3200000 in
set_option maxRecDepth 100000 in
theorem setvote_calls {w : World} {B g b cnt s : Nat} {n : Int} {D : DataW Unit} {vt : Option (Int × Int)} {sn : Option (Int × Int × ByteArray)} {k : Kept} (h : Dsk w B g b cnt n D (snapF vt sn)) (h0 : 0 ≤ n) (h1 : n ≤ 900000) (hcnt : cnt < 900) (hs : StoreAt w s g k) (hBs : B ≤ s) (t v : Int) (ht0 : 0 ≤ t) (ht1 : t < 1099511627776) (hv0 : 0 ≤ v) (hv1 : v ≤ 7) :
    Calls Try.prog 35 #[.pointer (some ⟨s, 0, none⟩), .int .i64 t, .int .i64 v] w fun e w' => e = .returned (.int .i64 0) ∧ SnapStep w B g b s (cnt + 2) (n + 3) (snapF (some (t, v)) sn) { k with term := t, vote := v } w' := by
  have hu99 := Try.underlying99
  have hu97 := Try.underlying97
  have hd1 : decide (0 ≤ v) = true := decide_eq_true hv0
  have hd2 : decide (v ≤ 7) = true := decide_eq_true hv1
  go_enter Try.func35, Try.ntmps35
  go_wp2_with fail
  refine (V.snap_number.calls t true w (snumber_is t ht0 ht1)).mono ?_
  rintro e w1 ⟨rfl, ⟨n1, rfl⟩⟩
  go_wp2_with fail
  refine (put_calls (h.drewN n1) h0 h1 hcnt hs hBs nVote (by decide) name_vote (by decide) (snapF_fresh _ _) h.small t v ⟨#[]⟩ (by decide)).mono ?_
  rintro e w2 ⟨rfl, hst⟩
  have hst2 : SnapStep w B g b s (cnt + 2) (n + 3) (snapF (some (t, v)) sn) k w2 := by
    have e1 : be t 8 ++ be v 8 ++ bytesOf ⟨#[]⟩ = be t 8 ++ be v 8 := List.append_nil _
    have hd := hst.disk
    rw [e1, snapF_put_vote] at hd
    exact ⟨hd, hst.store, (pw_below_drewN (Below.refl _ _) n1).trans hst.below, (Keep70.of_below (pw_below_drewN (Below.refl _ _) n1)).trans hst.calm⟩
  have HST := Aside0.mk hst2
  have HS2 := Aside0.mk hst2.store
  have f0 := blk_frozen hst2.store 0
  have f1 := blk_frozen hst2.store 1
  have c0 := hst2.store.cells.1
  have c1 := hst2.store.cells.2.1
  clear hst hst2
  go_wp2_with fail
  go_ret
  obtain ⟨⟨n2, cn2, D2, hD2, ha, hb, hc⟩, hs2, hb2, hkk⟩ := HST.out
  have hs3 : StoreAt (w2.setCell ⟨s, 0, none⟩ (.int .i64 t)) s g { k with term := t } := blk_set hs2 0 _
  exact ⟨rfl, ⟨n2, cn2, D2, (hD2.store hs2 (fun i hi => Below.heap_setCell _ _ _ i hi)).store hs3 (fun i hi => Below.heap_setCell _ _ _ i hi), ha, hb, hc⟩, blk_set hs3 1 _, below_set (below_set hb2 hBs 0 _) hBs 1 _, Keep70.set (Keep70.set hkk hs2 0 _) hs3 1 _⟩
set_option maxHeartbeats 3200000 in
set_option maxRecDepth 100000 in
theorem setsnap_calls {w : World} {B g b cnt s : Nat} {n : Int} {D : DataW Unit} {vt : Option (Int × Int)} {sn : Option (Int × Int × ByteArray)} {k : Kept} (h : Dsk w B g b cnt n D (snapF vt sn)) (h0 : 0 ≤ n) (h1 : n ≤ 900000) (hcnt : cnt < 900) (hs : StoreAt w s g k) (hBs : B ≤ s) (t v : Int) (ht0 : 0 ≤ t) (ht1 : t < 1099511627776) (hv0 : 0 ≤ v) (hv1 : v < 1099511627776) (x : ByteArray) (hx : x.size ≤ 30000) :
    Calls Try.prog 36 #[.pointer (some ⟨s, 0, none⟩), .int .i64 t, .int .i64 v, .string x] w fun e w' => e = .returned (.int .i64 0) ∧ SnapStep w B g b s (cnt + 2) (n + 3) (snapF vt (some (t, v, x))) { k with index := t, last := v, data := x } w' := by
  have hu99 := Try.underlying99
  have hu97 := Try.underlying97
  have hd1 : decide ((x.size : Int) ≤ 524288) = true := decide_eq_true (by omega)
  have hd2 : decide (x.size ≤ 524288) = true := decide_eq_true (by omega)
  have HX := Aside0.mk hx
  clear hx
  go_enter Try.func36, Try.ntmps36
  go_wp2_with fail
  refine (V.snap_number.calls t true w (snumber_is t ht0 ht1)).mono ?_
  rintro e w1 ⟨rfl, ⟨n1, rfl⟩⟩
  go_wp2_with fail
  refine (V.snap_number.calls v true _ (snumber_is v hv0 hv1)).mono ?_
  rintro e w1 ⟨rfl, ⟨n2, rfl⟩⟩
  go_wp2_with fail
  refine (put_calls (h.drewN (n1 + n2)) h0 h1 hcnt hs hBs nData (by decide) name_data (by decide) (snapF_fresh _ _) h.small t v x HX.out).mono ?_
  rintro e w2 ⟨rfl, hst⟩
  have hst2 : SnapStep w B g b s (cnt + 2) (n + 3) (snapF vt (some (t, v, x))) k w2 := by
    have hd := hst.disk
    rw [snapF_put_data] at hd
    exact ⟨hd, hst.store, (pw_below_drewN (Below.refl _ _) (n1 + n2)).trans hst.below, (Keep70.of_below (pw_below_drewN (Below.refl _ _) (n1 + n2))).trans hst.calm⟩
  have HST := Aside0.mk hst2
  have f0 := blk_frozen hst2.store 2
  have f1 := blk_frozen hst2.store 3
  have f2 := blk_frozen hst2.store 4
  have c0 := hst2.store.cells.2.2.1
  have c1 := hst2.store.cells.2.2.2.1
  have c2 := hst2.store.cells.2.2.2.2.1
  clear hst hst2
  go_wp2_with fail
  go_ret
  obtain ⟨⟨n2, cn2, D2, hD2, ha, hb, hc⟩, hs2, hb2, hkk⟩ := HST.out
  have hs3 : StoreAt (w2.setCell ⟨s, 2, none⟩ (.int .i64 t)) s g { k with index := t } := blk_set hs2 2 _
  have hs4 : StoreAt ((w2.setCell ⟨s, 2, none⟩ (.int .i64 t)).setCell ⟨s, 3, none⟩ (.int .i64 v)) s g { k with index := t, last := v } := blk_set hs3 3 _
  exact ⟨rfl, ⟨n2, cn2, D2, ((hD2.store hs2 (fun i hi => Below.heap_setCell _ _ _ i hi)).store hs3 (fun i hi => Below.heap_setCell _ _ _ i hi)).store hs4 (fun i hi => Below.heap_setCell _ _ _ i hi), ha, hb, hc⟩, blk_set hs4 4 _, below_set (below_set (below_set hb2 hBs 2 _) hBs 3 _) hBs 4 _, Keep70.set (Keep70.set (Keep70.set hkk hs2 2 _) hs3 3 _) hs4 4 _⟩
set_option maxHeartbeats 1600000 in
set_option maxRecDepth 100000 in
theorem vote_calls (s g : Nat) (k : Kept) (w : World) (hs : StoreAt w s g k) : Calls Try.prog 52 #[.pointer (some ⟨s, 0, none⟩)] w fun e w' => e = .returned (.tuple #[.int .i64 k.term, .int .i64 k.vote]) ∧ Drawn0 w w' := by
  obtain ⟨k0, k1, k2, k3, k4, k5, k6⟩ := hs.cells
  have hu97 := Try.underlying97
  clear hs
  go_enter Try.func52, Try.ntmps52
  go_upto_region 1 with (fail)
  go_quiet (fail)
  go_wp2_with fail
  go_ret2
  exact ⟨rfl, _, rfl⟩
set_option maxHeartbeats 1600000 in
set_option maxRecDepth 100000 in
theorem snap_calls (s g : Nat) (k : Kept) (w : World) (hs : StoreAt w s g k) : Calls Try.prog 53 #[.pointer (some ⟨s, 0, none⟩)] w fun e w' => e = .returned (.tuple #[.int .i64 k.index, .int .i64 k.last, .string k.data]) ∧ Drawn0 w w' := by
  obtain ⟨k0, k1, k2, k3, k4, k5, k6⟩ := hs.cells
  have hu97 := Try.underlying97
  clear hs
  go_enter Try.func53, Try.ntmps53
  go_upto_region 1 with (fail)
  go_quiet (fail)
  go_wp2_with fail
  refine bodyPost_ret (results_tmp3 rfl _ _ _) rfl ?_
  exact ⟨rfl, _, rfl⟩
set_option maxHeartbeats 1600000 in
set_option maxRecDepth 100000 in
theorem open1_calls {w : World} {B g b cnt : Nat} {n : Int} {D : DataW Unit} {F : Model} (h : Dsk w B g b cnt n D F) (hF : F nFresh.data.toList = none) (q : Nat) (hq : w.cell? ⟨q, 0, none⟩ = some (.pointer (some ⟨g, 0, none⟩))) :
    Calls Try.prog 48 #[.pointer (some ⟨q, 0, none⟩)] w fun e w' => e = .returned (.int .i64 0) ∧ Drawn0 w w' := by
  go_enter Try.func48, Try.ntmps48
  go_wp2_with fail
  refine (sweep_none h nFresh (by decide) name_fresh hF).mono ?_
  rintro e w' ⟨rfl, ⟨n1, rfl⟩⟩
  go_wp2_with fail
  go_ret
  exact ⟨rfl, n1, rfl⟩
end Go.Proofs.Ytoonepmnlgfikaa.D
/-! VOpen -/
namespace Go.Proofs.Ytoonepmnlgfikaa.D
open Go.RowKit Go.Proofs.YtoonepmnlgfikaaW.PrintWords Go.Proofs.YtoonepmnlgfikaaW.PrintLast Go.Proofs.YtoonepmnlgfikaaW.PrintMore Go.Proofs.Ytoonepmnlgfikaa.Base Go.Maps Go.Sort Go.Shelf
set_option linter.unusedVariables false
set_option linter.unusedSimpArgs false
theorem Dsk.grown {w : World} {B g b cnt : Nat} {n : Int} {D : DataW Unit} {F : Model} (h : Dsk w B g b cnt n D F) {s : Nat} {c : Array Value} {z : Nat × Nat} (hs : w.heap[s]? = some (.cells c 99 z)) {W : World} (hg : w.grownBy W (some s)) : Dsk W B g b cnt n D F := by
  have hk : ∀ i, i < w.heap.size → i ≠ s → W.heap[i]? = w.heap[i]? := fun i hi hne => hg.block i hi (by simpa using hne)
  have hne : ∀ {i : Nat} {o : Obj}, w.heap[i]? = some o → (∀ c z, o ≠ .cells c 99 z) → i ≠ s := fun {i o} hi ho => by
    rintro rfl
    rw [hs] at hi
    injection hi with hi
    exact ho _ _ hi.symm
  have hrow : ∀ {v : Value} {l : List Int}, Kd.R (Kd.int .u8) 5 w B (fun _ => True) v l → Kd.R (Kd.int .u8) 5 W B (fun _ => True) v l := fun {v l} hr =>
    Kd.R_mono (Kd.R_step (Kd.R_bound hr) (fun k hk2 hl => hk k hl (by
      obtain ⟨q, hq, c, hc⟩ := hk2.2.2.2
      obtain rfl : q = 5 := by
        rcases List.mem_cons.1 hq with h | h
        · exact h
        · cases h
      exact hne hc (fun c z e => by injection e with _ e _; exact absurd e (by decide))))) (fun _ _ => trivial)
  obtain ⟨es, clock, hb, _⟩ := h.files
  exact { h with
    pow := (hk g (blk_lt h.pow) (hne h.pow (fun c z e => by injection e with _ e _; exact absurd e (by decide)))).trans h.pow
    files := Files.of_block h.files (hk b (World.ownsMap.lt h.files) (hne hb (fun c z e => by cases e)))
    some_ := fun nm s1 l1 e => by
      obtain ⟨f, h1, ⟨⟨v0, v1, h3, h4, h5⟩, h6, h7, h8⟩⟩ := h.some_ nm s1 l1 e
      exact ⟨f, h1, ⟨⟨v0, v1, (hk f (blk_lt h3) (hne h3 (fun c z e => by injection e with _ e _; exact absurd e (by decide)))).trans h3, hrow h4, hrow h5⟩, h6, h7, h8⟩⟩ }
/-- What Open reads of the files. -/
def keptOf (vt : Option (Int × Int)) (sn : Option (Int × Int × ByteArray)) : Kept :=
  ⟨(vt.map (·.1)).getD 0, (vt.map (·.2)).getD 0, (sn.map (·.1)).getD 0, (sn.map (·.2.1)).getD 0, (sn.map (·.2.2)).getD ⟨#[]⟩⟩
structure VtOk (vt : Option (Int × Int)) : Prop where
  ok : ∀ x, vt = some x → 0 ≤ x.1 ∧ x.1 < 1099511627776 ∧ 0 ≤ x.2 ∧ x.2 < 1099511627776
structure SnOk (sn : Option (Int × Int × ByteArray)) : Prop where
  ok : ∀ x, sn = some x → 0 ≤ x.1 ∧ x.1 < 1099511627776 ∧ 0 ≤ x.2.1 ∧ x.2.1 < 1099511627776 ∧ x.2.2.size ≤ 30000
theorem str_bytes (x : ByteArray) : strOfNums (bytesOf x) = x := by
  obtain ⟨⟨l⟩⟩ := x
  simp only [strOfNums, bytesOf, List.map_map]
  have : ((fun n : Int => UInt8.ofNat n.toNat) ∘ fun b : UInt8 => ((b.toNat : Nat) : Int)) = id := by funext b; simp
  rw [this, List.map_id]
/-- The store's state ahead of round i. -/
def keptAt (vt : Option (Int × Int)) (sn : Option (Int × Int × ByteArray)) (i : Nat) : Kept := keptOf (if i < 2 then none else vt) (if i < 3 then none else sn)
structure OpenAt (w W : World) (B g b cnt : Nat) (n : Int) (D : DataW Unit) (vt : Option (Int × Int)) (sn : Option (Int × Int × ByteArray)) (s q fb : Nat) (i : Nat) : Prop where
  disk : Dsk W B g b cnt n D (snapF vt sn)
  store : StoreAt W s g (keptAt vt sn i)
  box : W.heap[q]? = some (.cells #[.pointer (some ⟨g, 0, none⟩)] 31 (0, 0))
  funs : W.heap[fb]? = some (.cells #[.func (.func 48) #[] #[.pointer (some ⟨q, 0, none⟩)], .func (.func 50) #[.pointer (some ⟨s, 0, none⟩)] #[], .func (.func 51) #[.pointer (some ⟨s, 0, none⟩)] #[]] 101 (0, 0))
  below : Below w.heap.size w W
theorem OpenAt.drawn {w W W' : World} {B g b cnt : Nat} {n : Int} {D : DataW Unit} {vt : Option (Int × Int)} {sn : Option (Int × Int × ByteArray)} {s q fb i : Nat} (h : OpenAt w W B g b cnt n D vt sn s q fb i) (hd : Drawn0 W W') (j : Nat) (hj : keptAt vt sn j = keptAt vt sn i) : OpenAt w W' B g b cnt n D vt sn s q fb j := by
  obtain ⟨m, rfl⟩ := hd
  exact ⟨h.disk.drewN m, by rw [hj]; exact h.store, h.box, h.funs, pw_below_drewN h.below m⟩
theorem OpenAt.grown {w W W' : World} {B g b cnt : Nat} {n : Int} {D : DataW Unit} {vt : Option (Int × Int)} {sn : Option (Int × Int × ByteArray)} {s q fb i : Nat} (h : OpenAt w W B g b cnt n D vt sn s q fb i) (hsw : w.heap.size ≤ s) (j : Nat) (hs : StoreAt W' s g (keptAt vt sn j)) (hg : W.grownBy W' (some s)) : OpenAt w W' B g b cnt n D vt sn s q fb j := by
  have hq : q ≠ s := blk_ne h.box h.store (by decide)
  have hf : fb ≠ s := blk_ne h.funs h.store (by decide)
  exact ⟨h.disk.grown h.store hg, hs, (hg.block q (blk_lt h.box) (by simpa using hq)).trans h.box, (hg.block fb (blk_lt h.funs) (by simpa using hf)).trans h.funs, pw_below_grown h.below _ h.below.size hg (fun k hk => by cases hk; exact hsw)⟩
set_option maxHeartbeats 3200000 in
set_option maxRecDepth 100000 in
theorem open_calls {w : World} {B g b cnt : Nat} {n : Int} {D : DataW Unit} {vt : Option (Int × Int)} {sn : Option (Int × Int × ByteArray)} (h : Dsk w B g b cnt n D (snapF vt sn)) (hv : VtOk vt) (hsn : SnOk sn) :
    Calls Try.prog 28 #[.pointer (some ⟨g, 0, none⟩)] w fun e w' => ∃ s, e = .returned (.tuple #[.pointer (some ⟨s, 0, none⟩), .int .i64 0]) ∧ w.heap.size ≤ s ∧ Dsk w' B g b cnt n D (snapF vt sn) ∧ StoreAt w' s g (keptOf vt sn) ∧ Below w.heap.size w w' := by
  have H := Aside0.mk h
  have HV := Aside0.mk hv
  have HSN := Aside0.mk hsn
  have hu99 := Try.underlying99
  have hu97 := Try.underlying97
  clear h hv hsn
  go_enter Try.func28, Try.ntmps28
  go_wp2_with fail
  have hb1 : Below w.heap.size w (w.alloc (.cells #[.pointer (some ⟨g, 0, none⟩)] 31)) := below_alloc (Below.refl _ _) _
  have hn1 := heap_alloc_new w (.cells #[.pointer (some ⟨g, 0, none⟩)] 31)
  have hz1 : (w.alloc (.cells #[.pointer (some ⟨g, 0, none⟩)] 31)).heap.size = w.heap.size + 1 := by simp
  generalize w.alloc (.cells #[.pointer (some ⟨g, 0, none⟩)] 31) = x1 at *
  have hb2 : Below w.heap.size w (x1.alloc (.cells #[.int .i64 0, .int .i64 0, .int .i64 0, .int .i64 0, .string ⟨#[]⟩, .pointer (some ⟨g, 0, none⟩), .bool false] 99)) := below_alloc hb1 _
  have hn2 := heap_alloc_new x1 (.cells #[.int .i64 0, .int .i64 0, .int .i64 0, .int .i64 0, .string ⟨#[]⟩, .pointer (some ⟨g, 0, none⟩), .bool false] 99)
  have hn12 : (x1.alloc (.cells #[.int .i64 0, .int .i64 0, .int .i64 0, .int .i64 0, .string ⟨#[]⟩, .pointer (some ⟨g, 0, none⟩), .bool false] 99)).heap[w.heap.size]? = some (.cells #[.pointer (some ⟨g, 0, none⟩)] 31 (0, 0)) := (Below.heap_alloc _ _ _ (by omega)).trans hn1
  have hz2 : (x1.alloc (.cells #[.int .i64 0, .int .i64 0, .int .i64 0, .int .i64 0, .string ⟨#[]⟩, .pointer (some ⟨g, 0, none⟩), .bool false] 99)).heap.size = w.heap.size + 1 + 1 := by simp; omega
  generalize x1.alloc (.cells #[.int .i64 0, .int .i64 0, .int .i64 0, .int .i64 0, .string ⟨#[]⟩, .pointer (some ⟨g, 0, none⟩), .bool false] 99) = x2 at *
  rw [hz1] at hn2
  obtain ⟨s, hs⟩ : ∃ s, s = w.heap.size + 1 := ⟨_, rfl⟩
  obtain ⟨q, hq⟩ : ∃ q, q = w.heap.size := ⟨_, rfl⟩
  obtain ⟨fb, hfb⟩ : ∃ fb, fb = w.heap.size + 1 + 1 := ⟨_, rfl⟩
  rw [← hfb] at hz2
  rw [← hs] at hn2
  rw [← hq] at hn12
  rw [← hfb, ← hs, ← hq]
  have hn3 := heap_alloc_new x2 (.cells #[.func (.func 48) #[] #[.pointer (some ⟨q, 0, none⟩)], .func (.func 50) #[.pointer (some ⟨s, 0, none⟩)] #[], .func (.func 51) #[.pointer (some ⟨s, 0, none⟩)] #[]] 101)
  rw [hz2] at hn3
  have HO : Aside0 (OpenAt w (x2.alloc (.cells #[.func (.func 48) #[] #[.pointer (some ⟨q, 0, none⟩)], .func (.func 50) #[.pointer (some ⟨s, 0, none⟩)] #[], .func (.func 51) #[.pointer (some ⟨s, 0, none⟩)] #[]] 101)) B g b cnt n D vt sn s q fb 0) :=
    ⟨⟨H.out.below (below_alloc hb2 _), (Below.heap_alloc _ _ _ (by omega)).trans hn2, (Below.heap_alloc _ _ _ (by omega)).trans hn12, hn3, below_alloc hb2 _⟩⟩
  have HSW : Aside0 (w.heap.size ≤ s) := ⟨by omega⟩
  clear hb1 hb2 hn1 hn2 hn12 hn3 hz1 hz2 hs hq hfb
  generalize x2.alloc (.cells #[.func (.func 48) #[] #[.pointer (some ⟨q, 0, none⟩)], .func (.func 50) #[.pointer (some ⟨s, 0, none⟩)] #[], .func (.func 51) #[.pointer (some ⟨s, 0, none⟩)] #[]] 101) = x3 at *
  go_loopg [7, 8, 22] 3 (fun kq v7 v8 v22 w' => ∃ i : Nat, Aside0 (i + kq = 3) ∧ v22 = .int .i64 i ∧ Aside0 (OpenAt w w' B g b cnt n D vt sn s q fb i))
  case atStart => exact ⟨0, ⟨rfl⟩, rfl, HO⟩
  case round =>
    obtain ⟨i, HIK, rfl, HOI⟩ := hrel
    clear HO
    have kf0 : wr.cell? ⟨fb, 0, none⟩ = some (.func (.func 48) #[] #[.pointer (some ⟨q, 0, none⟩)]) := (blk_cell HOI.out.funs 0).trans rfl
    have kf1 : wr.cell? ⟨fb, 1, none⟩ = some (.func (.func 50) #[.pointer (some ⟨s, 0, none⟩)] #[]) := (blk_cell HOI.out.funs 1).trans rfl
    have kf2 : wr.cell? ⟨fb, 2, none⟩ = some (.func (.func 51) #[.pointer (some ⟨s, 0, none⟩)] #[]) := (blk_cell HOI.out.funs 2).trans rfl
    have kq : wr.cell? ⟨q, 0, none⟩ = some (.pointer (some ⟨g, 0, none⟩)) := (blk_cell HOI.out.box 0).trans rfl
    rcases (show i = 0 ∨ i = 1 ∨ i = 2 ∨ i = 3 by have := HIK.out; omega) with rfl | rfl | rfl | rfl
    · have HM : Aside0 (gk - 1 < gk ∧ 1 + (gk - 1) = 3) := ⟨by have := HIK.out; omega⟩
      go_wp2_with fail
      refine (open1_calls HOI.out.disk (snapF_fresh _ _) q kq).mono ?_
      rintro e w2 ⟨rfl, hd⟩
      have HD2 := Aside0.mk (HOI.out.drawn hd 1 rfl)
      clear hd
      go_wp2_with fail
      go_roundg (gk - 1)
      case measure => exact HM.out.1
      case rel => exact ⟨1, ⟨HM.out.2⟩, rfl, HD2⟩
    · have HM : Aside0 (gk - 1 < gk ∧ 2 + (gk - 1) = 3) := ⟨by have := HIK.out; omega⟩
      cases vt with
      | none =>
        go_wp2_with fail
        refine (votes_none s _ HOI.out.disk HOI.out.store (snapF_vote _ _)).mono ?_
        rintro e w2 ⟨rfl, hd⟩
        have HD2 := Aside0.mk (HOI.out.drawn hd 2 rfl)
        clear hd
        go_wp2_with fail
        go_roundg (gk - 1)
        case measure => exact HM.out.1
        case rel => exact ⟨2, ⟨HM.out.2⟩, rfl, HD2⟩
      | some x =>
        have hx := HV.out.ok x rfl
        go_wp2_with fail
        refine (votes_hit s _ HOI.out.disk HOI.out.store x.1 x.2 hx.1 hx.2.1 hx.2.2.1 hx.2.2.2 _ (snapF_vote _ _)).mono ?_
        rintro e w2 ⟨rfl, hs2, hg2⟩
        have HD2 := Aside0.mk (HOI.out.grown HSW.out 2 hs2 hg2)
        clear hs2 hg2
        go_wp2_with fail
        go_roundg (gk - 1)
        case measure => exact HM.out.1
        case rel => exact ⟨2, ⟨HM.out.2⟩, rfl, HD2⟩
    · have HM : Aside0 (gk - 1 < gk ∧ 3 + (gk - 1) = 3) := ⟨by have := HIK.out; omega⟩
      cases sn with
      | none =>
        go_wp2_with fail
        refine (snapshot_none s _ HOI.out.disk HOI.out.store (snapF_data _ _)).mono ?_
        rintro e w2 ⟨rfl, hd⟩
        have HD2 := Aside0.mk (HOI.out.drawn hd 3 rfl)
        clear hd
        go_wp2_with fail
        go_roundg (gk - 1)
        case measure => exact HM.out.1
        case rel => exact ⟨3, ⟨HM.out.2⟩, rfl, HD2⟩
      | some x =>
        have hx := HSN.out.ok x rfl
        go_wp2_with fail
        refine (snapshot_hit' s _ HOI.out.disk HOI.out.store x.1 x.2.1 hx.1 hx.2.1 hx.2.2.1 hx.2.2.2.1 (bytesOf x.2.2) (by rw [bytesOf_length]; exact hx.2.2.2.2) _ (snapF_data _ _)).mono ?_
        rintro e w2 ⟨rfl, hs2, hg2⟩
        rw [str_bytes] at hs2
        have HD2 := Aside0.mk (HOI.out.grown HSW.out 3 hs2 hg2)
        clear hs2 hg2
        go_wp2_with fail
        go_roundg (gk - 1)
        case measure => exact HM.out.1
        case rel => exact ⟨3, ⟨HM.out.2⟩, rfl, HD2⟩
    · go_wp2_with fail
      go_ret2
      exact ⟨s, rfl, HSW.out, HOI.out.disk, HOI.out.store, HOI.out.below⟩
end Go.Proofs.Ytoonepmnlgfikaa.D
/-! VAgain -/
namespace Go.Proofs.Ytoonepmnlgfikaa.D
open Go.RowKit Go.Proofs.YtoonepmnlgfikaaW.PrintWords Go.Proofs.YtoonepmnlgfikaaW.PrintLast Go.Proofs.YtoonepmnlgfikaaW.PrintMore Go.Proofs.Ytoonepmnlgfikaa.Base Go.Maps Go.Sort Go.Shelf
set_option linter.unusedVariables false
set_option linter.unusedSimpArgs false
theorem Dsk.lower {w : World} {B B0 g b cnt : Nat} {n : Int} {D : DataW Unit} {F : Model} (h : Dsk w B g b cnt n D F) (hB : B0 ≤ B) : Dsk w B0 g b cnt n D F :=
  { h with
    lowg := Nat.le_trans hB h.lowg
    lowb := Nat.le_trans hB h.lowb
    some_ := fun nm s l e => by
      obtain ⟨f, h1, ⟨⟨v0, v1, h3, h4, h5⟩, h6, h7, h8⟩⟩ := h.some_ nm s l e
      exact ⟨f, h1, ⟨⟨v0, v1, h3, Kd.R_lower h4 hB, Kd.R_lower h5 hB⟩, Nat.le_trans hB h6, h7, h8⟩⟩ }
/-- All its files are synced: the files of a crash are these. -/
theorem Dsk.same_files {w : World} {B g b cnt : Nat} {n : Int} {D : DataW Unit} {F : Model} (h : Dsk w B g b cnt n D F) (hF : ∀ k s l, F k = some (s, l) → s = l) {ss : List (List UInt8)} {L : List S40} (hs : namesOf D ss) (hl : L.length = ss.length) (hc : CrashL (fun nm => (F nm).getD ([], [])) ss L) : fileMap L = F := by
  funext k
  cases hk : F k with
  | some p =>
    obtain ⟨s, l⟩ := p
    obtain rfl := hF k s l hk
    exact h.kept hk hs hl hc
  | none =>
    refine fileMap_none (fun x hx e => ?_)
    obtain ⟨j, hj, rfl⟩ := List.getElem_of_mem hx
    obtain ⟨nm, h1, h2, _⟩ := hc.2 j hj
    rw [h2] at e
    have e' : nm = k := by simpa using e
    have h3 : nm ∈ strKeys D := (names_perm hs).mem_iff.1 (List.mem_of_getElem? h1)
    rw [e'] at h3
    exact (h.mem k).1 h3 hk
theorem snapF_synced (vt : Option (Int × Int)) (sn : Option (Int × Int × ByteArray)) : ∀ k s l, snapF vt sn k = some (s, l) → s = l := fun k s l e => by
  unfold snapF at e
  split at e
  · obtain ⟨x, _, hx⟩ := Option.map_eq_some_iff.1 e
    injection hx with h1 h2
    rw [← h1, ← h2]
  · split at e
    · obtain ⟨x, _, hx⟩ := Option.map_eq_some_iff.1 e
      injection hx with h1 h2
      rw [← h1, ← h2]
    · cases e
theorem snapF_short {vt : Option (Int × Int)} {sn : Option (Int × Int × ByteArray)} (hsn : SnOk sn) : Short (snapF vt sn) 40000 := fun k s l e => by
  unfold snapF at e
  split at e
  · obtain ⟨x, _, hx⟩ := Option.map_eq_some_iff.1 e
    injection hx with h1 h2
    rw [← h1, ← h2, layB_len, List.length_append, be_len, be_len]
    omega
  · split at e
    · obtain ⟨x, hx0, hx⟩ := Option.map_eq_some_iff.1 e
      have := hsn.ok x hx0
      injection hx with h1 h2
      rw [← h1, ← h2, layB_len, List.length_append, List.length_append, be_len, be_len, bytesOf_length]
      omega
    · cases e
set_option maxHeartbeats 3200000 in
set_option maxRecDepth 100000 in
theorem again_calls {w : World} {B g b cnt : Nat} {n : Int} {D : DataW Unit} {vt : Option (Int × Int)} {sn : Option (Int × Int × ByteArray)} (h : Dsk w B g b cnt n D (snapF vt sn)) (hsn : SnOk sn) (P0 : Option Addr) (pc : Nat) (ps : List Int) (hp : Kd.C (Kd.int .i64) w P0 ps.length ps) (hpc : ps.length ≤ pc) :
    Calls Try.prog 33 #[.pointer (some ⟨g, 0, none⟩), .slice P0 ps.length pc] w fun e w' => ∃ g' b' cnt' D', e = .returned (.pointer (some ⟨g', 0, none⟩)) ∧ Dsk w' B g' b' cnt' 0 D' (snapF vt sn) ∧ cnt' ≤ 16 ∧ Below w.heap.size w w' := by
  have H := Aside0.mk h
  have HSN := Aside0.mk hsn
  have HP := Aside0.mk hp
  clear h hsn hp
  go_enter Try.func33, Try.ntmps33
  go_wp2_with fail
  refine (dsk_crash H.out P0 pc ps HP.out hpc).mono ?_
  rintro e w2 ⟨v2, L, ss, rfl, hns, hL, hLl, hcl, hb2⟩
  obtain ⟨A2, c2, rfl, hc2, hC2⟩ := Kd.S_reads hL
  have hok := (H.out.newOk (snapF_short HSN.out) (by decide) hns hLl hcl).1
  have hfm := H.out.same_files (snapF_synced vt sn) hns hLl hcl
  have HB2 := Aside0.mk hb2
  have HOK := Aside0.mk hok
  have HFM := Aside0.mk hfm
  have HC2 := Aside0.mk hC2
  clear hns hL hLl hcl hb2 hok hfm hC2
  go_wp2_with fail
  refine (new_calls A2 c2 L w2 HC2.out hc2 HOK.out).mono ?_
  rintro e w3 ⟨g3, b3, rfl, ⟨⟨D3, hD3, hz3⟩, hb3⟩⟩
  rw [List.take_of_length_le (Nat.le_refl _), HFM.out] at hD3
  have HD3 := Aside0.mk (hD3.lower (Nat.le_trans H.out.base HB2.out.size))
  have HB3 := Aside0.mk (below_step HB2.out hb3)
  clear hD3 hz3 hb3
  go_wp2_with fail
  refine (V.lecternlaw19_num.calls _ _ _ rfl).mono ?_
  rintro e w' ⟨rfl, ⟨n4, rfl⟩⟩
  go_wp2_with fail
  go_ret
  exact ⟨g3, b3, L.length, D3, rfl, HD3.out.drewN n4, HOK.out.few, pw_below_drewN HB3.out n4⟩
set_option maxHeartbeats 3200000 in
set_option maxRecDepth 100000 in
theorem same_calls (s g : Nat) (k : Kept) (w : World) (hs : StoreAt w s g k) :
    Calls Try.prog 30 #[.pointer (some ⟨s, 0, none⟩), .agg #[.int .i64 k.term, .int .i64 k.vote, .int .i64 k.index, .int .i64 k.last, .string k.data]] w fun e w' => e = .returned (.bool true) ∧ Below w.heap.size w w' := by
  obtain ⟨t, v, i, o, x⟩ := k
  have HS := Aside0.mk hs
  have hu99 := Try.underlying99
  have hu97 := Try.underlying97
  have hu70 := Try.underlying70
  have hxx : (x.toList == x.toList) = true := beq_self_eq_true _
  clear hs
  dsimp only
  go_enter Try.func30, Try.ntmps30
  go_wp2_with fail
  have hn := heap_alloc_new w (.cells #[.int .i64 t, .int .i64 v, .int .i64 i, .int .i64 o, .string x] 70)
  have hb : Below w.heap.size w (w.alloc (.cells #[.int .i64 t, .int .i64 v, .int .i64 i, .int .i64 o, .string x] 70)) := below_alloc (Below.refl _ _) _
  obtain ⟨q, hq⟩ : ∃ q, q = w.heap.size := ⟨_, rfl⟩
  rw [← hq] at hn ⊢
  generalize w.alloc (.cells #[.int .i64 t, .int .i64 v, .int .i64 i, .int .i64 o, .string x] 70) = w1 at *
  have HS1 : Aside0 (StoreAt w1 s g ⟨t, v, i, o, x⟩) := ⟨(hb.block s (blk_lt HS.out)).trans HS.out⟩
  have HB := Aside0.mk hb
  have k0 : ∀ n, (w1.drewN n).cell? ⟨q, 0, none⟩ = some (.int .i64 t) := fun n => (blk_cell hn 0).trans rfl
  have k1 : ∀ n, (w1.drewN n).cell? ⟨q, 1, none⟩ = some (.int .i64 v) := fun n => (blk_cell hn 1).trans rfl
  have k2 : ∀ n, (w1.drewN n).cell? ⟨q, 2, none⟩ = some (.int .i64 i) := fun n => (blk_cell hn 2).trans rfl
  have k3 : ∀ n, (w1.drewN n).cell? ⟨q, 3, none⟩ = some (.int .i64 o) := fun n => (blk_cell hn 3).trans rfl
  have k4 : ∀ n, (w1.drewN n).cell? ⟨q, 4, none⟩ = some (.string x) := fun n => (blk_cell hn 4).trans rfl
  clear hn hb hq
  refine (vote_calls s g ⟨t, v, i, o, x⟩ w1 HS1.out).mono ?_
  rintro e w' ⟨rfl, ⟨n1, rfl⟩⟩
  go_wp2_with fail
  refine (snap_calls s g ⟨t, v, i, o, x⟩ _ (show StoreAt (w1.drewN n1) s g _ from HS1.out)).mono ?_
  rintro e w' ⟨rfl, ⟨n2, rfl⟩⟩
  go_wp2_with fail
  go_ret
  exact ⟨rfl, pw_below_drewN HB.out _⟩
set_option maxHeartbeats 3200000 in
set_option maxRecDepth 100000 in
theorem disk27_calls (w : World) : Calls Try.prog 27 #[] w fun e w' => ∃ g b, e = .returned (.pointer (some ⟨g, 0, none⟩)) ∧ Dsk w' w.heap.size g b 0 0 (.map []) (snapF none none) ∧ Below w.heap.size w w' := by
  have hF : snapF none none = fun _ => none := by
    funext k
    unfold snapF
    split
    · rfl
    · split <;> rfl
  go_enter Try.func27, Try.ntmps27
  go_wp2_with fail
  refine (new_nil w).mono ?_
  rintro e w1 ⟨g, b, rfl, hgw, hbw, hb1, hg1, hbel⟩
  have HD : Aside0 (Dsk w1 w.heap.size g b 0 0 (.map []) (snapF none none)) := ⟨by rw [hF]; exact ⟨hgw, hbw, (by rintro rfl; rw [hb1] at hg1; cases hg1), hg1, Files_empty hb1, fun _ _ => rfl, fun nm s l e => (by cases e), fun nm nm' f e1 e2 => (by rw [at_none] at e1; cases pe_inj e1), fun nm e => absurd rfl e, Nat.zero_le _⟩⟩
  have HB := Aside0.mk hbel
  clear hgw hbw hb1 hg1 hbel
  go_wp2_with fail
  refine (V.lecternlaw19_num.calls _ _ _ rfl).mono ?_
  rintro e w' ⟨rfl, ⟨n4, rfl⟩⟩
  go_wp2_with fail
  go_ret
  exact ⟨g, b, rfl, HD.out.drewN n4, pw_below_drewN HB.out n4⟩
set_option maxHeartbeats 3200000 in
set_option maxRecDepth 100000 in
theorem wakes34 (w : World) : Calls Try.prog 34 #[] w fun e w' => e = .returned (.bool true) ∧ Below w.heap.size w w' := by
  go_enter Try.func34, Try.ntmps34
  go_wp2_with fail
  refine (disk27_calls w).mono ?_
  rintro e w1 ⟨g, b, rfl, hD1, hb1⟩
  have HD1 := Aside0.mk hD1
  have HB1 := Aside0.mk hb1
  clear hD1 hb1
  go_wp2_with fail
  refine (open_calls HD1.out ⟨fun x e => by cases e⟩ ⟨fun x e => by cases e⟩).mono ?_
  rintro e w2 ⟨s, rfl, hs2, hD2, hst2, hb2⟩
  have HD2 := Aside0.mk hD2
  have HST2 := Aside0.mk hst2
  have HSW : Aside0 (w.heap.size ≤ s) := ⟨by have := HB1.out.size; omega⟩
  have HB2 := Aside0.mk (below_step HB1.out hb2)
  clear hs2 hD2 hst2 hb2
  go_wp2_with fail
  refine (V.lecternlaw20_num.calls _ _ _ rfl).mono ?_
  rintro e w' ⟨rfl, ⟨n2, rfl⟩⟩
  go_wp2_with fail
  refine (setvote_calls (HD2.out.drewN n2) (by decide) (by decide) (by decide) (show StoreAt (w2.drewN n2) s g _ from HST2.out) HSW.out 3 1 (by decide) (by decide) (by decide) (by decide)).mono ?_
  rintro e w3 ⟨rfl, hst3⟩
  have HST3 := Aside0.mk hst3.store
  have HB3 : Aside0 (Below w.heap.size w w3) := ⟨(pw_below_drewN HB2.out n2).trans hst3.below⟩
  clear hst3
  go_wp2_with fail
  refine (V.lecternlaw20_num.calls _ _ _ rfl).mono ?_
  rintro e w' ⟨rfl, ⟨n3, rfl⟩⟩
  go_wp2_with fail
  refine (vote_calls s g _ _ (show StoreAt (w3.drewN n3) s g _ from HST3.out)).mono ?_
  rintro e w' ⟨rfl, ⟨n4, rfl⟩⟩
  go_wp2_with fail
  go_ret
  exact ⟨rfl, pw_below_drewN HB3.out _⟩
end Go.Proofs.Ytoonepmnlgfikaa.D
