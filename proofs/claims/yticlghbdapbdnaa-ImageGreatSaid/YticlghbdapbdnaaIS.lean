/- Sessions: rows of one's own (Base, ISum). -/
import Derived.Test.YticlghbdapbdnaaOpen
import Derived.Laws.BitsLemmas
import Derived.RowKit
import Derived.ArgAppend
import Derived.Below
import Derived.BigQuiet
import Derived.BigRegion
import Derived.Deep.AppendLies
import Derived.Deep.CutBlock
import Derived.Deep.DeepCutAuto
import Derived.Deep.Draws
import Derived.Deep.LoopGhost
import Derived.Deep.OwnRows
import Derived.Deep.QuietTactic
import Derived.Deep.RegionHeld3
import Derived.Deep.WholeRow
import Derived.KernelRfl
import Derived.Laws.BytesArg
import Derived.Laws.CopyRow
import Derived.Laws.IdiomCopy
import Derived.Laws.MakeOwn
import Derived.Laws.OwnMore
import Derived.Laws.Rows
import Derived.Laws.Slices
import Derived.Lib.AppendStr
import Derived.Lib.ConvBytes
import Derived.Maps.AppendAt
import Derived.OrdersHeld
import Derived.Outline
import Derived.OwnWalk
import Derived.RowKit3
import Derived.Tactics
import Derived.Test.YticlghbdapbdnaaProg
import Derived.Test.YticlghbdapbdnaaWLast
import Derived.Test.YticlghbdapbdnaaWMore
import Derived.Test.YticlghbdapbdnaaWTab
import Derived.Test.YticlghbdapbdnaaWWords
import Derived.WalkKit
import Derived.WalkLawsBesides
import Derived.WideLaws
/-! Base -/
namespace Go.Proofs.Yticlghbdapbdnaa.Base
open Go.RowKit

theorem wrap_u64 (n : Int) : IntKind.u64.wrap n = n % 18446744073709551616 := by simp [IntKind.wrap, IntKind.bits, IntKind.signed]
theorem wrap_u64_in (n : Int) (h0 : 0 ≤ n) (h1 : n < 18446744073709551616) : IntKind.u64.wrap n = n := by rw [wrap_u64]; omega
theorem wrap64_in (n : Int) (h : -9223372036854775808 ≤ n) (h1 : n ≤ 9223372036854775807) : wrap64 n = n := by unfold wrap64; omega
theorem i64_bounds {n : Int} (h : (Lit.int .i64 n).wf = true) : -9223372036854775808 ≤ n ∧ n ≤ 9223372036854775807 := by
  simpa [Lit.wf, IntKind.min, IntKind.max, IntKind.bits, IntKind.signed] using h
theorem u64_bounds {n : Int} (h : (Lit.int .u64 n).wf = true) : 0 ≤ n ∧ n ≤ 18446744073709551615 := by
  simpa [Lit.wf, IntKind.min, IntKind.max, IntKind.bits, IntKind.signed] using h
theorem u8_bounds {n : Int} (h : (Lit.int .u8 n).wf = true) : 0 ≤ n ∧ n ≤ 255 := by
  simpa [Lit.wf, IntKind.min, IntKind.max, IntKind.bits, IntKind.signed] using h
end Go.Proofs.Yticlghbdapbdnaa.Base
/-! ISum -/
namespace Go.Proofs.Yticlghbdapbdnaa.I
open Go.RowKit Go.Proofs.YticlghbdapbdnaaW.PrintWords Go.Proofs.YticlghbdapbdnaaW.PrintLast Go.Proofs.YticlghbdapbdnaaW.PrintMore Go.Proofs.Yticlghbdapbdnaa.Base
theorem grown_set (w : World) (p : Addr) (v : Value) : w.grownBy (w.setCell p v) (some p.block) :=
  ⟨rfl, rfl, rfl, by simp [World.setCell], fun k _ hk => Below.heap_setCell _ _ _ k (fun e => hk (by rw [e]))⟩
theorem grown_drew (w : World) (row : Option Nat) : w.grownBy w.drew row := ⟨rfl, rfl, rfl, Nat.le_refl _, fun _ _ _ => rfl⟩
theorem C_heap {w W : World} {k : IntKind} {A : Option Addr} {n : Nat} {xs : List Int} (h : Kd.C (Kd.int k) w A n xs) (hk : ∀ i, i < w.heap.size → W.heap[i]? = w.heap[i]?) : Kd.C (Kd.int k) W A n xs := by
  have hr := Kd.reads_of_C (enc := Value.int k) (d := (0 : Int)) h
  refine Kd.C_of_reads (enc := Value.int k) (d := (0 : Int)) ⟨hr.1, hr.2.1, fun hn => ?_⟩
  obtain ⟨ad, e, hc⟩ := hr.2.2 hn
  refine ⟨ad, e, fun j hj => ?_⟩
  have h1 := hc j hj
  have h2 := World.block_lt_of_cell? w _ h1
  unfold World.cell? at h1 ⊢
  rw [hk _ h2]
  exact h1
theorem tk_next (k kq n : Nat) (h1 : k + kq = n) (h2 : k < n) : kq - 1 < kq ∧ k + 1 + (kq - 1) = n := by omega
def zc83 : Array Value := ⟨List.replicate 256 (.int .u32 0)⟩
theorem zv83 (w : World) : Sem.run Try.prog (zeroValue 83) w = .ok (.agg zc83) w := by kernel_rfl
theorem zc83_size : zc83.size = 256 := by kernel_rfl
theorem zc83_ne : ¬ zc83 = #[] := fun e => by have h := zc83_size; rw [e] at h; cases h
open Go.RowKit Go.Proofs.YticlghbdapbdnaaW.PrintWords Go.Proofs.YticlghbdapbdnaaW.PrintLast Go.Proofs.YticlghbdapbdnaaW.PrintMore Go.Proofs.Yticlghbdapbdnaa.Base
set_option linter.unusedVariables false
set_option linter.unusedSimpArgs false
def crc1 (x : Int) : Int := if Go.bits .and .u32 x 1 = 1 then Go.bits .xor .u32 (x / 2) 3988292384 else x / 2
def crcN : Nat → Int → Int
  | 0, x => x
  | n + 1, x => crcN n (crc1 x)
def crcAdd (s b : Int) : Int := crcN 8 (Go.bits .xor .u32 s (b % 4294967296))
def CrcAt (w : World) (g : Nat) (x : Int) : Prop := w.heap[g]? = some (.cells #[.int .u32 x] 81 (0, 0))
set_option maxHeartbeats 1600000 in
set_option maxRecDepth 100000 in
theorem bits_calls (g : Nat) (s : Int) (w : World) (hg : CrcAt w g s) :
    Calls Try.prog 45 #[.pointer (some ⟨g, 0, none⟩)] w fun e w' => e = .returned (.tuple #[]) ∧ CrcAt w' g (crcN 8 s) ∧ w.grownBy w' (some g) := by
  have HG := Aside0.mk hg
  clear hg
  go_enter Try.func45, Try.ntmps45
  go_wp2_with fail
  go_loopg [2] 8 (fun kq v2 w' => ∃ (i : Nat) (x : Int), Aside0 (i + kq = 8) ∧ v2 = .int .i64 i ∧ Aside0 (CrcAt w' g x) ∧ Aside0 (crcN kq x = crcN 8 s) ∧ Aside0 (w.grownBy w' (some g)))
  case atStart => exact ⟨0, s, ⟨rfl⟩, rfl, HG, ⟨rfl⟩, ⟨World.grownBy.refl w _⟩⟩
  case round =>
    obtain ⟨i, x, HIK, rfl, HX, HN, HGR⟩ := hrel
    cases gk with
    | zero =>
      have hi : i = 8 := HIK.out
      subst hi
      have hd : decide (((8 : Nat) : Int) < 8) = false := rfl
      go_wp2_with fail
      go_end0
      exact ⟨rfl, by rw [← HN.out]; exact HX.out, HGR.out⟩
    | succ k =>
      have hik : i < 8 := by have := HIK.out; omega
      have hd : decide ((i : Int) < 8) = true := decide_eq_true (by omega)
      have HW : Aside0 (wrap64 ((i : Int) + 1) = ((i + 1 : Nat) : Int)) := ⟨by rw [wrap64_in _ (by omega) (by omega)]; rfl⟩
      have hk2 : Aside0 (k < k + 1 ∧ i + 1 + k = 8) := ⟨by have := HIK.out; omega⟩
      have c0 : wr.cell? ⟨g, 0, none⟩ = some (.int .u32 x) := (blk_cell HX.out 0).trans rfl
      have f0 := blk_frozen HX.out 0
      clear hik
      by_cases hb : Go.bits .and .u32 x 1 = 1
      · have hbb : (Go.bits .and .u32 x 1 == 1) = true := beq_iff_eq.mpr hb
        have HC1 : Aside0 (crc1 x = Go.bits .xor .u32 (x / 2) 3988292384) := ⟨by unfold crc1; rw [if_pos hb]⟩
        clear hb
        go_wp2_with fail
        go_roundg k
        case measure => exact hk2.out.1
        case rel => exact ⟨i + 1, crc1 x, ⟨hk2.out.2⟩, (by rw [HW.out]), ⟨by rw [HC1.out]; exact blk_set HX.out 0 _⟩, ⟨HN.out⟩, ⟨HGR.out.trans (grown_set wr ⟨g, 0, none⟩ _)⟩⟩
      · have hbb : (Go.bits .and .u32 x 1 == 1) = false := beq_eq_false_iff_ne.mpr hb
        have HC1 : Aside0 (crc1 x = x / 2) := ⟨by unfold crc1; rw [if_neg hb]⟩
        clear hb
        go_wp2_with fail
        go_roundg k
        case measure => exact hk2.out.1
        case rel => exact ⟨i + 1, crc1 x, ⟨hk2.out.2⟩, (by rw [HW.out]), ⟨by rw [HC1.out]; exact blk_set HX.out 0 _⟩, ⟨HN.out⟩, ⟨HGR.out.trans (grown_set wr ⟨g, 0, none⟩ _)⟩⟩
def crcL (s : Int) (l : List Int) : Int := l.foldl crcAdd s
set_option maxHeartbeats 1600000 in
set_option maxRecDepth 100000 in
theorem add_calls (g : Nat) (s : Int) (A : Option Addr) (c : Nat) (l : List Int) (hl : l.length ≤ 1000) (w : World) (hg : CrcAt w g s) (hA : ∀ W : World, (∀ i, i < w.heap.size → i ≠ g → W.heap[i]? = w.heap[i]?) → Kd.C (Kd.int .u8) W A l.length l) :
    Calls Try.prog 34 #[.pointer (some ⟨g, 0, none⟩), .slice A l.length c] w fun e w' => e = .returned (.tuple #[]) ∧ CrcAt w' g (crcL s l) ∧ w.grownBy w' (some g) := by
  have HG := Aside0.mk hg
  have HA := Aside0.mk hA
  have hu148 := Try.underlying81
  clear hg hA
  go_enter Try.func34, Try.ntmps34
  go_wp2_with fail
  go_loopg [5, 8] l.length (fun kq v5 v8 w' => ∃ (i : Nat) (x : Int), Aside0 (i + kq = l.length) ∧ v8 = .int .i64 i ∧ Aside0 (CrcAt w' g x) ∧ Aside0 (crcL x (l.drop i) = crcL s l) ∧ Aside0 (w.grownBy w' (some g)))
  case atStart => exact ⟨0, s, ⟨by omega⟩, rfl, HG, ⟨by rw [List.drop_zero]⟩, ⟨World.grownBy.refl w _⟩⟩
  case round =>
    obtain ⟨i, x, HIK, rfl, HX, HN, HGR⟩ := hrel
    by_cases hlt : i < l.length
    · have clt : decide ((i : Int) < (l.length : Int)) = true := decide_eq_true (by omega)
      have clt2 : decide (i < l.length) = true := decide_eq_true hlt
      have q0 : ((i : Int) < (l.length : Int)) = True := eq_true (by omega)
      have p0 : ((0 : Int) ≤ (i : Int)) = True := eq_true (by omega)
      have HW : Aside0 (wrap64 ((i : Int) + 1) = ((i + 1 : Nat) : Int)) := ⟨by rw [wrap64_in _ (by omega) (by omega)]; rfl⟩
      have HT := Aside0.mk (tk_next _ _ _ HIK.out hlt)
      have hC := HA.out wr (fun j hj hne => HGR.out.block j hj (by simpa using hne))
      have hr := Kd.reads_of_C (enc := Value.int .u8) (d := (0 : Int)) hC
      obtain ⟨ad, e, hc⟩ := hr.2.2 (by omega)
      subst e
      have kb : wr.cell? (ad.add i) = some (.int .u8 (l.getD i 0)) := hc i hlt
      have c0 : wr.cell? ⟨g, 0, none⟩ = some (.int .u32 x) := (blk_cell HX.out 0).trans rfl
      have f0 := blk_frozen HX.out 0
      have hdr : l.drop i = l.getD i 0 :: l.drop (i + 1) := by
        rw [List.drop_eq_getElem_cons hlt, List.getD_eq_getElem?_getD, List.getElem?_eq_getElem hlt]; rfl
      generalize l.getD i 0 = y at *
      have HNX : Aside0 (crcL (crcAdd x y) (l.drop (i + 1)) = crcL s l) := ⟨by rw [← HN.out, hdr]; rfl⟩
      clear hlt hC hr hc hdr
      go_wp2_with fail
      have hx1 : CrcAt (wr.setCell ⟨g, 0, none⟩ (.int .u32 (Go.bits .xor .u32 x (y % 4294967296)))) g (Go.bits .xor .u32 x (y % 4294967296)) := blk_set HX.out 0 _
      refine (bits_calls g _ _ hx1).mono ?_
      rintro e w2 ⟨rfl, hx2, hg2⟩
      have HX2 := Aside0.mk hx2
      have HG2 := Aside0.mk ((HGR.out.trans (grown_set wr ⟨g, 0, none⟩ _)).trans hg2)
      clear hx1 hx2 hg2 c0 f0 kb
      go_wp2_with fail
      go_roundg (gk - 1)
      case measure => exact HT.out.1
      case rel => exact ⟨i + 1, crcAdd x y, ⟨HT.out.2⟩, (by rw [HW.out]), HX2, HNX, HG2⟩
    · have clt : decide ((i : Int) < (l.length : Int)) = false := decide_eq_false (by omega)
      have clt2 : decide (i < l.length) = false := decide_eq_false hlt
      have HI : Aside0 (l.drop i = []) := ⟨List.drop_eq_nil_of_le (by omega)⟩
      clear hlt
      go_wp2_with fail
      go_end0
      exact ⟨rfl, by have := HN.out; rw [HI.out] at this; rw [← this]; exact HX.out, HGR.out⟩
def sumS (l : List Int) : Int := Go.bits .xor .u32 IntKind.u32.max (crcL (Go.bits .xor .u32 IntKind.u32.max 0) l)
set_option maxHeartbeats 1600000 in
set_option maxRecDepth 100000 in
theorem sumS_calls (A : Option Addr) (c : Nat) (l : List Int) (hl : l.length < 300) (w : World) (hA : Kd.C (Kd.int .u8) w A l.length l) :
    Calls Try.prog 21 #[.int .u32 0, .slice A l.length c] w fun e w' => e = .returned (.int .u32 (sumS l)) ∧ Below w.heap.size w w' := by
  have HA := Aside0.mk hA
  have hu148 := Try.underlying81
  have hu146 := Try.underlying79
  have clt : decide ((l.length : Int) < 300) = true := decide_eq_true (by omega)
  have clt2 : decide (l.length < 300) = true := decide_eq_true hl
  have HL := Aside0.mk hl
  clear hA hl
  have hzv := zv83
  have hzn := zc83_ne
  have hzs := zc83_size
  go_enter Try.func21, Try.ntmps21
  go_wp2_with fail
  have hg := heap_alloc_new w (.cells #[.int .u32 (Go.bits .xor .u32 IntKind.u32.max 0)] 81)
  have hB : Below w.heap.size w (w.alloc (.cells #[.int .u32 (Go.bits .xor .u32 IntKind.u32.max 0)] 81)) := below_alloc (Below.refl _ _) _
  obtain ⟨g, hgg⟩ : ∃ g, g = w.heap.size := ⟨_, rfl⟩
  rw [← hgg] at hg ⊢
  generalize w.alloc (.cells #[.int .u32 (Go.bits .xor .u32 IntKind.u32.max 0)] 81) = w1 at *
  have HSZ : Aside0 (w.heap.size ≤ g) := ⟨by omega⟩
  have HB := Aside0.mk hB
  refine (add_calls g _ A c l (by have := HL.out; omega) w1 hg (fun W hW => C_heap HA.out (fun i hi => (hW i (by have := HB.out.size; omega) (by have := HSZ.out; omega)).trans (HB.out.block i hi)))).mono ?_
  rintro e w2 ⟨rfl, hx2, hg2⟩
  have k0 : w2.cell? ⟨g, 0, none⟩ = some (.int .u32 (crcL (Go.bits .xor .u32 IntKind.u32.max 0) l)) := (blk_cell hx2 0).trans rfl
  have HB2 : Aside0 (Below w.heap.size w w2) := ⟨pw_below_grown hB _ hB.size hg2 (fun k hk => by cases hk; omega)⟩
  clear hx2 hg2 hg hB hgg
  go_wp2_with fail
  go_ret
  exact ⟨rfl, HB2.out⟩
open Go.RowKit Go.Proofs.YticlghbdapbdnaaW.PrintWords Go.Proofs.YticlghbdapbdnaaW.PrintLast Go.Proofs.YticlghbdapbdnaaW.PrintMore Go.Proofs.Yticlghbdapbdnaa.Base
set_option linter.unusedVariables false
set_option linter.unusedSimpArgs false
/-- bits at a block of the sum's own type. -/
def CrcAt1 (w : World) (g : Nat) (x : Int) : Prop := w.heap[g]? = some (.cells #[.int .u32 x] 79 (0, 0))
set_option maxHeartbeats 1600000 in
set_option maxRecDepth 100000 in
theorem bits_calls1 (g : Nat) (s : Int) (w : World) (hg : CrcAt1 w g s) :
    Calls Try.prog 45 #[.pointer (some ⟨g, 0, none⟩)] w fun e w' => e = .returned (.tuple #[]) ∧ CrcAt1 w' g (crcN 8 s) ∧ w.grownBy w' (some g) := by
  have HG := Aside0.mk hg
  clear hg
  go_enter Try.func45, Try.ntmps45
  go_wp2_with fail
  go_loopg [2] 8 (fun kq v2 w' => ∃ (i : Nat) (x : Int), Aside0 (i + kq = 8) ∧ v2 = .int .i64 i ∧ Aside0 (CrcAt1 w' g x) ∧ Aside0 (crcN kq x = crcN 8 s) ∧ Aside0 (w.grownBy w' (some g)))
  case atStart => exact ⟨0, s, ⟨rfl⟩, rfl, HG, ⟨rfl⟩, ⟨World.grownBy.refl w _⟩⟩
  case round =>
    obtain ⟨i, x, HIK, rfl, HX, HN, HGR⟩ := hrel
    cases gk with
    | zero =>
      have hi : i = 8 := HIK.out
      subst hi
      have hd : decide (((8 : Nat) : Int) < 8) = false := rfl
      go_wp2_with fail
      go_end0
      exact ⟨rfl, by rw [← HN.out]; exact HX.out, HGR.out⟩
    | succ k =>
      have hik : i < 8 := by have := HIK.out; omega
      have hd : decide ((i : Int) < 8) = true := decide_eq_true (by omega)
      have HW : Aside0 (wrap64 ((i : Int) + 1) = ((i + 1 : Nat) : Int)) := ⟨by rw [wrap64_in _ (by omega) (by omega)]; rfl⟩
      have hk2 : Aside0 (k < k + 1 ∧ i + 1 + k = 8) := ⟨by have := HIK.out; omega⟩
      have c0 : wr.cell? ⟨g, 0, none⟩ = some (.int .u32 x) := (blk_cell HX.out 0).trans rfl
      have f0 := blk_frozen HX.out 0
      clear hik
      by_cases hb : Go.bits .and .u32 x 1 = 1
      · have hbb : (Go.bits .and .u32 x 1 == 1) = true := beq_iff_eq.mpr hb
        have HC1 : Aside0 (crc1 x = Go.bits .xor .u32 (x / 2) 3988292384) := ⟨by unfold crc1; rw [if_pos hb]⟩
        clear hb
        go_wp2_with fail
        go_roundg k
        case measure => exact hk2.out.1
        case rel => exact ⟨i + 1, crc1 x, ⟨hk2.out.2⟩, (by rw [HW.out]), ⟨by rw [HC1.out]; exact blk_set HX.out 0 _⟩, ⟨HN.out⟩, ⟨HGR.out.trans (grown_set wr ⟨g, 0, none⟩ _)⟩⟩
      · have hbb : (Go.bits .and .u32 x 1 == 1) = false := beq_eq_false_iff_ne.mpr hb
        have HC1 : Aside0 (crc1 x = x / 2) := ⟨by unfold crc1; rw [if_neg hb]⟩
        clear hb
        go_wp2_with fail
        go_roundg k
        case measure => exact hk2.out.1
        case rel => exact ⟨i + 1, crc1 x, ⟨hk2.out.2⟩, (by rw [HW.out]), ⟨by rw [HC1.out]; exact blk_set HX.out 0 _⟩, ⟨HN.out⟩, ⟨HGR.out.trans (grown_set wr ⟨g, 0, none⟩ _)⟩⟩
/-- The table's cells: the first i are filled. -/
def tabE (j : Nat) : Int := crcN 8 ((j : Int) % 4294967296)
def tabL (i : Nat) : List Int := (List.range i).map tabE ++ List.replicate (256 - i) (0 : Int)
theorem tabL_len (i : Nat) (h : i ≤ 256) : (tabL i).length = 256 := by
  unfold tabL
  rw [List.length_append, List.length_map, List.length_range, List.length_replicate]
  omega
theorem tabL_step (i : Nat) (h : i < 256) : tabL (i + 1) = (tabL i).set i (tabE i) := by
  unfold tabL
  have e : List.replicate (256 - i) (0 : Int) = 0 :: List.replicate (256 - (i + 1)) 0 := by
    rw [show 256 - i = (256 - (i + 1)) + 1 by omega]; rfl
  rw [List.range_succ, List.map_append, List.append_assoc, e, List.set_append_right _ _ (by rw [List.length_map, List.length_range]; exact Nat.le_refl _), List.length_map, List.length_range, Nat.sub_self]
  rfl
def TabAt (w : World) (b i : Nat) : Prop := w.heap[b]? = some (.cells ((tabL i).map (Value.int .u32)).toArray 83 (0, 0))
theorem add_mid1 (q o j : Nat) : (⟨q, o, none⟩ : Addr).add j = ⟨q, o + j, none⟩ := by unfold Addr.add; split <;> simp_all
def tabC : Array Value := ((tabL 256).map (Value.int .u32)).toArray
theorem tabC_size : tabC.size = 256 := by unfold tabC; rw [List.size_toArray, List.length_map, tabL_len 256 (Nat.le_refl _)]
theorem tabC_one : tabC.all (·.oneCell') = true := by
  unfold tabC
  refine Array.all_eq_true_iff_forall_mem.2 (fun v hv => ?_)
  rw [List.mem_toArray] at hv
  obtain ⟨x, _, rfl⟩ := List.mem_map.1 hv
  rfl
theorem hi83 : (Try.prog.info? 83).map (·.size) = some tabC.size := by
  rw [tabC_size]
  kernel_rfl
theorem TabAt.all {w : World} {b : Nat} (h : TabAt w b 256) : w.heap[b]? = some (.cells tabC 83 (0, 0)) := h
theorem TabAt.zero (w : World) : TabAt (w.alloc (.cells zc83 83)) w.heap.size 0 := by
  have h := heap_alloc_new w (.cells zc83 83)
  have e : zc83 = ((tabL 0).map (Value.int .u32)).toArray := by kernel_rfl
  rw [e] at h
  unfold TabAt
  rw [← e] at h ⊢
  exact h
theorem TabAt.step {w : World} {b i : Nat} (h : TabAt w b i) (hi : i < 256) : TabAt (w.setCell ⟨b, i, none⟩ (.int .u32 (tabE i))) b (i + 1) := by
  have h1 := blk_set h i (.int .u32 (tabE i))
  unfold TabAt
  rw [tabL_step i hi, List.map_set]
  simpa using h1
theorem tabStore {w : World} {b : Nat} (hT : w.heap[b]? = some (.cells tabC 83 (0, 0))) : (storeCells ⟨b, 0, none⟩ tabC.toList).run Try.prog w = .ok () w := by
  have h := run_storeVar_row (P := Try.prog) w b 83 83 tabC tabC hT hi83 rfl tabC_one
  rw [setRow_self w b tabC 83 (0, 0) hT] at h
  have h2 := hi83
  cases hq : Try.prog.info? 83 with
  | none => rw [hq] at h2; cases h2
  | some i =>
    rw [hq] at h2
    have hs : tabC.size = i.size := (Option.some.inj h2).symm
    simpa [storeVar, sizeOf, typeInfo, hq, Value.cells, hs] using h
set_option maxHeartbeats 3200000 in
set_option maxRecDepth 100000 in
theorem table_calls (w : World) :
    Calls Try.prog 35 #[] w fun e w' => e = .returned (.agg tabC) ∧ Below w.heap.size w w' := by
  have hu150 := Try.underlying83
  have hu146 := Try.underlying79
  have hzv := zv83
  have hzn := zc83_ne
  have hzs := zc83_size
  go_enter Try.func35, Try.ntmps35
  go_wp2_with fail
  have HT0 : Aside0 (TabAt (w.alloc (.cells zc83 83)) w.heap.size 0) := ⟨TabAt.zero w⟩
  have HB0 : Aside0 (Below w.heap.size w (w.alloc (.cells zc83 83))) := ⟨below_alloc (Below.refl _ _) _⟩
  obtain ⟨b, hb⟩ : ∃ b, b = w.heap.size := ⟨_, rfl⟩
  rw [← hb] at HT0 ⊢
  have HBW : Aside0 (w.heap.size ≤ b) := ⟨by omega⟩
  clear hb
  generalize w.alloc (.cells zc83 83) = w1 at *
  go_loopg [1, 2, 3] 256 (fun kq v1 v2 v3 w' => ∃ i : Nat, Aside0 (i + kq = 256) ∧ v3 = .int .i64 i ∧ Aside0 (TabAt w' b i) ∧ Aside0 (Below w.heap.size w w'))
  case atStart => exact ⟨0, ⟨rfl⟩, rfl, HT0, HB0⟩
  case round =>
    obtain ⟨i, HIK, rfl, HT, HB⟩ := hrel
    clear HT0 HB0
    by_cases hlt : i < 256
    · have clt : decide ((i : Int) < 256) = true := decide_eq_true (by omega)
      have HLT := Aside0.mk hlt
      have HN := Aside0.mk (tk_next _ _ _ HIK.out hlt)
      have HW : Aside0 (wrap64 ((i : Int) + 1) = ((i + 1 : Nat) : Int)) := ⟨by rw [wrap64_in _ (by omega) (by omega)]; rfl⟩
      have q0 : ((i : Int) < 256) = True := eq_true (by omega)
      have p0 : ((0 : Int) ≤ (i : Int)) = True := eq_true (by omega)
      clear hlt
      have HBA : Aside0 (Below w.heap.size w (wr.alloc (.cells #[.int .u32 ((i : Int) % 4294967296)] 79))) := ⟨below_alloc HB.out _⟩
      have HTA : Aside0 (TabAt (wr.alloc (.cells #[.int .u32 ((i : Int) % 4294967296)] 79)) b i) := ⟨blk_alloc HT.out _⟩
      have hbt : b < wr.heap.size := blk_lt HT.out
      have hws : w.heap.size ≤ wr.heap.size := HB.out.size
      go_wp2_with fail
      have hx1 : CrcAt1 (wr.alloc (.cells #[.int .u32 ((i : Int) % 4294967296)] 79)) wr.heap.size ((i : Int) % 4294967296) := heap_alloc_new wr _
      obtain ⟨g, hg⟩ : ∃ g, g = wr.heap.size := ⟨_, rfl⟩
      rw [← hg] at hx1 ⊢
      have HGB : Aside0 (b ≠ g ∧ w.heap.size ≤ g) := ⟨by omega⟩
      clear hg hbt hws
      generalize wr.alloc (.cells #[.int .u32 ((i : Int) % 4294967296)] 79) = wa at *
      refine (bits_calls1 g _ _ hx1).mono ?_
      rintro e w2 ⟨rfl, hx2, hg2⟩
      have c0 : w2.cell? ⟨g, 0, none⟩ = some (.int .u32 (tabE i)) := (blk_cell hx2 0).trans rfl
      have HT2 : Aside0 (TabAt w2 b i) := ⟨blk_grown HTA.out hg2 (fun e => HGB.out.1 (Option.some.inj e))⟩
      have HB2 : Aside0 (Below w.heap.size w w2) := ⟨pw_below_grown HBA.out _ HBA.out.size hg2 (fun k hk => by cases hk; exact HGB.out.2)⟩
      have HT3 : Aside0 (TabAt (w2.setCell ⟨b, i, none⟩ (.int .u32 (tabE i))) b (i + 1)) := ⟨HT2.out.step HLT.out⟩
      have HB3 : Aside0 (Below w.heap.size w (w2.setCell ⟨b, i, none⟩ (.int .u32 (tabE i)))) := ⟨below_set HB2.out HBW.out⟩
      have hxl : (tabL i)[i]? = some ((tabL i).getD i 0) := by
        rw [List.getD_eq_getElem?_getD, List.getElem?_eq_getElem (by rw [tabL_len i (Nat.le_of_lt HLT.out)]; exact HLT.out)]; rfl
      have cb : w2.cell? ⟨b, i, none⟩ = some (.int .u32 ((tabL i).getD i 0)) := by
        have := blk_cell HT2.out i
        rw [this, List.getElem?_toArray, List.getElem?_map, hxl]; rfl
      have fb := blk_frozen HT2.out i
      have hadd : (⟨b, 0, none⟩ : Addr).add i = ⟨b, i, none⟩ := by rw [add_mid1]; simp
      generalize (tabL i).getD i 0 = y at *
      generalize tabE i = x at *
      clear hx1 hx2 hg2 hxl
      go_wp2_with fail
      go_roundg (gk - 1)
      case measure => exact HN.out.1
      case rel => exact ⟨i + 1, ⟨HN.out.2⟩, (by rw [HW.out]), HT3, HB3⟩
    · have clt : decide ((i : Int) < 256) = false := decide_eq_false (by omega)
      have hi : i = 256 := by have := HIK.out; omega
      subst hi
      clear hlt
      have hT := HT.out.all
      go_wp2_with fail
      refine wp_load_row 83 (.tmp 0) rfl b rfl 83 tabC (0, 0) _ hT hu150 rfl hi83 ?_
      have hst := tabStore hT
      go_wp2_with fail
      refine bodyPost_ret (results_cell_row rfl _ _ b 83 tabC (0, 0) _ rfl hT hu150 rfl hi83) rfl ⟨rfl, HB.out⟩
open Go.RowKit Go.Proofs.YticlghbdapbdnaaW.PrintWords Go.Proofs.YticlghbdapbdnaaW.PrintLast Go.Proofs.YticlghbdapbdnaaW.PrintMore Go.Proofs.Yticlghbdapbdnaa.Base
set_option linter.unusedVariables false
set_option linter.unusedSimpArgs false
/-- One byte by the table. -/
def tabJ (x y : Int) : Nat := (Go.bits .xor .u8 (x % 256) y).toNat
def crcTab (x y : Int) : Int := Go.bits .xor .u32 (x / 256) ((tabL 256).getD (tabJ x y) 0)
def crcTL (x : Int) (l : List Int) : Int := l.foldl crcTab x
theorem tabJ_lt (x y : Int) : tabJ x y < 256 := by
  unfold tabJ
  have h1 := Go.bits_lo_u8 .xor (x % 256) y
  have h2 := Go.bits_hi_u8 .xor (x % 256) y
  omega
theorem tabJ_cast (x y : Int) : ((tabJ x y : Nat) : Int) = Go.bits .xor .u8 (x % 256) y := by
  unfold tabJ
  exact Int.toNat_of_nonneg (Go.bits_lo_u8 .xor (x % 256) y)
theorem tabC_at (j : Nat) (h : j < 256) : tabC[j]? = some (.int .u32 ((tabL 256).getD j 0)) := by
  unfold tabC
  rw [List.getElem?_toArray, List.getElem?_map, List.getD_eq_getElem?_getD, List.getElem?_eq_getElem (by rw [tabL_len 256 (Nat.le_refl _)]; exact h)]
  rfl
theorem tabStoreNew (w : World) : (storeCells ⟨w.heap.size, 0, none⟩ tabC.toList).run Try.prog (w.alloc (.cells zc83 83)) = .ok () (w.alloc (.cells tabC 83)) :=
  run_storeCells_new (P := Try.prog) w 83 zc83 tabC hi83 (by rw [tabC_size]; kernel_rfl) tabC_one
def sumT (l : List Int) : Int := Go.bits .xor .u32 IntKind.u32.max (crcTL (Go.bits .xor .u32 IntKind.u32.max 0) l)
set_option maxHeartbeats 3200000 in
set_option maxRecDepth 100000 in
theorem sumT_calls (A : Option Addr) (c : Nat) (l : List Int) (hl : ¬ l.length < 300) (hl2 : l.length ≤ 2000000) (w : World) (hA : Kd.C (Kd.int .u8) w A l.length l) :
    Calls Try.prog 21 #[.int .u32 0, .slice A l.length c] w fun e w' => e = .returned (.int .u32 (sumT l)) ∧ Below w.heap.size w w' := by
  have HA := Aside0.mk hA
  have hu148 := Try.underlying81
  have hu146 := Try.underlying79
  have hu150 := Try.underlying83
  have clt : decide ((l.length : Int) < 300) = false := decide_eq_false (by omega)
  have clt2 : decide (l.length < 300) = false := decide_eq_false hl
  have HL := Aside0.mk hl2
  clear hA hl hl2
  have hzv := zv83
  have hzn := zc83_ne
  have hzs := zc83_size
  go_enter Try.func21, Try.ntmps21
  go_wp2_with fail
  have hg := heap_alloc_new w (.cells #[.int .u32 (Go.bits .xor .u32 IntKind.u32.max 0)] 81)
  have hB : Below w.heap.size w (w.alloc (.cells #[.int .u32 (Go.bits .xor .u32 IntKind.u32.max 0)] 81)) := below_alloc (Below.refl _ _) _
  obtain ⟨g, hgg⟩ : ∃ g, g = w.heap.size := ⟨_, rfl⟩
  rw [← hgg] at hg ⊢
  generalize w.alloc (.cells #[.int .u32 (Go.bits .xor .u32 IntKind.u32.max 0)] 81) = w1 at *
  have HSZ : Aside0 (w.heap.size ≤ g) := ⟨by omega⟩
  have HB := Aside0.mk hB
  have HG := Aside0.mk hg
  clear hg hB hgg
  refine (table_calls w1).mono ?_
  rintro e w2 ⟨rfl, hB2⟩
  have HB2 : Aside0 (Below w.heap.size w w2) := ⟨below_then HB.out HB.out.size hB2⟩
  have HG2 := Aside0.mk (blk_below HG.out hB2)
  clear hB2
  have hst := tabStoreNew w2
  go_wp2_with fail
  have HB3 : Aside0 (Below w.heap.size w (w2.alloc (.cells tabC 83))) := ⟨below_alloc HB2.out _⟩
  have HG3 := Aside0.mk (blk_alloc HG2.out (.cells tabC 83))
  have HT3 := Aside0.mk (heap_alloc_new w2 (.cells tabC 83))
  obtain ⟨h, hh⟩ : ∃ h, h = w2.heap.size := ⟨_, rfl⟩
  rw [← hh] at HT3 ⊢
  have HHG : Aside0 (h ≠ g) := ⟨by have := blk_lt HG2.out; omega⟩
  clear hst hh
  generalize w2.alloc (.cells tabC 83) = w3 at *
  go_loopg [8, 29] l.length (fun kq v8 v29 w' => ∃ (i : Nat) (x : Int), Aside0 (i + kq = l.length) ∧ v29 = .int .i64 i ∧ Aside0 (w'.heap[g]? = some (.cells #[.int .u32 x] 81 (0, 0))) ∧ Aside0 (w'.heap[h]? = some (.cells tabC 83 (0, 0))) ∧ Aside0 (crcTL x (l.drop i) = crcTL (Go.bits .xor .u32 IntKind.u32.max 0) l) ∧ Aside0 (Below w.heap.size w w'))
  case atStart => exact ⟨0, _, ⟨by omega⟩, rfl, HG3, HT3, ⟨by rw [List.drop_zero]⟩, HB3⟩
  case round =>
    obtain ⟨i, x, HIK, rfl, HX, HT, HN, HB⟩ := hrel
    by_cases hlt : i < l.length
    · have clt : decide ((i : Int) < (l.length : Int)) = true := decide_eq_true (by omega)
      have clt2 : decide (i < l.length) = true := decide_eq_true hlt
      have q0 : ((i : Int) < (l.length : Int)) = True := eq_true (by omega)
      have p0 : ((0 : Int) ≤ (i : Int)) = True := eq_true (by omega)
      have hl2 := HL.out
      have HW : Aside0 (wrap64 ((i : Int) + 1) = ((i + 1 : Nat) : Int)) := ⟨by rw [wrap64_in _ (by omega) (by omega)]; rfl⟩
      have HTK := Aside0.mk (tk_next _ _ _ HIK.out hlt)
      have hC := C_heap HA.out (fun j hj => HB.out.block j hj)
      have hr := Kd.reads_of_C (enc := Value.int .u8) (d := (0 : Int)) hC
      obtain ⟨ad, e, hc⟩ := hr.2.2 (by omega)
      subst e
      have kb : wr.cell? (ad.add i) = some (.int .u8 (l.getD i 0)) := hc i hlt
      have c0 : wr.cell? ⟨g, 0, none⟩ = some (.int .u32 x) := (blk_cell HX.out 0).trans rfl
      have f0 := blk_frozen HX.out 0
      have hdr : l.drop i = l.getD i 0 :: l.drop (i + 1) := by
        rw [List.drop_eq_getElem_cons hlt, List.getD_eq_getElem?_getD, List.getElem?_eq_getElem hlt]; rfl
      generalize l.getD i 0 = y at *
      have HNX : Aside0 (crcTL (crcTab x y) (l.drop (i + 1)) = crcTL (Go.bits .xor .u32 IntKind.u32.max 0) l) := ⟨by rw [← HN.out, hdr]; rfl⟩
      have cj : wr.cell? ⟨h, tabJ x y, none⟩ = some (.int .u32 ((tabL 256).getD (tabJ x y) 0)) := (blk_cell HT.out _).trans (tabC_at _ (tabJ_lt x y))
      have HCT : Aside0 (crcTab x y = Go.bits .xor .u32 (x / 256) ((tabL 256).getD (tabJ x y) 0)) := ⟨rfl⟩
      have hj : Go.bits .xor .u8 (x % 256) y = ((tabJ x y : Nat) : Int) := (tabJ_cast x y).symm
      have hjl := tabJ_lt x y
      have hja : (⟨h, 0, none⟩ : Addr).add (tabJ x y) = ⟨h, tabJ x y, none⟩ := by rw [add_mid1]; simp
      generalize (tabL 256).getD (tabJ x y) 0 = z at *
      generalize tabJ x y = j at *
      have q1 : ((j : Int) < 256) = True := eq_true (by omega)
      have p1 : ((0 : Int) ≤ (j : Int)) = True := eq_true (by omega)
      clear hlt hC hr hc hdr hl2 hjl
      go_wp2_with fail
      go_region
      have HX2 : Aside0 ((wr.setCell ⟨g, 0, none⟩ (.int .u32 (Go.bits .xor .u32 (x / 256) z))).drew.heap[g]? = some (.cells #[.int .u32 (Go.bits .xor .u32 (x / 256) z)] 81 (0, 0))) := ⟨blk_drew (blk_set HX.out 0 _)⟩
      have HT2 : Aside0 ((wr.setCell ⟨g, 0, none⟩ (.int .u32 (Go.bits .xor .u32 (x / 256) z))).drew.heap[h]? = some (.cells tabC 83 (0, 0))) := ⟨blk_drew (blk_far HT.out (p := ⟨g, 0, none⟩) HHG.out _)⟩
      have HB4 : Aside0 (Below w.heap.size w (wr.setCell ⟨g, 0, none⟩ (.int .u32 (Go.bits .xor .u32 (x / 256) z))).drew) := ⟨below_drew (below_set HB.out HSZ.out)⟩
      rw [← HCT.out] at HX2 HT2 HB4 ⊢
      clear HX HT HB kb c0 f0 cj
      go_wp2_with fail
      go_roundg (gk - 1)
      case measure => exact HTK.out.1
      case rel => exact ⟨i + 1, crcTab x y, ⟨HTK.out.2⟩, (by rw [HW.out]), HX2, HT2, HNX, HB4⟩
    · have clt : decide ((i : Int) < (l.length : Int)) = false := decide_eq_false (by omega)
      have clt2 : decide (i < l.length) = false := decide_eq_false hlt
      have HI : Aside0 (l.drop i = []) := ⟨List.drop_eq_nil_of_le (by omega)⟩
      have c0 : wr.cell? ⟨g, 0, none⟩ = some (.int .u32 x) := (blk_cell HX.out 0).trans rfl
      have hfin : crcTL (Go.bits .xor .u32 IntKind.u32.max 0) l = x := by have := HN.out; rw [HI.out] at this; exact this.symm
      clear hlt
      go_wp2_with fail
      go_ret
      exact ⟨by unfold sumT; rw [hfin]; rfl, HB.out⟩
/-- The sum, of any payload. -/
def sumV (l : List Int) : Int := if l.length < 300 then sumS l else sumT l
theorem sum_calls (A : Option Addr) (c : Nat) (l : List Int) (hl2 : l.length ≤ 2000000) (w : World) (hA : Kd.C (Kd.int .u8) w A l.length l) :
    Calls Try.prog 21 #[.int .u32 0, .slice A l.length c] w fun e w' => e = .returned (.int .u32 (sumV l)) ∧ Below w.heap.size w w' := by
  unfold sumV
  by_cases h : l.length < 300
  · rw [if_pos h]
    exact sumS_calls A c l h w hA
  · rw [if_neg h]
    exact sumT_calls A c l h hl2 w hA
end Go.Proofs.Yticlghbdapbdnaa.I
