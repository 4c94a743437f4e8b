/- Disk: Read of a file that is there; wakes. -/
import Derived.Test.YtoonepmnlgfikaaDx2
import Derived.Test.YtoonepmnlgfikaaDx41
import Derived.Test.YtoonepmnlgfikaaDx5
import Derived.Test.YtoonepmnlgfikaaDiskWalk4
import Derived.Lib.SlBytesConst
namespace Go.Proofs.Ytoonepmnlgfikaa.D
open Go.RowKit Go.Proofs.YtoonepmnlgfikaaW.PrintWords Go.Proofs.YtoonepmnlgfikaaW.PrintLast Go.Proofs.YtoonepmnlgfikaaW.PrintMore Go.Proofs.Ytoonepmnlgfikaa.Base Go.Maps
set_option linter.unusedVariables false
set_option linter.unusedSimpArgs false
set_option maxRecDepth 100000 in
set_option maxHeartbeats 1600000 in
theorem read_hit (g b cnt f : Nat) (v0 : Value) (A1 : Option Addr) (l : List Int) (c1 : Nat) (n : Int) (D : DataW Unit) (name : ByteArray) (hs : name.size ≤ maxLen) (w : World) (h : nameB name = true) (hg : PowAt w g b n) (hm : Files w b cnt D)
    (hp : D.atKey (.string name.data.toList) (pe none) = pe (some f)) (hf : w.heap[f]? = some (.cells #[v0, .slice A1 l.length c1] 82 (0, 0))) (hl : l.length ≤ 140737488355328) (hC : Kd.C (Kd.int .u8) w A1 l.length l) :
    Calls Try.prog 20 #[.pointer (some ⟨g, 0, none⟩), .string name] w fun e w' => ∃ v, e = .returned (.tuple #[v, .int .i64 0]) ∧ Kd.R (Kd.int .u8) 5 w' w.heap.size (fun _ => True) v l ∧ Below w.heap.size w w' := by
  have HG : Aside0 (disk_good.f (3 * name.size + 1) name = some true) := ⟨by rw [good_is name (by unfold maxLen at hs; omega) _ (Nat.le_refl _), h]⟩
  have hu119 := Try.underlying59
  have hu117 := Try.underlying56
  have hu122 := Try.underlying82
  have hlk := look hm name hs hp
  simp only [pv] at hlk
  have c3 : w.cell? ⟨g, 3, none⟩ = some (.map (some b)) := (blk_cell hg 3).trans rfl
  have c1' : w.cell? ⟨g, 1, none⟩ = some (.bool false) := (blk_cell hg 1).trans rfl
  have k1 : w.cell? ⟨f, 1, none⟩ = some (.slice A1 l.length c1) := (blk_cell hf 1).trans rfl
  have HC := Aside0.mk hC
  have HL := Aside0.mk hl
  clear hm hp hg hf hC hl
  go_enter Try.func20, Try.ntmps20
  go_wp2_with fail
  refine (disk_good.calls _ _ _ _ HG.out).mono ?_
  rintro e w' ⟨rfl, ⟨n1, rfl⟩⟩
  go_wp2_with fail
  refine (clone_calls l A1 c1 HL.out _ (Kd.C_drewN HC.out _)).mono ?_
  rintro e w2 ⟨v, rfl, hr, hb⟩
  have HR := Aside0.mk hr
  have HB := Aside0.mk hb
  clear hr hb
  go_wp2_with fail
  go_ret2
  exact ⟨v, rfl, HR.out, below_step (pw_below_drewN (Below.refl _ _) n1) HB.out⟩
def abc : List Int := [97, 98, 99]
theorem C_abc (X : World) (q : Nat) (h : X.heap[q]? = some (.cells #[.int .u8 97, .int .u8 98, .int .u8 99] 5 (3, 4))) : Kd.C (Kd.int .u8) X (some ⟨q, 0, none⟩) abc.length abc :=
  Kd.C_of_reads (enc := Value.int .u8) (d := (0 : Int)) ⟨rfl, by decide, fun _ => ⟨_, rfl, fun j hj => by
    rw [add_plain, cell_of_row X q j _ 5 (3, 4) h]
    match j, hj with
    | 0, _ => rfl
    | 1, _ => rfl
    | 2, _ => rfl⟩⟩
theorem C_abc_alloc (W : World) : Kd.C (Kd.int .u8) (W.alloc (.cells #[.int .u8 97, .int .u8 98, .int .u8 99] 5 (3, 4))) (some ⟨W.heap.size, 0, none⟩) abc.length abc := C_abc _ _ (heap_alloc_new W _)
theorem nameA : nameB ⟨#[97]⟩ = true := by decide +kernel
theorem at_first (f : Nat) (l : List UInt8) : ((DataW.map []).put (.string l) (pe (some f))).atKey (.string l) (pe none) = pe (some f) :=
  atKey_put_same ⟨_, rfl⟩ (by trivial) _ _
theorem at_none (k : Lit) : (DataW.map [] : DataW Unit).atKey k (pe none) = pe none := by
  simp [DataW.atKey]
theorem Files_empty {w : World} {b : Nat} (h : w.heap[b]? = some (.map #[] 0)) : Files w b 0 (.map []) := ⟨#[], 0, h, ⟨by simp, Go.MapKept.stamped_empty 0, by simp⟩, Nat.le_refl _, rfl⟩
theorem eq_abc : lecternref0_EqBytes.f 10 abc abc = some true := by decide +kernel
set_option maxRecDepth 100000 in
set_option maxHeartbeats 1600000 in
theorem wakes_true (w : World) : Calls Try.prog 14 #[] w fun e w' => e = .returned (.bool true) ∧ Below w.heap.size w w' := by
  have hA : Aside0 (nameB ⟨#[97]⟩ = true) := ⟨nameA⟩
  go_enter Try.func14, Try.ntmps14
  go_wp2_with fail
  refine (new_nil w).mono ?_
  rintro e w1 ⟨g, b, rfl, hgw, hbw, hb1, hg1, hbel⟩
  have HG1 := Aside0.mk hg1
  have HB1 := Aside0.mk hb1
  have HBEL := Aside0.mk hbel
  have HGB : Aside0 (b ≠ g) := ⟨by rintro rfl; rw [hb1] at hg1; cases hg1⟩
  clear hg1 hb1 hbel
  go_wp2_with fail
  refine (lecternlaw18_num.calls _ _ _ rfl).mono ?_
  rintro e w' ⟨rfl, ⟨n1, rfl⟩⟩
  have hcv : Sem.run Try.prog (convert 27 27 (.slice (some ⟨w1.heap.size, 0, none⟩) 3 3)) ((w1.drewN n1).alloc (.cells #[.int .u8 97, .int .u8 98, .int .u8 99] 5)) = .ok (.slice (some ⟨w1.heap.size, 0, none⟩) 3 3) ((w1.drewN n1).alloc (.cells #[.int .u8 97, .int .u8 98, .int .u8 99] 5 (3, 4))) :=
    Go.Lib.run_convert_bytes_const (P := Try.prog) (w1.drewN n1) 27 5 #[.int .u8 97, .int .u8 98, .int .u8 99] 3 3 Try.underlying27 Try.underlying5
  go_wp2_with fail
  clear hcv
  have hC2 := C_abc_alloc (w1.drewN n1)
  have hB2 : Below w1.heap.size w1 ((w1.drewN n1).alloc (.cells #[.int .u8 97, .int .u8 98, .int .u8 99] 5 (3, 4))) := below_alloc (pw_below_drewN (Below.refl _ _) n1) _
  have hq : ((w1.drewN n1).alloc (.cells #[.int .u8 97, .int .u8 98, .int .u8 99] 5 (3, 4))).heap[w1.heap.size]? = some (.cells #[.int .u8 97, .int .u8 98, .int .u8 99] 5 (3, 4)) := heap_alloc_new (w1.drewN n1) _
  have hg2 : PowAt ((w1.drewN n1).alloc (.cells #[.int .u8 97, .int .u8 98, .int .u8 99] 5 (3, 4))) g b 0 := (hB2.block g (blk_lt HG1.out)).trans HG1.out
  have hm1 : Files ((w1.drewN n1).alloc (.cells #[.int .u8 97, .int .u8 98, .int .u8 99] 5 (3, 4))) b 0 (.map []) := Files_empty ((hB2.block b (blk_lt HB1.out)).trans HB1.out)
  have hbl : b < w1.heap.size := blk_lt HB1.out
  have hgl : g < w1.heap.size := blk_lt HG1.out
  generalize (w1.drewN n1).alloc (.cells #[.int .u8 97, .int .u8 98, .int .u8 99] 5 (3, 4)) = w2 at *
  refine (append_new g b 0 (by decide) 0 (by decide) (by decide) (.map []) ⟨#[97]⟩ (by decide) abc (some ⟨w1.heap.size, 0, none⟩) 3 (by decide) w2
    (fun W hW => C_abc W _ ((hW w1.heap.size (blk_lt hq) (by omega) (by omega)).trans hq)) nameA hg2 hm1 HGB.out (at_none _) (by decide)).mono ?_
  rintro e w3 ⟨rfl, hg3, f, v, hm3, hf3l, hf3, hr3, hk3, hs3, hbw3⟩
  obtain ⟨A3, c3, rfl, hl3, hC3⟩ := Kd.R_reads hr3
  have HG3 := Aside0.mk hg3
  have HM3 := Aside0.mk hm3
  have HF3 := Aside0.mk hf3
  have HC3 := Aside0.mk hC3
  have HK3 := Aside0.mk hk3
  have HS2 := Aside0.mk hB2
  have HW3 := Aside0.mk hbw3
  clear hbw3
  clear hg3 hm3 hf3 hr3 hC3 hk3 hB2 hC2 hq hg2 hm1 hl3
  go_wp2_with fail
  refine (lecternlaw18_num.calls _ _ _ rfl).mono ?_
  rintro e w' ⟨rfl, ⟨n3, rfl⟩⟩
  go_wp2_with fail
  refine (read_hit g b (0 + 1) f _ A3 abc c3 _ _ ⟨#[97]⟩ (by decide) _ nameA (by exact HG3.out) (by exact HM3.out) (at_first f _) (by exact HF3.out) (by decide) (by exact HC3.out)).mono ?_
  rintro e w4 ⟨v4, rfl, hr4, hb4⟩
  have HR4 := Aside0.mk hr4
  have HB4 := Aside0.mk hb4
  clear hr4 hb4
  go_wp2_with fail
  refine (lecternlaw18_num.calls _ _ _ rfl).mono ?_
  rintro e w' ⟨rfl, ⟨n5, rfl⟩⟩
  have hcv : Sem.run Try.prog (convert 27 27 (.slice (some ⟨w4.heap.size, 0, none⟩) 3 3)) ((w4.drewN n5).alloc (.cells #[.int .u8 97, .int .u8 98, .int .u8 99] 5)) = .ok (.slice (some ⟨w4.heap.size, 0, none⟩) 3 3) ((w4.drewN n5).alloc (.cells #[.int .u8 97, .int .u8 98, .int .u8 99] 5 (3, 4))) :=
    Go.Lib.run_convert_bytes_const (P := Try.prog) (w4.drewN n5) 27 5 #[.int .u8 97, .int .u8 98, .int .u8 99] 3 3 Try.underlying27 Try.underlying5
  go_wp2_with fail
  clear hcv
  have hC6 := C_abc_alloc (w4.drewN n5)
  have hB6 : Below w4.heap.size w4 ((w4.drewN n5).alloc (.cells #[.int .u8 97, .int .u8 98, .int .u8 99] 5 (3, 4))) := below_alloc (pw_below_drewN (Below.refl _ _) n5) _
  generalize (w4.drewN n5).alloc (.cells #[.int .u8 97, .int .u8 98, .int .u8 99] 5 (3, 4)) = w6 at *
  obtain ⟨A4, c4, rfl, hl4, hC4⟩ := Kd.R_reads HR4.out
  refine (lecternref0_EqBytes.calls 10 A4 c4 abc (some ⟨w4.heap.size, 0, none⟩) 3 abc true _ (Kd.C_below hC4 hB6) hl4 hC6 (by decide) eq_abc).mono ?_
  rintro e w' ⟨rfl, hd7⟩
  have HD7 := Aside0.mk hd7
  have HB6 := Aside0.mk hB6
  clear hd7 hB6 hC6 hC4
  go_wp2_with fail
  go_ret
  have b2 : Below w.heap.size w w2 := below_step HBEL.out HS2.out
  have b3 : Below w.heap.size w w3 := b2.trans (HW3.out _ hgw hbw b2.size)
  have b4 : Below w.heap.size w w4 := below_step (pw_below_drewN b3 n3) HB4.out
  exact ⟨rfl, below_step (below_step b4 HB6.out) HD7.out.below⟩
end Go.Proofs.Ytoonepmnlgfikaa.D
