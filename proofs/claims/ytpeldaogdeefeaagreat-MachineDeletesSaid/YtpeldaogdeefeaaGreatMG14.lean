/- Sessions: rows of one's own (MShB, MSDone). -/
import Derived.Test.YtpeldaogdeefeaaGreatMG12
import Derived.Test.YtpeldaogdeefeaaGreatMG13
import Derived.Test.YtpeldaogdeefeaaGreatMG3
import Derived.Test.YtpeldaogdeefeaaGreatMx62
import Derived.Test.YtpeldaogdeefeaaGreatMG8
import Derived.Test.YtpeldaogdeefeaaGreatMG7
import Derived.Test.YtpeldaogdeefeaaGreatMBeg
import Derived.StillTailTactics
import Derived.Outline
import Derived.Deep.DrawnRows
import Derived.Test.YtpeldaogdeefeaaGreatMSHand
import Derived.Test.YtpeldaogdeefeaaGreatMSOpen
import Derived.BigRegion
import Derived.ChangeAlike
/-! MShB -/
namespace Go.Proofs.YtpeldaogdeefeaaGreat.M
open Go.Proofs.YtpeldaogdeefeaaGreat.H Go.RowKit Go.Maps Go.Sort Go.Proofs.YtpeldaogdeefeaaGreatW.PrintWords Go.Proofs.YtpeldaogdeefeaaGreatW.PrintLast Go.Proofs.YtpeldaogdeefeaaGreatW.PrintMore Go.Proofs.YtpeldaogdeefeaaGreat.Base
set_option linter.unusedVariables false
set_option linter.unusedSimpArgs false
theorem far3 {w : World} {B U g cnt : Nat} {M : List (Bs × Bs)} {ix : Int} {ss : List S140} (h : Mch w B U g cnt M ix ss) {q : Nat} {c0 c1 c2 : Value} (hq : w.heap[q]? = some (.cells #[c0, c1, c2] 70 (0, 0))) (hU : U ≤ q) (v0 v1 v2 : Value) : Mch (((w.setCell ⟨q, 0, none⟩ v0).setCell ⟨q, 1, none⟩ v1).setCell ⟨q, 2, none⟩ v2) B U g cnt M ix ss :=
  ((h.far hq hU 0 v0).far (blk_put (cs := #[c0, c1, c2]) hq 0 v0 rfl) hU 1 v1).far (blk_put (cs := #[v0, c1, c2]) (blk_put (cs := #[c0, c1, c2]) hq 0 v0 rfl) 1 v1 rfl) hU 2 v2
theorem keep3 (w : World) (q : Nat) (v0 v1 v2 : Value) (i : Nat) (h : i ≠ q) : (((w.setCell ⟨q, 0, none⟩ v0).setCell ⟨q, 1, none⟩ v1).setCell ⟨q, 2, none⟩ v2).heap[i]? = w.heap[i]? :=
  (Below.heap_setCell _ ⟨q, 2, none⟩ _ i h).trans ((Below.heap_setCell _ ⟨q, 1, none⟩ _ i h).trans (Below.heap_setCell _ ⟨q, 0, none⟩ _ i h))
/-- Three stores into each of two boxes. -/
abbrev six (w : World) (q r : Nat) (v0 v1 v2 u0 u1 u2 : Value) : World := (((((w.setCell ⟨q, 0, none⟩ v0).setCell ⟨q, 1, none⟩ v1).setCell ⟨q, 2, none⟩ v2).setCell ⟨r, 0, none⟩ u0).setCell ⟨r, 1, none⟩ u1).setCell ⟨r, 2, none⟩ u2
theorem far3b {w : World} {b g t : Nat} {cs : Array Value} (h : w.heap[b]? = some (.cells cs t (0, 0))) (hne : b ≠ g) (v0 v1 v2 : Value) : (((w.setCell ⟨g, 0, none⟩ v0).setCell ⟨g, 1, none⟩ v1).setCell ⟨g, 2, none⟩ v2).heap[b]? = some (.cells cs t (0, 0)) := (keep3 w g v0 v1 v2 b hne).trans h
theorem R_set3 {α : Type} {d : Kd α} {e : Nat} {w : World} {base : Nat} {ok : Nat → Prop} {v : Value} {xs : List α} (h : Kd.R d e w base ok v xs) {g t : Nat} {c0 c1 c2 : Value} (hb : w.heap[g]? = some (.cells #[c0, c1, c2] t (0, 0))) (ht : ∀ q, q ∈ e :: d.E → q ≠ t) (v0 v1 v2 : Value) : Kd.R d e (((w.setCell ⟨g, 0, none⟩ v0).setCell ⟨g, 1, none⟩ v1).setCell ⟨g, 2, none⟩ v2) base ok v xs :=
  Kd.R_set (Kd.R_set (Kd.R_set h hb ht 0 v0) (blk_put (cs := #[c0, c1, c2]) hb 0 v0 rfl) ht 1 v1) (blk_put (cs := #[v0, c1, c2]) (blk_put (cs := #[c0, c1, c2]) hb 0 v0 rfl) 1 v1 rfl) ht 2 v2
theorem S_set3 {α : Type} {d : Kd α} {e : Nat} {w : World} {base : Nat} {ok : Nat → Prop} {v : Value} {xs : List α} (h : Kd.S d e w base ok v xs) {g t : Nat} {c0 c1 c2 : Value} (hb : w.heap[g]? = some (.cells #[c0, c1, c2] t (0, 0))) (ht : ∀ q, q ∈ e :: d.E → q ≠ t) (v0 v1 v2 : Value) : Kd.S d e (((w.setCell ⟨g, 0, none⟩ v0).setCell ⟨g, 1, none⟩ v1).setCell ⟨g, 2, none⟩ v2) base ok v xs :=
  Kd.S_set (Kd.S_set (Kd.S_set h hb ht 0 v0) (blk_put (cs := #[c0, c1, c2]) hb 0 v0 rfl) ht 1 v1) (blk_put (cs := #[v0, c1, c2]) (blk_put (cs := #[c0, c1, c2]) hb 0 v0 rfl) 1 v1 rfl) ht 2 v2
end Go.Proofs.YtpeldaogdeefeaaGreat.M
/-! MSDone -/
namespace Go.Proofs.YtpeldaogdeefeaaGreat.M
open Go.RowKit Go.Proofs.YtpeldaogdeefeaaGreatW.PrintWords Go.Proofs.YtpeldaogdeefeaaGreatW.PrintLast Go.Proofs.YtpeldaogdeefeaaGreatW.PrintMore
set_option linter.unusedVariables false
set_option linter.unusedSimpArgs false
/-- The box that a reply lies in. -/
structure DoneI (w : World) (k : Nat) (cs : Array Value) (W : World) : Prop where
  mk :: (box : W.heap[k]? = some (.cells cs 70 (0, 0))) (below : Below w.heap.size w W)
theorem DoneI.drewN {w W : World} {k : Nat} {cs : Array Value} (h : DoneI w k cs W) (n : Nat) : DoneI w k cs (W.drewN n) := ⟨blk_drewN h.box n, pw_below_drewN h.below n⟩
theorem DoneI.drew {w W : World} {k : Nat} {cs : Array Value} (h : DoneI w k cs W) : DoneI w k cs W.drew := ⟨blk_drew h.box, below_drew1 h.below⟩
theorem DoneI.step {w W W' : World} {k : Nat} {cs : Array Value} (h : DoneI w k cs W) (hb : Below W.heap.size W W') : DoneI w k cs W' := ⟨blk_below h.box hb, below_step h.below hb⟩
theorem DoneI.start (w : World) (cs : Array Value) (o : Obj) (ho : o = .cells cs 70 (0, 0)) : DoneI w w.heap.size cs (w.alloc o) := ⟨ho ▸ blk_new w o, below_alloc (Below.refl _ _) _⟩
/-- The sessions behind a request. -/
def doneTo (l0 : List S140) (a1 a2 r0 r1 a4 : Int) : List S140 := (l0.map clr).set (placeS l0 a1) (putS (rd_T140 (l0.map clr) (placeS l0 a1 : Int)) a2 r0 r1 a4)
theorem kF_cell {w : World} {B : Nat} {g c n : Nat} {xs : List S140} (h : Kd.R kF 140 w B (fun _ => True) (.slice (some ⟨g, 0, none⟩) n c) xs) (i : Nat) (x : S140) (hx : xs[i]? = some x) (j : Nat) (hj : j < 6) : w.cell? ⟨g, i * 6 + j, none⟩ = (encF x)[j]? ∧ w.frozen? ⟨g, i * 6 + j, none⟩ = false := by
  have hi : i < xs.length := (List.getElem?_eq_some_iff.1 hx).1
  obtain ⟨hn, g', c', cur, e, hb, hh, h2, hcm, hcs, ht⟩ := kF_open h (by omega)
  simp only [Value.slice.injEq, Option.some.injEq, Addr.mk.injEq] at e
  obtain ⟨⟨rfl, _⟩, rfl, rfl⟩ := e
  refine ⟨(blk_cell hh _).trans ?_, blk_frozen hh _⟩
  rw [← Array.getElem?_toList]
  have e1 : ((flatF xs).drop (i * 6)).take 6 = encF x := flatF_at xs i x hx
  rw [← e1, List.getElem?_take_of_lt hj, List.getElem?_drop, ← ht, List.getElem?_take_of_lt (by omega)]
set_option maxHeartbeats 400000 in
set_option maxRecDepth 100000 in
theorem done23 (k : Nat) (A0 : Option Addr) (c0 : Nat) (l0 : List S140) (a1 a2 r0 r1 : Int) (A3 : Option Addr) (c3 : Nat) (l3 : List S53) (a4 : Int) (w : World) (hr0 : Kd.C k140 w A0 l0.length l0) (hc0 : l0.length ≤ c0) (hr3 : Kd.C k53 w A3 l3.length l3) (hc3 : l3.length ≤ c3)
    (hm : session_May.f k l0 = some true) (h2 : 1 ≤ a2 ∧ a2 < 1099511627776) (h4 : 1 ≤ a4 ∧ a4 < 1099511627776) (hrep : session_reply.f r0 r1 l3 = some true) (hs : riseS l0) (hl : l0.length ≤ 8) (hyes : l0.any (fun x => x.f0 == a1) = true) :
    Calls Tryz.prog 91 #[.slice A0 l0.length c0, .int .i64 a1, .int .i64 a2, .agg #[.int .i64 r0, .int .i64 r1, .slice A3 l3.length c3], .int .i64 a4] w fun e w' => ∃ v, e = .returned (.tuple #[v, .int .i64 0]) ∧ Kd.R kF 140 w' w.heap.size (fun _ => True) v (doneTo l0 a1 a2 r0 r1 a4) ∧ Below w.heap.size w w' := by
  have hil := placeS_lt hyes
  obtain ⟨cs, hcs⟩ : ∃ cs : Array Value, cs = #[.int .i64 r0, .int .i64 r1, .slice A3 l3.length c3] := ⟨_, rfl⟩
  have HM : Aside0 (∀ W, DoneI w w.heap.size cs W → Calls Tryz.prog 128 #[.slice A0 l0.length c0] W fun e w' => e = .returned (.bool true) ∧ DoneI w w.heap.size cs w') := ⟨fun W hi => by
    refine (session_May.calls k A0 c0 l0 true W (Kd.C_below hr0 hi.below) hc0 hm).mono ?_
    rintro e w' ⟨rfl, hb'⟩
    exact ⟨rfl, hi.step hb'⟩⟩
  have HN2 : Aside0 (∀ W, DoneI w w.heap.size cs W → Calls Tryz.prog 97 #[.int .i64 a2, .int .i64 1] W fun e w' => e = .returned (.bool true) ∧ DoneI w w.heap.size cs w') := ⟨fun W hi => by
    refine (session_Number.calls a2 1 true W (by rw [number_f, decide_eq_true h2])).mono ?_
    rintro e w' ⟨rfl, ⟨n, rfl⟩⟩
    exact ⟨rfl, hi.drewN _⟩⟩
  have HN4 : Aside0 (∀ W, DoneI w w.heap.size cs W → Calls Tryz.prog 97 #[.int .i64 a4, .int .i64 1] W fun e w' => e = .returned (.bool true) ∧ DoneI w w.heap.size cs w') := ⟨fun W hi => by
    refine (session_Number.calls a4 1 true W (by rw [number_f, decide_eq_true h4])).mono ?_
    rintro e w' ⟨rfl, ⟨n, rfl⟩⟩
    exact ⟨rfl, hi.drewN _⟩⟩
  have HRP : Aside0 (∀ W, DoneI w w.heap.size cs W → Calls Tryz.prog 134 #[.agg #[.int .i64 r0, .int .i64 r1, .slice A3 l3.length c3]] W fun e w' => e = .returned (.bool true) ∧ DoneI w w.heap.size cs w') := ⟨fun W hi => by
    refine (session_reply.calls r0 r1 A3 c3 l3 true W (Kd.C_below hr3 hi.below) hc3 hrep).mono ?_
    rintro e w' ⟨rfl, hb'⟩
    exact ⟨rfl, hi.step hb'⟩⟩
  have HF : Aside0 (∀ W, DoneI w w.heap.size cs W → Calls Tryz.prog 131 #[.slice A0 l0.length c0, .int .i64 a1] W fun e w' => e = .returned (.tuple #[.int .i64 ((placeS l0 a1 : Nat) : Int), .bool true]) ∧ DoneI w w.heap.size cs w') := ⟨fun W hi => by
    refine (find59 A0 c0 l0 a1 W (Kd.C_below hr0 hi.below) hc0 hs hl).mono ?_
    rintro e w' ⟨rfl, hb'⟩
    rw [hyes]
    exact ⟨rfl, hi.step hb'⟩⟩
  have HO : Aside0 (∀ W, DoneI w w.heap.size cs W → Calls Tryz.prog 85 #[.slice A0 l0.length c0] W fun e w' => ∃ g c, e = .returned (.slice (some ⟨g, 0, none⟩) l0.length c) ∧ w.heap.size < g ∧ Kd.R kF 140 w' w.heap.size (fun _ => True) (.slice (some ⟨g, 0, none⟩) l0.length c) (l0.map clr) ∧ DoneI w w.heap.size cs w') := ⟨fun W hi => by
    refine (own_calls A0 c0 l0 W (Kd.C_below hr0 hi.below) hc0 (by omega)).mono ?_
    rintro e w' ⟨v, rfl, hr, hb'⟩
    obtain ⟨ad, c, rfl⟩ := R_slice1 hr (by rw [List.length_map]; omega)
    obtain ⟨g, rfl⟩ := Kd.R_head hr
    rw [List.length_map] at hr ⊢
    exact ⟨g, c, rfl, Nat.lt_of_lt_of_le (blk_lt hi.box) ((Kd.R_bound hr).1 g rfl |>.2.1), Kd.R_lower hr hi.below.size, hi.step hb'⟩⟩
  have HP : Aside0 ((l0.map clr)[placeS l0 a1]? = some (rd_T140 (l0.map clr) (placeS l0 a1 : Int))) := ⟨by rw [rd88_at _ _ (by rw [List.length_map]; exact hil)]; exact List.getElem?_eq_getElem _⟩
  have HY : Aside0 (doneTo l0 a1 a2 r0 r1 a4 = (l0.map clr).set (placeS l0 a1) (putS (rd_T140 (l0.map clr) (placeS l0 a1 : Int)) a2 r0 r1 a4)) := ⟨rfl⟩
  have p0 : (0 : Int) ≤ (placeS l0 a1 : Int) := Int.natCast_nonneg _
  have q0 : (placeS l0 a1 : Int) < (l0.length : Int) := Int.ofNat_lt.2 hil
  have HCS := Aside0.mk hcs
  have HK0 : Aside0 (cs[0]? = some (.int .i64 r0)) := ⟨by rw [hcs]; rfl⟩
  have HK1 : Aside0 (cs[1]? = some (.int .i64 r1)) := ⟨by rw [hcs]; rfl⟩
  have HK2 : Aside0 (cs[2]? = some (.slice A3 l3.length c3)) := ⟨by rw [hcs]; rfl⟩
  have HR3 := Aside0.mk hr3
  generalize doneTo l0 a1 a2 r0 r1 a4 = ys at *
  generalize rd_T140 (l0.map clr) (placeS l0 a1 : Int) = x at *
  generalize placeS l0 a1 = i at *
  clear hr0 hc0 hr3 hc3 hm h2 h4 hrep hs hl hyes hil hcs
  replace p0 := eq_true p0
  replace q0 := eq_true q0
  go_enter Tryz.func91, Tryz.ntmps91
  go_wp2_with (first
    | (go_at_call 128; with_reducible refine (HM.out _ (by repeat (first | exact (Aside0.out ‹Aside0 (DoneI w w.heap.size cs _)›) | apply DoneI.drewN | apply DoneI.drew | exact DoneI.start _ _ _ (by rw [HCS.out])))).mono ?_; rintro e w1 ⟨rfl, hi⟩; have HI1 := Aside0.mk hi; clear hi; have c1_0 : w1.cell? ⟨w.heap.size, 0, none⟩ = some (.int .i64 r0) := (blk_cell HI1.out.box 0).trans HK0.out; have c1_1 : w1.cell? ⟨w.heap.size, 1, none⟩ = some (.int .i64 r1) := (blk_cell HI1.out.box 1).trans HK1.out; have c1_2 : w1.cell? ⟨w.heap.size, 2, none⟩ = some (.slice A3 l3.length c3) := (blk_cell HI1.out.box 2).trans HK2.out; have f1_2 := blk_frozen HI1.out.box 2)
    | (go_at_call 97; with_reducible refine (HN2.out _ (by repeat (first | exact (Aside0.out ‹Aside0 (DoneI w w.heap.size cs _)›) | apply DoneI.drewN | apply DoneI.drew | exact DoneI.start _ _ _ (by rw [HCS.out])))).mono ?_; rintro e w2 ⟨rfl, hi⟩; have HI2 := Aside0.mk hi; clear hi; have c2_0 : w2.cell? ⟨w.heap.size, 0, none⟩ = some (.int .i64 r0) := (blk_cell HI2.out.box 0).trans HK0.out; have c2_1 : w2.cell? ⟨w.heap.size, 1, none⟩ = some (.int .i64 r1) := (blk_cell HI2.out.box 1).trans HK1.out; have c2_2 : w2.cell? ⟨w.heap.size, 2, none⟩ = some (.slice A3 l3.length c3) := (blk_cell HI2.out.box 2).trans HK2.out; have f2_2 := blk_frozen HI2.out.box 2)
    | (go_at_call 97; with_reducible refine (HN4.out _ (by repeat (first | exact (Aside0.out ‹Aside0 (DoneI w w.heap.size cs _)›) | apply DoneI.drewN | apply DoneI.drew | exact DoneI.start _ _ _ (by rw [HCS.out])))).mono ?_; rintro e w3 ⟨rfl, hi⟩; have HI3 := Aside0.mk hi; clear hi; have c3_0 : w3.cell? ⟨w.heap.size, 0, none⟩ = some (.int .i64 r0) := (blk_cell HI3.out.box 0).trans HK0.out; have c3_1 : w3.cell? ⟨w.heap.size, 1, none⟩ = some (.int .i64 r1) := (blk_cell HI3.out.box 1).trans HK1.out; have c3_2 : w3.cell? ⟨w.heap.size, 2, none⟩ = some (.slice A3 l3.length c3) := (blk_cell HI3.out.box 2).trans HK2.out; have f3_2 := blk_frozen HI3.out.box 2)
    | (go_at_call 134; with_reducible refine (HRP.out _ (by repeat (first | exact (Aside0.out ‹Aside0 (DoneI w w.heap.size cs _)›) | apply DoneI.drewN | apply DoneI.drew | exact DoneI.start _ _ _ (by rw [HCS.out])))).mono ?_; rintro e w4 ⟨rfl, hi⟩; have HI4 := Aside0.mk hi; clear hi; have c4_0 : w4.cell? ⟨w.heap.size, 0, none⟩ = some (.int .i64 r0) := (blk_cell HI4.out.box 0).trans HK0.out; have c4_1 : w4.cell? ⟨w.heap.size, 1, none⟩ = some (.int .i64 r1) := (blk_cell HI4.out.box 1).trans HK1.out; have c4_2 : w4.cell? ⟨w.heap.size, 2, none⟩ = some (.slice A3 l3.length c3) := (blk_cell HI4.out.box 2).trans HK2.out; have f4_2 := blk_frozen HI4.out.box 2)
    | (go_at_call 131; with_reducible refine (HF.out _ (by repeat (first | exact (Aside0.out ‹Aside0 (DoneI w w.heap.size cs _)›) | apply DoneI.drewN | apply DoneI.drew | exact DoneI.start _ _ _ (by rw [HCS.out])))).mono ?_; rintro e w5 ⟨rfl, hi⟩; have HI5 := Aside0.mk hi; clear hi; have c5_0 : w5.cell? ⟨w.heap.size, 0, none⟩ = some (.int .i64 r0) := (blk_cell HI5.out.box 0).trans HK0.out; have c5_1 : w5.cell? ⟨w.heap.size, 1, none⟩ = some (.int .i64 r1) := (blk_cell HI5.out.box 1).trans HK1.out; have c5_2 : w5.cell? ⟨w.heap.size, 2, none⟩ = some (.slice A3 l3.length c3) := (blk_cell HI5.out.box 2).trans HK2.out; have f5_2 := blk_frozen HI5.out.box 2)
    | (go_at_call 85; with_reducible refine (HO.out _ (by repeat (first | exact (Aside0.out ‹Aside0 (DoneI w w.heap.size cs _)›) | apply DoneI.drewN | apply DoneI.drew | exact DoneI.start _ _ _ (by rw [HCS.out])))).mono ?_; rintro e w6 ⟨g, c, rfl, hg, hr, hi⟩; have HG := Aside0.mk hg; have HR6 := Aside0.mk hr; clear hr hg; have HI6 := Aside0.mk hi; clear hi; have c6_0 : w6.cell? ⟨w.heap.size, 0, none⟩ = some (.int .i64 r0) := (blk_cell HI6.out.box 0).trans HK0.out; have c6_1 : w6.cell? ⟨w.heap.size, 1, none⟩ = some (.int .i64 r1) := (blk_cell HI6.out.box 1).trans HK1.out; have c6_2 : w6.cell? ⟨w.heap.size, 2, none⟩ = some (.slice A3 l3.length c3) := (blk_cell HI6.out.box 2).trans HK2.out; have f6_2 := blk_frozen HI6.out.box 2))
  obtain ⟨W, hW⟩ : ∃ W, W = w6.setCell ⟨w.heap.size, 2, none⟩ (.slice none 0 0) := ⟨_, rfl⟩
  rw [← hW]
  have hbk : W.heap[w.heap.size]? = some (.cells (cs.setIfInBounds 2 (.slice none 0 0)) 70 (0, 0)) := by rw [hW]; exact blk_set HI6.out.box 2 _
  have k0 : W.cell? ⟨w.heap.size, 0, none⟩ = some (.int .i64 r0) := (blk_cell hbk 0).trans (by rw [HCS.out]; rfl)
  have k1 : W.cell? ⟨w.heap.size, 1, none⟩ = some (.int .i64 r1) := (blk_cell hbk 1).trans (by rw [HCS.out]; rfl)
  have k2 : W.cell? ⟨w.heap.size, 2, none⟩ = some (.slice none 0 0) := (blk_cell hbk 2).trans (by rw [HCS.out]; rfl)
  have HBW : Aside0 (Below w.heap.size w W) := ⟨by rw [hW]; exact below_set HI6.out.below (Nat.le_refl _)⟩
  have HRW : Aside0 (Kd.R kF 140 W w.heap.size (fun _ => True) (.slice (some ⟨g, 0, none⟩) l0.length c) (l0.map clr)) := ⟨by
    rw [hW]
    exact Kd.R_mono (Kd.R_far (Kd.R_far1 HR6.out rfl (g := w.heap.size) (by intro h; exact absurd (Option.some.inj h) (Nat.ne_of_lt HG.out))) (fun k hk => hk.2) _) (fun _ h => h.1)⟩
  have g1 : W.cell? ⟨g, i * 6 + 1, none⟩ = some (.int .i64 x.f1) := (kF_cell HRW.out i x HP.out 1 (by omega)).1
  have g2 : W.cell? ⟨g, i * 6 + 2, none⟩ = some (.int .i64 x.f2.f0) := (kF_cell HRW.out i x HP.out 2 (by omega)).1
  have g3 : W.cell? ⟨g, i * 6 + 3, none⟩ = some (.int .i64 x.f2.f1) := (kF_cell HRW.out i x HP.out 3 (by omega)).1
  have g4 : W.cell? ⟨g, i * 6 + 4, none⟩ = some (.slice none 0 0) := (kF_cell HRW.out i x HP.out 4 (by omega)).1
  have g5 : W.cell? ⟨g, i * 6 + 5, none⟩ = some (.int .i64 x.f3) := (kF_cell HRW.out i x HP.out 5 (by omega)).1
  have q1 : W.frozen? ⟨g, i * 6 + 1, none⟩ = false := (kF_cell HRW.out i x HP.out 1 (by omega)).2
  have q2 : W.frozen? ⟨g, i * 6 + 2, none⟩ = false := (kF_cell HRW.out i x HP.out 2 (by omega)).2
  have q3 : W.frozen? ⟨g, i * 6 + 3, none⟩ = false := (kF_cell HRW.out i x HP.out 3 (by omega)).2
  have q4 : W.frozen? ⟨g, i * 6 + 4, none⟩ = false := (kF_cell HRW.out i x HP.out 4 (by omega)).2
  have q5 : W.frozen? ⟨g, i * 6 + 5, none⟩ = false := (kF_cell HRW.out i x HP.out 5 (by omega)).2
  clear c1_0 c1_1 c1_2 c2_0 c2_1 c2_2 c3_0 c3_1 c3_2 c4_0 c4_1 c4_2 c5_0 c5_1 c5_2 c6_0 c6_1 c6_2 f1_2 f2_2 f3_2 f4_2 f5_2 f6_2 hW hbk
  have hne : (w.heap.size = g) = False := eq_false (Nat.ne_of_lt HG.out)
  have hne' : (g = w.heap.size) = False := eq_false (Nat.ne_of_gt HG.out)
  have HR5 := Aside0.mk (kF_put HRW.out i x HP.out a2 r0 r1 a4 ys HY.out _ rfl)
  have HB5 : Aside0 (Below w.heap.size w (((((W.setCell ⟨g, i * 6 + 1, none⟩ (.int .i64 a2)).setCell ⟨g, i * 6 + 2, none⟩ (.int .i64 r0)).setCell ⟨g, i * 6 + 3, none⟩ (.int .i64 r1)).setCell ⟨g, i * 6 + 4, none⟩ (.slice none 0 0)).setCell ⟨g, i * 6 + 5, none⟩ (.int .i64 a4))) := ⟨below_set (below_set (below_set (below_set (below_set HBW.out (Nat.le_of_lt HG.out)) (Nat.le_of_lt HG.out)) (Nat.le_of_lt HG.out)) (Nat.le_of_lt HG.out)) (Nat.le_of_lt HG.out)⟩
  go_region
  clear hne hne' p0 q0 g1 g2 g3 g4 g5 q1 q2 q3 q4 q5 k0 k1 k2
  obtain ⟨W5, hW5⟩ : ∃ W5, W5 = (((((W.setCell ⟨g, i * 6 + 1, none⟩ (.int .i64 a2)).setCell ⟨g, i * 6 + 2, none⟩ (.int .i64 r0)).setCell ⟨g, i * 6 + 3, none⟩ (.int .i64 r1)).setCell ⟨g, i * 6 + 4, none⟩ (.slice none 0 0)).setCell ⟨g, i * 6 + 5, none⟩ (.int .i64 a4)) := ⟨_, rfl⟩
  rw [← hW5] at HR5 HB5
  rw [show i * 6 + 2 + 1 = i * 6 + 3 from rfl, show i * 6 + 2 + 2 = i * 6 + 4 from rfl, ← hW5]
  clear hW5
  go_wp2_with fail
  go_ret2
  exact ⟨_, rfl, by repeat (first | exact HR5.out | apply Kd.R_drewN | apply Kd.R_drew), by repeat (first | exact HB5.out | apply pw_below_drewN | apply below_drew1)⟩
end Go.Proofs.YtpeldaogdeefeaaGreat.M
