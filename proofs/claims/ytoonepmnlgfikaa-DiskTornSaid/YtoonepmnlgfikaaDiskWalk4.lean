/- Disk: New of one file without bytes. -/
import Derived.Test.YtoonepmnlgfikaaDx2
import Derived.Test.YtoonepmnlgfikaaDiskWalk3
import Derived.BigQuiet
import Derived.Deep.RegionHeld3
namespace Go.Proofs.Ytoonepmnlgfikaa.D
open Go.RowKit Go.Proofs.YtoonepmnlgfikaaW.PrintWords Go.Proofs.YtoonepmnlgfikaaW.PrintLast Go.Proofs.YtoonepmnlgfikaaW.PrintMore Go.Proofs.Ytoonepmnlgfikaa.Base Go.Maps
set_option linter.unusedVariables false
set_option linter.unusedSimpArgs false
/-- 'm[k] = v' in a region that draws its order. -/
theorem mapUpdate_step {P : Program} {ops : Array Oper} {o : Oper} {a : Act} {W : World} {Kc : Act → World → Prop} {Q : Exit → Act → World → Prop} (hw : Region.wanted o (yielded ops a.tmps) = true) (m x v : Operand) (t : TypeId) (hop : o.op = Op.mapUpdate t m x v)
    (k e : TypeId) (K : Keyed P k) (ht : P.underlying t = some (.map k e)) (R : Value → Option (DataW Unit × List MemPlace)) (b n : Nat) (D : DataW Unit)
    (hm : a.eval m = .map (some b)) (hown : W.ownsMap P k R b n D) (hn : n < maxLen) (key val : Value) (kl : Lit) (hx : a.eval x = key) (hv : a.eval v = val) (hkey : keyOf P k key = some kl)
    (d : DataW Unit) (ps : List MemPlace) (hval : R val = some (d, ps))
    (h : ∀ w', w'.ownsMap P k R b (n + 1) (D.put kl d) → W.grownBy w' (some b) → Kc (a.put o.dst undef) w') :
    if Region.wanted o (yielded ops a.tmps) = true then Oper.wp P o a W Kc Q else Kc (a.put o.dst undef) W := by
  rw [if_pos hw]
  obtain ⟨w', hrun, r1, r2⟩ := hown.update K ht hn hkey hval
  unfold Oper.wp
  simp [execOp, hop, hm, hx, hv, hrun, Result.andThen]
  exact h w' r1 r2
set_option maxRecDepth 100000 in
set_option maxHeartbeats 3200000 in
theorem chosen {α : Nat → World → Prop} (h : ∀ n, ∃ w, α n w) : ∃ W : Nat → World, ∀ n, α n (W n) := ⟨fun n => Classical.choose (h n), fun n => Classical.choose_spec (h n)⟩
set_option maxRecDepth 100000 in
set_option maxHeartbeats 3200000 in
theorem new_bad (s : Nat) (name : ByteArray) (hs : name.size ≤ maxLen) (w : World) (hw : w.heap[s]? = some (.cells #[.string name, .slice none 0 0] 40 (0, 0))) (h : nameB name = false) :
    Calls Try.prog 9 #[.slice (some ⟨s, 0, none⟩) 1 1] w fun e w' => e = .returned (.tuple #[.pointer none, .int .i64 1]) ∧ Below w.heap.size w w' := by
  have hmm := @run_makeMap Try.prog
  have hu119 := Try.underlying59
  have hu117 := Try.underlying56
  have hu90 := Try.underlying40
  have HG : Aside0 (disk_good.f (3 * name.size + 1) name = some false) := ⟨by rw [good_is name (by unfold maxLen at hs; omega) _ (Nat.le_refl _), h]⟩
  have hlt := blk_lt hw
  go_enter Try.func9, Try.ntmps9
  go_wp2_with fail
  have hB : Below w.heap.size w ((w.alloc (.map #[] 0)).alloc (.cells #[.int .i64 0, .bool false, .int .i64 0, .map (some w.heap.size)] 59)) := ((Below.refl _ _).alloc (Nat.le_refl _) _).alloc (by simp) _
  have hw1 := (hB.block s hlt).trans hw
  generalize (w.alloc (.map #[] 0)).alloc (.cells #[.int .i64 0, .bool false, .int .i64 0, .map (some w.heap.size)] 59) = w1 at *
  go_loopg [5, 6, 12] 0 (fun kq v5 v6 v12 w' => v12 = .int .i64 0 ∧ w' = w1)
  case atStart => exact ⟨rfl, rfl⟩
  case round =>
    obtain ⟨rfl, rfl⟩ := hrel
    have k0 : wr.cell? ⟨s, 0, none⟩ = some (.string name) := (blk_cell hw1 0).trans rfl
    have k1 : wr.cell? ⟨s, 1, none⟩ = some (.slice none 0 0) := (blk_cell hw1 1).trans rfl
    go_wp2_with fail
    have hn := heap_alloc_new wr (.cells #[.string name, .slice none 0 0] 40)
    have hB2 : Below w.heap.size w (wr.alloc (.cells #[.string name, .slice none 0 0] 40)) := hB.alloc hB.size _
    generalize wr.alloc (.cells #[.string name, .slice none 0 0] 40) = w2 at *
    generalize wr.heap.size = q at *
    have k0' : w2.cell? ⟨q, 0, none⟩ = some (.string name) := (blk_cell hn 0).trans rfl
    have k1' : w2.cell? ⟨q, 1, none⟩ = some (.slice none 0 0) := (blk_cell hn 1).trans rfl
    have hd : decide ((0 : Int) < 0) = false := rfl
    go_quiet (first | (go_at_call 37; refine (disk_good.calls _ _ _ _ HG.out).mono ?_; rintro e w' ⟨rfl, ⟨nd, rfl⟩⟩; (first | exact ⟨rfl, _, World.drewN_drewN _ _ _⟩ | exact ⟨rfl, _, rfl⟩ | (trace_state; fail))))
    go_wp2_with fail
    go_ret2
    exact ⟨rfl, pw_below_drewN hB2 _⟩
/-- A loop of one round: ahead of it, and behind it. -/
def NewI (w w1 : World) (k : Nat) (v : Value) (w' : World) : Prop := (k = 1 ∧ v = .int .i64 0 ∧ w' = w1) ∨ (k = 0 ∧ v = .int .i64 1 ∧ Below w.heap.size w w')
set_option maxRecDepth 100000 in
set_option maxHeartbeats 3200000 in
theorem new_good (s : Nat) (name : ByteArray) (hs : name.size ≤ maxLen) (w : World) (hw : w.heap[s]? = some (.cells #[.string name, .slice none 0 0] 40 (0, 0))) (h : nameB name = true) :
    Calls Try.prog 9 #[.slice (some ⟨s, 0, none⟩) 1 1] w fun e w' => (∃ g, e = .returned (.tuple #[.pointer (some ⟨g, 0, none⟩), .int .i64 0])) ∧ Below w.heap.size w w' := by
  have hmm := @run_makeMap Try.prog
  have hu119 := Try.underlying59
  have hu117 := Try.underlying56
  have hu90 := Try.underlying40
  have HG : Aside0 (disk_good.f (3 * name.size + 1) name = some true) := ⟨by rw [good_is name (by unfold maxLen at hs; omega) _ (Nat.le_refl _), h]⟩
  have hlt := blk_lt hw
  go_enter Try.func9, Try.ntmps9
  go_wp2_with fail
  have hB : Below w.heap.size w ((w.alloc (.map #[] 0)).alloc (.cells #[.int .i64 0, .bool false, .int .i64 0, .map (some w.heap.size)] 59)) := ((Below.refl _ _).alloc (Nat.le_refl _) _).alloc (by simp) _
  have hw1 := (hB.block s hlt).trans hw
  have hm1 : Files ((w.alloc (.map #[] 0)).alloc (.cells #[.int .i64 0, .bool false, .int .i64 0, .map (some w.heap.size)] 59)) w.heap.size 0 (.map []) := World.ownsMap.alloc (World.ownsMap_made w _ _ _) _
  have hg1 : ((w.alloc (.map #[] 0)).alloc (.cells #[.int .i64 0, .bool false, .int .i64 0, .map (some w.heap.size)] 59)).heap[w.heap.size + 1]? = some (.cells #[.int .i64 0, .bool false, .int .i64 0, .map (some w.heap.size)] 59 (0, 0)) := by
    have h1 := heap_alloc_new (w.alloc (.map #[] 0)) (.cells #[.int .i64 0, .bool false, .int .i64 0, .map (some w.heap.size)] 59)
    simpa using h1
  generalize (w.alloc (.map #[] 0)).alloc (.cells #[.int .i64 0, .bool false, .int .i64 0, .map (some w.heap.size)] 59) = w1 at *
  go_loopg [5, 6, 12] 1 (fun kq v5 v6 v12 w' => NewI w w1 kq v12 w')
  case atStart => exact .inl ⟨rfl, rfl, rfl⟩
  case round =>
   rcases hrel with ⟨rfl, rfl, rfl⟩ | ⟨rfl, rfl, hbb⟩
   rotate_left
   · have HBB := Aside0.mk hbb
     clear hbb
     have hd1 : decide ((1 : Int) < 1) = false := rfl
     have hd2 : decide ((16 : Int) < 1) = false := rfl
     go_wp2_with fail
     go_ret2
     exact ⟨⟨_, rfl⟩, HBB.out⟩
   · skip
     have k0 : wr.cell? ⟨s, 0, none⟩ = some (.string name) := (blk_cell hw1 0).trans rfl
     have k1 : wr.cell? ⟨s, 1, none⟩ = some (.slice none 0 0) := (blk_cell hw1 1).trans rfl
     go_wp2_with fail
     have hn := heap_alloc_new wr (.cells #[.string name, .slice none 0 0] 40)
     have hB2 : Below w.heap.size w (wr.alloc (.cells #[.string name, .slice none 0 0] 40)) := hB.alloc hB.size _
     have hm2 : Files (wr.alloc (.cells #[.string name, .slice none 0 0] 40)) w.heap.size 0 (.map []) := World.ownsMap.alloc hm1 _
     have hg2 := ((World.grownBy_alloc wr (.cells #[.string name, .slice none 0 0] 40) none).block _ (blk_lt hg1) (by simp)).trans hg1
     have hgq : w.heap.size + 1 < wr.heap.size := blk_lt hg1
     clear hm1 hg1 hw hw1 hlt hB
     generalize wr.alloc (.cells #[.string name, .slice none 0 0] 40) = w2 at *
     generalize wr.heap.size = q at *
     have k0' : w2.cell? ⟨q, 0, none⟩ = some (.string name) := (blk_cell hn 0).trans rfl
     have k1' : w2.cell? ⟨q, 1, none⟩ = some (.slice none 0 0) := (blk_cell hn 1).trans rfl
     have k2' : w2.cell? ⟨w.heap.size + 1, 3, none⟩ = some (.map (some w.heap.size)) := (blk_cell hg2 3).trans rfl
     have hd : decide ((0 : Int) < 0) = false := rfl
     go_quiet (first | (go_at_call 37; refine (disk_good.calls _ _ _ _ HG.out).mono ?_; rintro e w' ⟨rfl, ⟨nd, rfl⟩⟩; (first | exact ⟨rfl, _, World.drewN_drewN _ _ _⟩ | exact ⟨rfl, _, rfl⟩)))
     go_upto_region 7 with (fail)
     have hm3 : Files (w2.drewN nq) w.heap.size 0 (.map []) := Files.of_block hm2 rfl
     have hB3 : Below w.heap.size w (w2.drewN nq) := pw_below_drewN hB2 _
     have hg3 : (w2.drewN nq).heap[w.heap.size + 1]? = some (.cells #[.int .i64 0, .bool false, .int .i64 0, .map (some w.heap.size)] 59 (0, 0)) := hg2
     have hn3 : (w2.drewN nq).heap[q]? = some (.cells #[.string name, .slice none 0 0] 40 (0, 0)) := hn
     clear k0 k1 k0' k1' k2' hm2 hB2 hg2 hn
     generalize w2.drewN nq = w3 at *
     have hbl : w.heap.size < w3.heap.size := World.ownsMap.lt hm3
     have hkey := WideMaps.keyOf_string_mk Try.underlying9 hs
     have k2' : w3.cell? ⟨w.heap.size + 1, 3, none⟩ = some (.map (some w.heap.size)) := (blk_cell hg3 3).trans rfl
     have k0' : w3.cell? ⟨q, 0, none⟩ = some (.string name) := (blk_cell hn3 0).trans rfl
     have k1' : w3.cell? ⟨q, 1, none⟩ = some (.slice none 0 0) := (blk_cell hn3 1).trans rfl
     have hup : ∀ n : Nat, ∃ w5, Sem.run Try.prog (Instr.mapUpdate 57 (.map (some w.heap.size)) (.string name) (.pointer (some ⟨w3.heap.size, 0, none⟩))) ((w3.drewN n).alloc (.cells #[.slice none 0 0, .slice none 0 0] 82)) = .ok () w5 ∧ Below w.heap.size w w5 ∧
         w5.cell? ⟨w.heap.size + 1, 3, none⟩ = some (.map (some w.heap.size)) ∧ w5.cell? ⟨q, 0, none⟩ = some (.string name) ∧ w5.cell? ⟨q, 1, none⟩ = some (.slice none 0 0) := fun n => by
       have hm4 : Files ((w3.drewN n).alloc (.cells #[.slice none 0 0, .slice none 0 0] 82)) w.heap.size 0 (.map []) := World.ownsMap.alloc (Files.of_block hm3 rfl) _
       obtain ⟨w5, hrun5, hm5, hgr5⟩ := World.ownsMap.update hm4 K9 Try.underlying57 (by unfold maxLen; omega) hkey (ptrE_pv (some w3.heap.size))
       have hB4 : Below w3.heap.size w3 ((w3.drewN n).alloc (.cells #[.slice none 0 0, .slice none 0 0] 82)) := below_alloc (pw_below_drewN (Below.refl _ _) n) _
       have e1 := (hgr5.block (w.heap.size + 1) (Nat.lt_of_lt_of_le (blk_lt hg3) hB4.size) (by simp)).trans ((hB4.block _ (blk_lt hg3)).trans hg3)
       have e2 := (hgr5.block q (Nat.lt_of_lt_of_le (blk_lt hn3) hB4.size) (by simp; omega)).trans ((hB4.block _ (blk_lt hn3)).trans hn3)
       exact ⟨w5, hrun5, pw_below_grown (below_step hB3 hB4) _ (below_step hB3 hB4).size hgr5 (fun k hk => by cases hk; exact Nat.le_refl _), (blk_cell e1 3).trans rfl, (blk_cell e2 0).trans rfl, (blk_cell e2 1).trans rfl⟩
     obtain ⟨W5, HUP⟩ := chosen hup
     have hrun5 := fun n => (HUP n).1
     have HBEL := Aside0.mk fun n => (HUP n).2.1
     have c35 := fun n => (HUP n).2.2.1
     have c05 := fun n => (HUP n).2.2.2.1
     have c15 := fun n => (HUP n).2.2.2.2
     clear hm3 hup HUP
     go_region_held3 (fun w' => w'.cell? ⟨w.heap.size + 1, 3, none⟩ = some (.map (some w.heap.size)) ∧ w'.cell? ⟨q, 0, none⟩ = some (.string name) ∧ w'.cell? ⟨q, 1, none⟩ = some (.slice none 0 0)) (go_keep)
         ((go_at_call 38; refine (clone_nil _).mono ?_; rintro e w' ⟨rfl, ⟨n5, rfl⟩⟩))
     go_wp2_with fail
     go_roundg 0
     case measure => omega
     case rel => exact .inr ⟨rfl, rfl, HBEL.out _⟩
end Go.Proofs.Ytoonepmnlgfikaa.D
