/- DiskSafe: the walk. -/
import Derived.Test.YtoonepmnlgfikaaDSPure
import Derived.BigQuiet
namespace Go.Proofs.Ytoonepmnlgfikaa.D
open Go.ChangeShapes Go.WideShapes Go.RowKit Go.Proofs.YtoonepmnlgfikaaW.PrintWords Go.Proofs.YtoonepmnlgfikaaW.PrintLast Go.Proofs.YtoonepmnlgfikaaW.PrintMore Go.Proofs.Ytoonepmnlgfikaa.Base Go.Proofs.Ytoonepmnlgfikaa.Opening Go.Maps Go.Sort Go.Shelf
set_option linter.unusedVariables false
set_option linter.unusedSimpArgs false
theorem below_le' {B : Nat} {w W W2 : World} (h : Below w.heap.size w W) (k : Below B W W2) (hB : w.heap.size ≤ B) : Below w.heap.size w W2 := h.trans (k.mono hB)
/-- Ahead of a round. -/
structure SafeAt (w1 W : World) (g b kb i : Nat) : Prop where
  disk : ∃ n cnt D F, Dsk W w1.heap.size g b cnt n D F ∧ F nK.data.toList = some (keepB, keepB) ∧ Short F (100 + 10000 * i) ∧ 0 ≤ n ∧ n ≤ 2 + i ∧ cnt ≤ 1 + i
  kept : W.heap[kb]? = some (.cells keepC 5 (86, 87))
  below : Below w1.heap.size w1 W
theorem SafeAt.on {w1 W W' : World} {g b kb i : Nat} (h : SafeAt w1 W g b kb i) (hb : Below W.heap.size W W') : SafeAt w1 W' g b kb i := by
  obtain ⟨⟨n, cnt, D, F, h1, h2, h3, h4, h5, h6⟩, hk, hb1⟩ := h
  exact ⟨⟨n, cnt, D, F, h1.below hb, h2, h3, h4, h5, h6⟩, (hb.block kb (blk_lt hk)).trans hk, below_step hb1 hb⟩
theorem SafeAt.later {w1 W : World} {g b kb i : Nat} (h : SafeAt w1 W g b kb i) : SafeAt w1 W g b kb (i + 1) := by
  obtain ⟨⟨n, cnt, D, F, h1, h2, h3, h4, h5, h6⟩, hk, hb1⟩ := h
  exact ⟨⟨n, cnt, D, F, h1, h2, h3.mono (by omega), h4, by omega, by omega⟩, hk, hb1⟩
theorem safe_next {w1 W W' : World} {g b kb i : Nat} {n' : Int} {cmax : Nat} {F' : Model} (hk : W.heap[kb]? = some (.cells keepC 5 (86, 87))) (hb : Below w1.heap.size w1 W) (hst : Step W w1.heap.size g b n' cmax F' W') (hF : F' nK.data.toList = some (keepB, keepB)) (hsh : Short F' (100 + 10000 * (i + 1))) (h0 : 0 ≤ n') (h1 : n' ≤ 2 + (i + 1 : Nat)) (hc : cmax ≤ 1 + (i + 1)) : SafeAt w1 W' g b kb (i + 1) := by
  obtain ⟨⟨cnt, D, hD, hcnt⟩, hcalm, hbel⟩ := hst
  exact ⟨⟨n', cnt, D, F', hD, hF, hsh, h0, by omega, by omega⟩, (hcalm.kept kb (blk_lt hk) (.inr ⟨keepC, 5, _, hk, by decide, by decide⟩)).trans hk, hb.trans hbel⟩
theorem short_empty (M : Nat) : Short (fun _ => none) M := fun nm s l e => by cases e
theorem off_below {B g : Nat} {w0 W W' : World} (hb : Below B w0 W) (hB : B ≤ g) (hs : B ≤ W.heap.size) (hgr : W.grownBy W' (some g)) : Below B w0 W' := pw_below_grown hb _ hs hgr (fun k hk => by cases hk; exact hB)
/-- The disk, off, in a world W that came of w1. -/
structure OffW (w1 W : World) (g b : Nat) (n : Int) (cnt : Nat) (D : DataW Unit) : Prop where
  off : OffAt W g b n
  files : Files W b cnt D
  below : Below w1.heap.size w1 W
  low : w1.heap.size ≤ g
theorem OffW.drewN {w1 W : World} {g b cnt : Nat} {n : Int} {D : DataW Unit} (h : OffW w1 W g b n cnt D) (m : Nat) : OffW w1 (W.drewN m) g b n cnt D := ⟨h.off, h.files, pw_below_drewN h.below m, h.low⟩
theorem OffW.step {w1 W W' : World} {g b cnt : Nat} {n n' : Int} {D : DataW Unit} (h : OffW w1 W g b n cnt D) (k : OffStep W g b n' cnt D W') : OffW w1 W' g b n' cnt D := ⟨k.off, k.files, off_below h.below h.low h.below.size k.grown, h.low⟩
theorem nK_list : nK.toList = [107, 101, 112, 116] := toList_mk nK
theorem ne_kept {nm : ByteArray} (h : (nm.toList == nK.toList) = false) : nK.data.toList ≠ nm.data.toList := by
  intro e
  have : nm.toList = nK.toList := by rw [toList_mk, toList_mk, e]
  rw [this] at h
  simp at h
section
variable {w : World} {B g b cnt : Nat} {n : Int} {D : DataW Unit} {F : Model}
theorem dsk_append_new (h : Dsk w B g b cnt n D F) (h0 : 0 ≤ n) (h1 : n ≤ 1000000) (hcnt : cnt < 1000) (name : ByteArray) (hs : name.size ≤ maxLen) (l : List Int) (A : Option Addr) (c : Nat) (hl : l.length ≤ 10000) (hA : ArgOk B w A l) (hn : nameB name = true) (hF : F name.data.toList = none) (hlt : Maps.size D < 16) :
    Calls Try.prog 11 #[.pointer (some ⟨g, 0, none⟩), .string name, .slice A l.length c] w fun e w' => e = .returned (.int .i64 0) ∧ Step w B g b (n + 1) (cnt + 1) (F.put name.data.toList (some ([], l))) w' := by
  have hp := h.at_none hF
  refine (append_new g b cnt hcnt n h0 h1 D name hs l A c (by omega) w (fun W hW => hA W (fun i hi hc => hW i hi ?_ ?_)) hn h.pow h.files h.gb hp hlt).mono ?_
  · rintro rfl
    rcases hc with hc | ⟨c, z, hc⟩
    · have := h.lowg; omega
    · have := h.pow
      unfold PowAt at this
      rw [hc] at this
      injection this with this
      injection this with _ this _
      exact absurd this (by decide)
  · rintro rfl
    rcases hc with hc | ⟨c, z, hc⟩
    · have := h.lowb; omega
    · obtain ⟨es, clock, hb, _⟩ := h.files
      rw [hc] at hb
      injection hb with hb
      cases hb
  · rintro e w' ⟨rfl, hg', f, v, hm', hfl, hf', hr', hk', hs', hbel⟩
    have hc := h.calm_of hs' hk'
    have hR : FileR w' B f [] l := ⟨⟨_, v, hf', Kd.R_nil _ _ _ _ _, Kd.R_lower (Kd.R_mono hr' (fun _ _ => trivial)) h.base⟩, Nat.le_trans h.base hfl, by simp, by omega⟩
    have hmore := h.more name.data.toList [] l f hF (by rw [arr_name]; exact hn) hlt hg' hm' hc (fun i c hi => hk' i (blk_lt hi) (h.ne82 hi).1 (h.ne82 hi).2) hfl hR
    exact ⟨rfl, ⟨⟨cnt + 1, _, hmore, Nat.le_refl _⟩, hc, hbel B h.lowg h.lowb h.base⟩⟩
theorem dsk_sync_hit (h : Dsk w B g b cnt n D F) (h0 : 0 ≤ n) (h1 : n ≤ 1000000) (name : ByteArray) (hs : name.size ≤ maxLen) (s q : List Int) (hF : F name.data.toList = some (s, q)) :
    Calls Try.prog 12 #[.pointer (some ⟨g, 0, none⟩), .string name] w fun e w' => e = .returned (.int .i64 0) ∧ Step w B g b (n + 1) cnt (F.put name.data.toList (some (q, q))) w' := by
  have hn := h.good name.data.toList (by rw [hF]; exact Option.some_ne_none _)
  rw [arr_name] at hn
  obtain ⟨f, hp, hR⟩ := h.some_ _ s q hF
  obtain ⟨⟨v0, v1, hf, hr0, hr1⟩, hfB, hls, hll⟩ := hR
  obtain ⟨A1, c1, rfl⟩ := Kd.R_slice hr1
  have hne := h.ne82 hf
  refine (sync_hit g b cnt f v0 A1 q.length c1 n h0 h1 D name hs w hn h.pow h.files h.gb (hp _) hf).mono ?_
  rintro e w' ⟨rfl, hg', hf', hk', hs', hbel⟩
  have hc := h.calm_file hf hfB hs' (fun i h1 h2 h3 h4 => hk' i h1 h2 h4)
  have hR' : FileR w' B f q q := ⟨⟨_, _, hf', hc.row hr1, hc.row hr1⟩, hfB, hll, hll⟩
  have hb' : w'.heap[b]? = w.heap[b]? := hk' b (World.ownsMap.lt h.files) h.gb (Ne.symm hne.2)
  have ht := h.turn name.data.toList s q q q f hF (hp _) hg' hb' hc (fun i c hif hi => hk' i (blk_lt hi) (h.ne82 hi).1 hif) hR'
  exact ⟨rfl, ⟨⟨cnt, _, ht, Nat.le_refl _⟩, hc, hbel B h.lowg hfB h.base⟩⟩
end
set_option maxRecDepth 100000 in
set_option maxHeartbeats 12800000 in
theorem safe_walk0 (A0 : Option Addr) (c0 : Nat) (l0 : List S40) (A1 : Option Addr) (c1 : Nat) (l1 : List S30) (w : World) (hr0 : Kd.C k40 w A0 l0.length l0) (hc0 : l0.length ≤ c0) (hr1 : Kd.C k30 w A1 l1.length l1) (hc1 : l1.length ≤ c1)
    (hs0 : ∀ x ∈ l0, x.f1.length ≤ 140737488351232) (hs1 : ∀ x ∈ l1, x.f4.length ≤ 140737488351232 ∧ x.f5.length ≤ 140737488351232) (hs2 : ∀ x ∈ l1, x.f1.size ≤ 140737488351232 ∧ x.f2.size ≤ 140737488351232) (hl1 : l1.length ≤ 140737488351232) :
    Calls Try.prog 5 #[.agg #[.slice A0 l0.length c0, .slice A1 l1.length c1]] w fun e w' => e = .returned (.bool true) ∧ Below w.heap.size w w' := by
  obtain ⟨b, hb⟩ := heavy_some l0 l1
  have HB := Aside0.mk hb
  have HR0 := Aside0.mk hr0
  have HC0 := Aside0.mk hc0
  have HR1 := Aside0.mk hr1
  have HC1 := Aside0.mk hc1
  have HSM : Aside0 (b = false → ∀ j, j < 40 → j < l1.length → (rd_T30 l1 (j : Int)).f4.length ≤ 10000 ∧ (rd_T30 l1 (j : Int)).f5.length ≤ 10000) := ⟨fun h => light l0 l1 hs0 hs1 (h ▸ hb)⟩
  have HS2 := Aside0.mk hs2
  have hu82 := Try.underlying25
  clear hb hr0 hc0 hr1 hc1 hs1 hs0 hs2
  go_enter Try.func5, Try.ntmps5
  go_wp2_with fail
  have hbx := heap_alloc_new w (.cells #[.slice A0 l0.length c0, .slice A1 l1.length c1] 25)
  have hbl : Below w.heap.size w (w.alloc (.cells #[.slice A0 l0.length c0, .slice A1 l1.length c1] 25)) := below_alloc (Below.refl _ _) _
  have HL := Aside0.mk hbl
  clear hbl
  generalize w.alloc (.cells #[.slice A0 l0.length c0, .slice A1 l1.length c1] 25) = w0 at *
  refine (lecternlaw18_heavy.calls 100 A0 c0 l0 A1 c1 l1 b _ (Kd.C_below HR0.out HL.out) HC0.out (Kd.C_below HR1.out HL.out) HC1.out HB.out).mono ?_
  rintro e w1 ⟨rfl, hbel⟩
  have hbx1 := (hbel.block _ (blk_lt hbx)).trans hbx
  have hp1 : w.heap.size < w1.heap.size := blk_lt hbx1
  have HR1' : Aside0 (Kd.C k30 w1 A1 l1.length l1) := ⟨Kd.C_below (Kd.C_below HR1.out HL.out) hbel⟩
  have HL1 : Aside0 (Below w.heap.size w w1) := ⟨below_step HL.out hbel⟩
  clear hbel hbx HR0 HC0 HR1 HL HB
  cases b with
  | true =>
    go_wp2_with fail
    go_ret
    exact ⟨rfl, HL1.out⟩
  | false =>
    have hbb : (false = true) = False := by simp
    go_wp2_with fail
    refine (new_nil w1).mono ?_
    rintro e w2 ⟨g, b, rfl, hgw, hbw, hb1, hg1, hbel⟩
    have HD2 : Aside0 (Dsk w2 w1.heap.size g b 0 0 (.map []) (fun _ => none)) := ⟨⟨hgw, hbw, (by rintro rfl; rw [hb1] at hg1; cases hg1), hg1, Files_empty hb1, fun _ _ => rfl, fun nm s l e => (by cases e), fun nm nm' f e1 e2 => (by rw [at_none] at e1; cases pe_inj e1), fun nm e => absurd rfl e, Nat.zero_le _⟩⟩
    have HB2 : Aside0 (Below w1.heap.size w1 w2) := ⟨hbel⟩
    clear hgw hbw hb1 hg1 hbel
    go_wp2_with (first | (go_at_call 10; refine (lecternlaw18_num.calls _ _ _ rfl).mono ?_; rintro e w' ⟨rfl, ⟨n1, rfl⟩⟩))
    have hcv : Sem.run Try.prog (convert 27 27 (.slice (some ⟨w2.heap.size, 0, none⟩) 86 86)) ((w2.drewN n1).alloc (.cells #[.int .u8 107, .int .u8 101, .int .u8 112, .int .u8 116, .int .u8 32, .int .u8 102, .int .u8 111, .int .u8 114, .int .u8 32, .int .u8 101, .int .u8 118, .int .u8 101, .int .u8 114, .int .u8 44, .int .u8 32, .int .u8 119, .int .u8 104, .int .u8 97, .int .u8 116, .int .u8 101, .int .u8 118, .int .u8 101, .int .u8 114, .int .u8 32, .int .u8 101, .int .u8 108, .int .u8 115, .int .u8 101, .int .u8 32, .int .u8 116, .int .u8 104, .int .u8 101, .int .u8 114, .int .u8 101, .int .u8 32, .int .u8 105, .int .u8 115, .int .u8 44, .int .u8 32, .int .u8 97, .int .u8 110, .int .u8 100, .int .u8 32, .int .u8 109, .int .u8 111, .int .u8 114, .int .u8 101, .int .u8 32, .int .u8 116, .int .u8 104, .int .u8 97, .int .u8 110, .int .u8 32, .int .u8 111, .int .u8 110, .int .u8 101, .int .u8 32, .int .u8 115, .int .u8 101, .int .u8 99, .int .u8 116, .int .u8 111, .int .u8 114, .int .u8 32, .int .u8 108, .int .u8 111, .int .u8 110, .int .u8 103, .int .u8 44, .int .u8 32, .int .u8 97, .int .u8 115, .int .u8 32, .int .u8 105, .int .u8 116, .int .u8 32, .int .u8 119, .int .u8 97, .int .u8 115, .int .u8 32, .int .u8 115, .int .u8 121, .int .u8 110, .int .u8 99, .int .u8 101, .int .u8 100] 5)) = .ok (.slice (some ⟨w2.heap.size, 0, none⟩) 86 86) ((w2.drewN n1).alloc (.cells #[.int .u8 107, .int .u8 101, .int .u8 112, .int .u8 116, .int .u8 32, .int .u8 102, .int .u8 111, .int .u8 114, .int .u8 32, .int .u8 101, .int .u8 118, .int .u8 101, .int .u8 114, .int .u8 44, .int .u8 32, .int .u8 119, .int .u8 104, .int .u8 97, .int .u8 116, .int .u8 101, .int .u8 118, .int .u8 101, .int .u8 114, .int .u8 32, .int .u8 101, .int .u8 108, .int .u8 115, .int .u8 101, .int .u8 32, .int .u8 116, .int .u8 104, .int .u8 101, .int .u8 114, .int .u8 101, .int .u8 32, .int .u8 105, .int .u8 115, .int .u8 44, .int .u8 32, .int .u8 97, .int .u8 110, .int .u8 100, .int .u8 32, .int .u8 109, .int .u8 111, .int .u8 114, .int .u8 101, .int .u8 32, .int .u8 116, .int .u8 104, .int .u8 97, .int .u8 110, .int .u8 32, .int .u8 111, .int .u8 110, .int .u8 101, .int .u8 32, .int .u8 115, .int .u8 101, .int .u8 99, .int .u8 116, .int .u8 111, .int .u8 114, .int .u8 32, .int .u8 108, .int .u8 111, .int .u8 110, .int .u8 103, .int .u8 44, .int .u8 32, .int .u8 97, .int .u8 115, .int .u8 32, .int .u8 105, .int .u8 116, .int .u8 32, .int .u8 119, .int .u8 97, .int .u8 115, .int .u8 32, .int .u8 115, .int .u8 121, .int .u8 110, .int .u8 99, .int .u8 101, .int .u8 100] 5 (86, 87))) :=
      Go.Lib.run_convert_bytes_const (P := Try.prog) (w2.drewN n1) 27 5 keepC 86 86 Try.underlying27 Try.underlying5
    go_wp2_with fail
    clear hcv
    have hB3 : Below w2.heap.size w2 ((w2.drewN n1).alloc (.cells #[.int .u8 107, .int .u8 101, .int .u8 112, .int .u8 116, .int .u8 32, .int .u8 102, .int .u8 111, .int .u8 114, .int .u8 32, .int .u8 101, .int .u8 118, .int .u8 101, .int .u8 114, .int .u8 44, .int .u8 32, .int .u8 119, .int .u8 104, .int .u8 97, .int .u8 116, .int .u8 101, .int .u8 118, .int .u8 101, .int .u8 114, .int .u8 32, .int .u8 101, .int .u8 108, .int .u8 115, .int .u8 101, .int .u8 32, .int .u8 116, .int .u8 104, .int .u8 101, .int .u8 114, .int .u8 101, .int .u8 32, .int .u8 105, .int .u8 115, .int .u8 44, .int .u8 32, .int .u8 97, .int .u8 110, .int .u8 100, .int .u8 32, .int .u8 109, .int .u8 111, .int .u8 114, .int .u8 101, .int .u8 32, .int .u8 116, .int .u8 104, .int .u8 97, .int .u8 110, .int .u8 32, .int .u8 111, .int .u8 110, .int .u8 101, .int .u8 32, .int .u8 115, .int .u8 101, .int .u8 99, .int .u8 116, .int .u8 111, .int .u8 114, .int .u8 32, .int .u8 108, .int .u8 111, .int .u8 110, .int .u8 103, .int .u8 44, .int .u8 32, .int .u8 97, .int .u8 115, .int .u8 32, .int .u8 105, .int .u8 116, .int .u8 32, .int .u8 119, .int .u8 97, .int .u8 115, .int .u8 32, .int .u8 115, .int .u8 121, .int .u8 110, .int .u8 99, .int .u8 101, .int .u8 100] 5 (86, 87))) := below_alloc (pw_below_drewN (Below.refl _ _) n1) _
    have hq3 : ((w2.drewN n1).alloc (.cells #[.int .u8 107, .int .u8 101, .int .u8 112, .int .u8 116, .int .u8 32, .int .u8 102, .int .u8 111, .int .u8 114, .int .u8 32, .int .u8 101, .int .u8 118, .int .u8 101, .int .u8 114, .int .u8 44, .int .u8 32, .int .u8 119, .int .u8 104, .int .u8 97, .int .u8 116, .int .u8 101, .int .u8 118, .int .u8 101, .int .u8 114, .int .u8 32, .int .u8 101, .int .u8 108, .int .u8 115, .int .u8 101, .int .u8 32, .int .u8 116, .int .u8 104, .int .u8 101, .int .u8 114, .int .u8 101, .int .u8 32, .int .u8 105, .int .u8 115, .int .u8 44, .int .u8 32, .int .u8 97, .int .u8 110, .int .u8 100, .int .u8 32, .int .u8 109, .int .u8 111, .int .u8 114, .int .u8 101, .int .u8 32, .int .u8 116, .int .u8 104, .int .u8 97, .int .u8 110, .int .u8 32, .int .u8 111, .int .u8 110, .int .u8 101, .int .u8 32, .int .u8 115, .int .u8 101, .int .u8 99, .int .u8 116, .int .u8 111, .int .u8 114, .int .u8 32, .int .u8 108, .int .u8 111, .int .u8 110, .int .u8 103, .int .u8 44, .int .u8 32, .int .u8 97, .int .u8 115, .int .u8 32, .int .u8 105, .int .u8 116, .int .u8 32, .int .u8 119, .int .u8 97, .int .u8 115, .int .u8 32, .int .u8 115, .int .u8 121, .int .u8 110, .int .u8 99, .int .u8 101, .int .u8 100] 5 (86, 87))).heap[w2.heap.size]? = some (.cells keepC 5 (86, 87)) := heap_alloc_new (w2.drewN n1) _
    generalize (w2.drewN n1).alloc (.cells #[.int .u8 107, .int .u8 101, .int .u8 112, .int .u8 116, .int .u8 32, .int .u8 102, .int .u8 111, .int .u8 114, .int .u8 32, .int .u8 101, .int .u8 118, .int .u8 101, .int .u8 114, .int .u8 44, .int .u8 32, .int .u8 119, .int .u8 104, .int .u8 97, .int .u8 116, .int .u8 101, .int .u8 118, .int .u8 101, .int .u8 114, .int .u8 32, .int .u8 101, .int .u8 108, .int .u8 115, .int .u8 101, .int .u8 32, .int .u8 116, .int .u8 104, .int .u8 101, .int .u8 114, .int .u8 101, .int .u8 32, .int .u8 105, .int .u8 115, .int .u8 44, .int .u8 32, .int .u8 97, .int .u8 110, .int .u8 100, .int .u8 32, .int .u8 109, .int .u8 111, .int .u8 114, .int .u8 101, .int .u8 32, .int .u8 116, .int .u8 104, .int .u8 97, .int .u8 110, .int .u8 32, .int .u8 111, .int .u8 110, .int .u8 101, .int .u8 32, .int .u8 115, .int .u8 101, .int .u8 99, .int .u8 116, .int .u8 111, .int .u8 114, .int .u8 32, .int .u8 108, .int .u8 111, .int .u8 110, .int .u8 103, .int .u8 44, .int .u8 32, .int .u8 97, .int .u8 115, .int .u8 32, .int .u8 105, .int .u8 116, .int .u8 32, .int .u8 119, .int .u8 97, .int .u8 115, .int .u8 32, .int .u8 115, .int .u8 121, .int .u8 110, .int .u8 99, .int .u8 101, .int .u8 100] 5 (86, 87)) = w3 at *
    obtain ⟨kb, hkb⟩ : ∃ kb, kb = w2.heap.size := ⟨_, rfl⟩
    rw [← hkb] at hq3 ⊢
    have HD3 := Aside0.mk (HD2.out.below hB3)
    have HB3 : Aside0 (Below w1.heap.size w1 w3) := ⟨below_step HB2.out hB3⟩
    have HQ3 := Aside0.mk hq3
    clear hB3 hq3 hkb HD2 HB2
    refine (dsk_append_new HD3.out (by decide) (by decide) (by decide) nK (by decide) keepB (some ⟨kb, 0, none⟩) 86 (by decide) (fun W hW => C_keepB W kb _ ((hW kb (blk_lt HQ3.out) (.inr ⟨_, _, HQ3.out⟩)).trans HQ3.out)) name_k rfl (by decide)).mono ?_
    rintro e w4 ⟨rfl, hst4⟩
    obtain ⟨⟨cn4, D4, hD4, hcn4⟩, hcalm4, hbel4⟩ := hst4
    have HD4 := Aside0.mk hD4
    have HCN4 := Aside0.mk hcn4
    have HB4 : Aside0 (Below w1.heap.size w1 w4) := ⟨HB3.out.trans hbel4⟩
    have HQ4 : Aside0 (w4.heap[kb]? = some (.cells keepC 5 (86, 87))) := ⟨(hcalm4.kept kb (blk_lt HQ3.out) (.inr ⟨keepC, 5, _, HQ3.out, by decide, by decide⟩)).trans HQ3.out⟩
    clear hD4 hcn4 hcalm4 hbel4 HD3 HB3 HQ3
    go_wp2_with fail
    refine (lecternlaw18_num.calls _ _ _ rfl).mono ?_
    rintro e w' ⟨rfl, ⟨n4, rfl⟩⟩
    go_wp2_with fail
    refine (dsk_sync_hit (HD4.out.drewN n4) (by decide) (by decide) nK (by decide) [] keepB (Model.put_same _ _ _)).mono ?_
    rintro e w5 ⟨rfl, hst5⟩
    obtain ⟨⟨cn5, D5, hD5, hcn5⟩, hcalm5, hbel5⟩ := hst5
    have HS5 : Aside0 (SafeAt w1 w5 g b kb 0) := ⟨⟨⟨_, cn5, D5, _, hD5, Model.put_same _ _ _, ((short_empty 100).put (Nat.le_refl _) _ _ (fun s l e => by injection e with e; injection e with e1 e2; subst e1 e2; decide)).put (Nat.le_refl _) _ _ (fun s l e => by injection e with e; injection e with e1 e2; subst e1 e2; decide), by omega, by omega, by have := HCN4.out; omega⟩, (hcalm5.kept kb (blk_lt HQ4.out) (.inr ⟨keepC, 5, _, HQ4.out, by decide, by decide⟩)).trans HQ4.out, (pw_below_drewN HB4.out n4).trans hbel5⟩⟩
    clear hD5 hcn5 hcalm5 hbel5 HD4 HB4 HQ4
    go_wp2_with fail
    refine (lecternlaw18_num.calls _ _ _ rfl).mono ?_
    rintro e w' ⟨rfl, ⟨n5, rfl⟩⟩
    have HS6 : Aside0 (SafeAt w1 (w5.drewN n5) g b kb 0) := ⟨HS5.out.on (pw_below_drewN (Below.refl _ _) n5)⟩
    clear HS5
    generalize w5.drewN n5 = w6 at *
    go_wp2_with fail
    go_loopg [6, 7, 8, 9, 10, 11, 12, 13, 14] 40 (fun kq v6 v7 v8 v9 v10 v11 v12 v13 v14 w' => ∃ i : Nat, Aside0 (i + kq = 40 ∧ i ≤ l1.length) ∧ v6 = .int .i64 i ∧ Aside0 (SafeAt w1 w' g b kb i))
    case atStart => exact ⟨0, ⟨rfl, Nat.zero_le _⟩, rfl, HS6⟩
    case round =>
      obtain ⟨i, HIK, rfl, HSI⟩ := hrel
      have HBXI : Aside0 (wr.heap[w.heap.size]? = some (.cells #[.slice A0 l0.length c0, .slice A1 l1.length c1] 25 (0, 0))) := ⟨(HSI.out.below.block _ hp1).trans hbx1⟩
      have x0 : wr.cell? ⟨w.heap.size, 1, none⟩ = some (.slice A1 l1.length c1) := (blk_cell HBXI.out 1).trans rfl
      by_cases hlt : i < l1.length
      · by_cases h40 : i < 40
        · skip
          have hd1 : decide (i < l1.length) = true := decide_eq_true hlt
          have hd2 : decide ((i : Int) < 40) = true := decide_eq_true (by omega)
          obtain ⟨ad, A4, c4, A5, c5, hA, e0, e1, e2, e3, e4, e5, hc4, hC4, hc5, hC5⟩ := at_T30 (Kd.C_below HR1'.out HSI.out.below) (i : Int) (by omega) (by omega)
          obtain ⟨hn4, hn5⟩ := HSM.out (by trivial) i h40 hlt
          obtain ⟨hs1, hs2⟩ := HS2.out (rd_T30 l1 (i : Int)) (by unfold rd_T30; rw [Int.toNat_natCast]; exact getD_mem hlt)
          generalize hact : rd_T30 l1 (i : Int) = act at *
          obtain ⟨do_, nmA, nmB, n_, bs, ps⟩ := act
          dsimp only at *
          have HC4 := Aside0.mk hC4
          have HC5 := Aside0.mk hC5
          have HN4 := Aside0.mk hn4
          have HN5 := Aside0.mk hn5
          have HK4 := Aside0.mk hc4
          have HK5 := Aside0.mk hc5
          have HSA : Aside0 (nmA.size ≤ maxLen) := ⟨by unfold maxLen; omega⟩
          have HSB : Aside0 (nmB.size ≤ maxLen) := ⟨by unfold maxLen; omega⟩
          rw [Int.toNat_natCast] at e0 e1 e2 e3 e4 e5
          have HW1 : Aside0 (wrap64 ((i : Int) + 1) = ((i + 1 : Nat) : Int)) := ⟨by rw [wrap64_in _ (by omega) (by omega)]; rfl⟩
          have HI40 : Aside0 (i < 40) := ⟨h40⟩
          obtain ⟨g0, hg0⟩ : ∃ g0, g0 = gk - 1 := ⟨_, rfl⟩
          have HGM : Aside0 (g0 < gk ∧ i + 1 + g0 = 40 ∧ i + 1 ≤ l1.length) := ⟨by have := HIK.out; omega⟩
          clear hC4 hC5 hn4 hn5 hc4 hc5 hs1 hs2 hg0
          subst hA
          go_upto_region 13 with (fail)
          have hBa : Below wr.heap.size wr (wr.alloc (.cells #[.int .i64 do_, .string nmA, .string nmB, .int .i64 n_, .slice A4 bs.length c4, .slice A5 ps.length c5] 30)) := below_alloc (Below.refl _ _) _
          have hNa := heap_alloc_new wr (.cells #[.int .i64 do_, .string nmA, .string nmB, .int .i64 n_, .slice A4 bs.length c4, .slice A5 ps.length c5] 30)
          have HSW := Aside0.mk (HSI.out.on hBa)
          have HC4 : Aside0 (Kd.C (Kd.int .u8) (wr.alloc (.cells #[.int .i64 do_, .string nmA, .string nmB, .int .i64 n_, .slice A4 bs.length c4, .slice A5 ps.length c5] 30)) A4 bs.length bs) := ⟨Kd.C_below HC4.out hBa⟩
          have HC5 : Aside0 (Kd.C (Kd.int .i64) (wr.alloc (.cells #[.int .i64 do_, .string nmA, .string nmB, .int .i64 n_, .slice A4 bs.length c4, .slice A5 ps.length c5] 30)) A5 ps.length ps) := ⟨Kd.C_below HC5.out hBa⟩
          generalize wr.alloc (.cells #[.int .i64 do_, .string nmA, .string nmB, .int .i64 n_, .slice A4 bs.length c4, .slice A5 ps.length c5] 30) = wa at *
          generalize wr.heap.size = q at *
          have HNA := Aside0.mk hNa
          have kx0 : wa.cell? ⟨q, 0, none⟩ = some (.int .i64 do_) := (blk_cell hNa 0).trans rfl
          have kx1 : wa.cell? ⟨q, 1, none⟩ = some (.string nmA) := (blk_cell hNa 1).trans rfl
          have kx2 : wa.cell? ⟨q, 2, none⟩ = some (.string nmB) := (blk_cell hNa 2).trans rfl
          have kx3 : wa.cell? ⟨q, 3, none⟩ = some (.int .i64 n_) := (blk_cell hNa 3).trans rfl
          have kx5 : wa.cell? ⟨q, 5, none⟩ = some (.slice A5 ps.length c5) := (blk_cell hNa 5).trans rfl
          have kx4 : wa.cell? ⟨q, 4, none⟩ = some (.slice A4 bs.length c4) := (blk_cell hNa 4).trans rfl
          clear hNa e0 e1 e2 e3 e4 e5 hBa x0 hlt h40
          cases hka : (nmA.toList == nK.toList) with
          | true =>
            rw [nK_list] at hka; have hka' : (nmA.toList == [107, 101, 112, 116]) = true := hka; have hka2 : (nmA.toList = [107, 101, 112, 116]) = True := eq_true (beq_iff_eq.1 hka)
            clear hka
            go_wp2_with fail
            go_roundg g0
            case measure => exact HGM.out.1
            case rel => exact ⟨i + 1, ⟨HGM.out.2.1, HGM.out.2.2⟩, (by rw [HW1.out]), ⟨HSW.out.later⟩⟩
          | false =>
            have HNA2 : Aside0 (nK.data.toList ≠ nmA.data.toList) := ⟨ne_kept hka⟩; rw [nK_list] at hka; have hka' : (nmA.toList == [107, 101, 112, 116]) = false := hka; have hka2 : (nmA.toList = [107, 101, 112, 116]) = False := eq_false (fun e => by rw [e] at hka; exact absurd hka (by decide))
            clear hka
            cases hkb : (nmB.toList == nK.toList) with
            | true =>
              rw [nK_list] at hkb; have hkb' : (nmB.toList == [107, 101, 112, 116]) = true := hkb; have hkb2 : (nmB.toList = [107, 101, 112, 116]) = True := eq_true (beq_iff_eq.1 hkb)
              clear hkb
              go_wp2_with fail
              go_roundg g0
              case measure => exact HGM.out.1
              case rel => exact ⟨i + 1, ⟨HGM.out.2.1, HGM.out.2.2⟩, (by rw [HW1.out]), ⟨HSW.out.later⟩⟩
            | false =>
              have HNB2 : Aside0 (nK.data.toList ≠ nmB.data.toList) := ⟨ne_kept hkb⟩; rw [nK_list] at hkb; have hkb' : (nmB.toList == [107, 101, 112, 116]) = false := hkb; have hkb2 : (nmB.toList = [107, 101, 112, 116]) = False := eq_false (fun e => by rw [e] at hkb; exact absurd hkb (by decide))
              clear hkb
              obtain ⟨r, hr, hwi⟩ := within_is do_
              have HWI := Aside0.mk hwi
              clear hwi
              go_wp2_with fail
              refine (lecternlaw0_Within.calls do_ 11 r _ HWI.out).mono ?_
              rintro e w' ⟨rfl, ⟨n7, rfl⟩⟩
              have HSWB : Aside0 (SafeAt w1 (wa.drewN n7) g b kb i) := ⟨HSW.out.on (pw_below_drewN (Below.refl _ _) n7)⟩
              have HNB : Aside0 ((wa.drewN n7).heap[q]? = some (.cells #[.int .i64 do_, .string nmA, .string nmB, .int .i64 n_, .slice A4 bs.length c4, .slice A5 ps.length c5] 30 (0, 0))) := ⟨HNA.out⟩
              have HC4 : Aside0 (Kd.C (Kd.int .u8) (wa.drewN n7) A4 bs.length bs) := ⟨Kd.C_drewN HC4.out _⟩
              have HC5 : Aside0 (Kd.C (Kd.int .i64) (wa.drewN n7) A5 ps.length ps) := ⟨Kd.C_drewN HC5.out _⟩
              clear kx0 kx1 kx2 kx3 kx4 kx5 HWI HNA HSW HSI HBXI hka' hkb' hka2 hkb2
              generalize wa.drewN n7 = wb at *
              have ky0 : wb.cell? ⟨q, 0, none⟩ = some (.int .i64 do_) := (blk_cell HNB.out 0).trans rfl
              have ky1 : wb.cell? ⟨q, 1, none⟩ = some (.string nmA) := (blk_cell HNB.out 1).trans rfl
              have ky2 : wb.cell? ⟨q, 2, none⟩ = some (.string nmB) := (blk_cell HNB.out 2).trans rfl
              have ky3 : wb.cell? ⟨q, 3, none⟩ = some (.int .i64 n_) := (blk_cell HNB.out 3).trans rfl
              have ky5 : wb.cell? ⟨q, 5, none⟩ = some (.slice A5 ps.length c5) := (blk_cell HNB.out 5).trans rfl
              have ky4 : wb.cell? ⟨q, 4, none⟩ = some (.slice A4 bs.length c4) := (blk_cell HNB.out 4).trans rfl
              obtain ⟨⟨nb, cnb, Db, Fb, hDb, hFb, hShb, hb0, hb1, hbc⟩, hkb2, hbb2⟩ := HSWB.out
              have HDB := Aside0.mk hDb
              have HFB := Aside0.mk hFb
              have HSB2 := Aside0.mk hShb
              have HZ : Aside0 (0 ≤ nb ∧ nb ≤ 2 + i ∧ cnb ≤ 1 + i) := ⟨hb0, hb1, hbc⟩
              have HKB := Aside0.mk hkb2
              have HBB := Aside0.mk hbb2
              clear hDb hFb hShb hb0 hb1 hbc hkb2 hbb2
              rcases (show r = 0 ∨ r = 1 ∨ r = 2 ∨ r = 3 ∨ r = 4 ∨ r = 5 ∨ r = 6 ∨ r = 7 ∨ r = 8 ∨ r = 9 ∨ r = 10 by omega) with rfl | rfl | rfl | rfl | rfl | rfl | rfl | rfl | rfl | rfl | rfl
              · clear hr
                go_upto_region 37 with (fail)
                have KP : Aside0 (∀ W, Below wb.heap.size wb W → W.cell? ⟨q, 1, none⟩ = some (.string nmA) ∧ W.cell? ⟨q, 4, none⟩ = some (.slice A4 bs.length c4)) := ⟨fun W hb => by
                  have h1 := (hb.block q (blk_lt HNB.out)).trans HNB.out
                  exact ⟨(blk_cell h1 1).trans rfl, (blk_cell h1 4).trans rfl⟩⟩
                have KQ : Aside0 (∀ W W' : World, Below wb.heap.size wb W → Calm w1.heap.size W W' → W'.cell? ⟨q, 1, none⟩ = some (.string nmA) ∧ W'.cell? ⟨q, 4, none⟩ = some (.slice A4 bs.length c4)) := ⟨fun W W' hb hcm => by
                  have h1 := (hb.block q (blk_lt HNB.out)).trans HNB.out
                  have h2 := (hcm.kept q (blk_lt h1) (.inr ⟨_, _, _, h1, by decide, by decide⟩)).trans h1
                  exact ⟨(blk_cell h2 1).trans rfl, (blk_cell h2 4).trans rfl⟩⟩
                have H15 : Aside0 (∀ W, Below wb.heap.size wb W → Calls Try.prog 15 #[.slice A4 bs.length c4] W fun e w' => ∃ v, e = .returned v ∧ Kd.R (Kd.int .u8) 5 w' wb.heap.size (fun _ => True) v bs ∧ Below wb.heap.size wb w') := ⟨fun W hb => by
                  refine (lecternref0_CopyBytes.calls 20000 A4 c4 bs bs W (Kd.C_below HC4.out hb) HK4.out (copyBytes_is bs (by have := HN4.out; omega) 20000 (by have := HN4.out; omega))).mono ?_
                  rintro e w' ⟨v, rfl, hr, hb'⟩
                  exact ⟨v, rfl, Kd.R_lower hr hb.size, below_step hb hb'⟩⟩
                have H11 : Aside0 (∀ (W : World) (A : Option Addr) (c : Nat), Below wb.heap.size wb W → Kd.R (Kd.int .u8) 5 W wb.heap.size (fun _ => True) (.slice A bs.length c) bs → Calls Try.prog 11 #[.pointer (some ⟨g, 0, none⟩), .string nmA, .slice A bs.length c] W fun e w' => (∃ e', e = .returned (.int .i64 e')) ∧ SafeAt w1 w' g b kb (i + 1) ∧ Calm w1.heap.size W w') := ⟨fun W A c hb hr => by
                  have hDW := HDB.out.below hb
                  refine (dsk_append hDW HZ.out.1 (by have := HZ.out; have := HI40.out; omega) (by have := HZ.out; have := HI40.out; omega) nmA HSA.out bs A c (HN4.out) (fun s l e => by have := HSB2.out _ s l e; have := HN4.out; have := HI40.out; omega) (ArgOk.of_row hr)).mono ?_
                  rintro e w' ⟨e', F', n', rfl, hn0, hn1, hst, hrl⟩
                  exact ⟨⟨e', rfl⟩, safe_next ((hb.block kb (blk_lt HKB.out)).trans HKB.out) (below_step HBB.out hb) hst (by rw [hrl.keep HNA2.out]; exact HFB.out) ((hrl.short HSB2.out).mono (by have := HN4.out; omega)) hn0 (by have := HZ.out; omega) (by have := HZ.out; omega), hst.calm⟩⟩
                clear ky0 ky1 ky2 ky3 ky4 ky5
                go_region_held3 (fun w' => w'.cell? ⟨q, 1, none⟩ = some (.string nmA) ∧ w'.cell? ⟨q, 4, none⟩ = some (.slice A4 bs.length c4))
                  (first | exact KQ.out _ _ HBV.out HCM.out | exact KP.out _ (by repeat (first | exact Below.refl _ _ | exact (Aside0.out ‹Aside0 (Below wb.heap.size wb _)›) | apply pw_below_drewN | apply below_drew1)))
                  (first
                    | (go_at_call 15; refine (H15.out _ (by repeat (first | exact Below.refl _ _ | apply pw_below_drewN | apply below_drew1))).mono ?_; rintro e w8 ⟨v8, rfl, hr, hb8⟩; obtain ⟨A8, c8, rfl⟩ := Kd.R_slice hr; have HRV := Aside0.mk hr; have HBV := Aside0.mk hb8; clear hr hb8)
                    | (go_at_call 11; refine (H11.out _ A8 c8 HBV.out HRV.out).mono ?_; rintro e w9 ⟨⟨e9, rfl⟩, hs9, hcm⟩; have HS8 := Aside0.mk hs9; have HCM := Aside0.mk hcm; clear hs9 hcm))
                go_wp2_with fail
                go_roundg g0
                case measure => exact HGM.out.1
                case rel => exact ⟨i + 1, ⟨HGM.out.2.1, HGM.out.2.2⟩, (by rw [HW1.out]), HS8⟩
              · clear hr
                go_upto_region 37 with (fail)
                have KP : Aside0 (∀ W, Below wb.heap.size wb W → W.cell? ⟨q, 1, none⟩ = some (.string nmA) ∧ W.cell? ⟨q, 4, none⟩ = some (.slice A4 bs.length c4)) := ⟨fun W hb => by
                  have h1 := (hb.block q (blk_lt HNB.out)).trans HNB.out
                  exact ⟨(blk_cell h1 1).trans rfl, (blk_cell h1 4).trans rfl⟩⟩
                have KQ : Aside0 (∀ W W' : World, Below wb.heap.size wb W → Calm w1.heap.size W W' → W'.cell? ⟨q, 1, none⟩ = some (.string nmA) ∧ W'.cell? ⟨q, 4, none⟩ = some (.slice A4 bs.length c4)) := ⟨fun W W' hb hcm => by
                  have h1 := (hb.block q (blk_lt HNB.out)).trans HNB.out
                  have h2 := (hcm.kept q (blk_lt h1) (.inr ⟨_, _, _, h1, by decide, by decide⟩)).trans h1
                  exact ⟨(blk_cell h2 1).trans rfl, (blk_cell h2 4).trans rfl⟩⟩
                have H15 : Aside0 (∀ W, Below wb.heap.size wb W → Calls Try.prog 15 #[.slice A4 bs.length c4] W fun e w' => ∃ v, e = .returned v ∧ Kd.R (Kd.int .u8) 5 w' wb.heap.size (fun _ => True) v bs ∧ Below wb.heap.size wb w') := ⟨fun W hb => by
                  refine (lecternref0_CopyBytes.calls 20000 A4 c4 bs bs W (Kd.C_below HC4.out hb) HK4.out (copyBytes_is bs (by have := HN4.out; omega) 20000 (by have := HN4.out; omega))).mono ?_
                  rintro e w' ⟨v, rfl, hr, hb'⟩
                  exact ⟨v, rfl, Kd.R_lower hr hb.size, below_step hb hb'⟩⟩
                have H11 : Aside0 (∀ (W : World) (A : Option Addr) (c : Nat), Below wb.heap.size wb W → Kd.R (Kd.int .u8) 5 W wb.heap.size (fun _ => True) (.slice A bs.length c) bs → Calls Try.prog 11 #[.pointer (some ⟨g, 0, none⟩), .string nmA, .slice A bs.length c] W fun e w' => (∃ e', e = .returned (.int .i64 e')) ∧ SafeAt w1 w' g b kb (i + 1) ∧ Calm w1.heap.size W w') := ⟨fun W A c hb hr => by
                  have hDW := HDB.out.below hb
                  refine (dsk_append hDW HZ.out.1 (by have := HZ.out; have := HI40.out; omega) (by have := HZ.out; have := HI40.out; omega) nmA HSA.out bs A c (HN4.out) (fun s l e => by have := HSB2.out _ s l e; have := HN4.out; have := HI40.out; omega) (ArgOk.of_row hr)).mono ?_
                  rintro e w' ⟨e', F', n', rfl, hn0, hn1, hst, hrl⟩
                  exact ⟨⟨e', rfl⟩, safe_next ((hb.block kb (blk_lt HKB.out)).trans HKB.out) (below_step HBB.out hb) hst (by rw [hrl.keep HNA2.out]; exact HFB.out) ((hrl.short HSB2.out).mono (by have := HN4.out; omega)) hn0 (by have := HZ.out; omega) (by have := HZ.out; omega), hst.calm⟩⟩
                clear ky0 ky1 ky2 ky3 ky4 ky5
                go_region_held3 (fun w' => w'.cell? ⟨q, 1, none⟩ = some (.string nmA) ∧ w'.cell? ⟨q, 4, none⟩ = some (.slice A4 bs.length c4))
                  (first | exact KQ.out _ _ HBV.out HCM.out | exact KP.out _ (by repeat (first | exact Below.refl _ _ | exact (Aside0.out ‹Aside0 (Below wb.heap.size wb _)›) | apply pw_below_drewN | apply below_drew1)))
                  (first
                    | (go_at_call 15; refine (H15.out _ (by repeat (first | exact Below.refl _ _ | apply pw_below_drewN | apply below_drew1))).mono ?_; rintro e w8 ⟨v8, rfl, hr, hb8⟩; obtain ⟨A8, c8, rfl⟩ := Kd.R_slice hr; have HRV := Aside0.mk hr; have HBV := Aside0.mk hb8; clear hr hb8)
                    | (go_at_call 11; refine (H11.out _ A8 c8 HBV.out HRV.out).mono ?_; rintro e w9 ⟨⟨e9, rfl⟩, hs9, hcm⟩; have HS8 := Aside0.mk hs9; have HCM := Aside0.mk hcm; clear hs9 hcm))
                go_wp2_with fail
                go_roundg g0
                case measure => exact HGM.out.1
                case rel => exact ⟨i + 1, ⟨HGM.out.2.1, HGM.out.2.2⟩, (by rw [HW1.out]), HS8⟩
              · clear hr
                go_upto_region 37 with (fail)
                have KP : Aside0 (∀ W, Below wb.heap.size wb W → W.cell? ⟨q, 1, none⟩ = some (.string nmA) ∧ W.cell? ⟨q, 4, none⟩ = some (.slice A4 bs.length c4)) := ⟨fun W hb => by
                  have h1 := (hb.block q (blk_lt HNB.out)).trans HNB.out
                  exact ⟨(blk_cell h1 1).trans rfl, (blk_cell h1 4).trans rfl⟩⟩
                have KQ : Aside0 (∀ W W' : World, Below wb.heap.size wb W → Calm w1.heap.size W W' → W'.cell? ⟨q, 1, none⟩ = some (.string nmA) ∧ W'.cell? ⟨q, 4, none⟩ = some (.slice A4 bs.length c4)) := ⟨fun W W' hb hcm => by
                  have h1 := (hb.block q (blk_lt HNB.out)).trans HNB.out
                  have h2 := (hcm.kept q (blk_lt h1) (.inr ⟨_, _, _, h1, by decide, by decide⟩)).trans h1
                  exact ⟨(blk_cell h2 1).trans rfl, (blk_cell h2 4).trans rfl⟩⟩
                have H15 : Aside0 (∀ W, Below wb.heap.size wb W → Calls Try.prog 15 #[.slice A4 bs.length c4] W fun e w' => ∃ v, e = .returned v ∧ Kd.R (Kd.int .u8) 5 w' wb.heap.size (fun _ => True) v bs ∧ Below wb.heap.size wb w') := ⟨fun W hb => by
                  refine (lecternref0_CopyBytes.calls 20000 A4 c4 bs bs W (Kd.C_below HC4.out hb) HK4.out (copyBytes_is bs (by have := HN4.out; omega) 20000 (by have := HN4.out; omega))).mono ?_
                  rintro e w' ⟨v, rfl, hr, hb'⟩
                  exact ⟨v, rfl, Kd.R_lower hr hb.size, below_step hb hb'⟩⟩
                have H11 : Aside0 (∀ (W : World) (A : Option Addr) (c : Nat), Below wb.heap.size wb W → Kd.R (Kd.int .u8) 5 W wb.heap.size (fun _ => True) (.slice A bs.length c) bs → Calls Try.prog 11 #[.pointer (some ⟨g, 0, none⟩), .string nmA, .slice A bs.length c] W fun e w' => (∃ e', e = .returned (.int .i64 e')) ∧ SafeAt w1 w' g b kb (i + 1) ∧ Calm w1.heap.size W w') := ⟨fun W A c hb hr => by
                  have hDW := HDB.out.below hb
                  refine (dsk_append hDW HZ.out.1 (by have := HZ.out; have := HI40.out; omega) (by have := HZ.out; have := HI40.out; omega) nmA HSA.out bs A c (HN4.out) (fun s l e => by have := HSB2.out _ s l e; have := HN4.out; have := HI40.out; omega) (ArgOk.of_row hr)).mono ?_
                  rintro e w' ⟨e', F', n', rfl, hn0, hn1, hst, hrl⟩
                  exact ⟨⟨e', rfl⟩, safe_next ((hb.block kb (blk_lt HKB.out)).trans HKB.out) (below_step HBB.out hb) hst (by rw [hrl.keep HNA2.out]; exact HFB.out) ((hrl.short HSB2.out).mono (by have := HN4.out; omega)) hn0 (by have := HZ.out; omega) (by have := HZ.out; omega), hst.calm⟩⟩
                clear ky0 ky1 ky2 ky3 ky4 ky5
                go_region_held3 (fun w' => w'.cell? ⟨q, 1, none⟩ = some (.string nmA) ∧ w'.cell? ⟨q, 4, none⟩ = some (.slice A4 bs.length c4))
                  (first | exact KQ.out _ _ HBV.out HCM.out | exact KP.out _ (by repeat (first | exact Below.refl _ _ | exact (Aside0.out ‹Aside0 (Below wb.heap.size wb _)›) | apply pw_below_drewN | apply below_drew1)))
                  (first
                    | (go_at_call 15; refine (H15.out _ (by repeat (first | exact Below.refl _ _ | apply pw_below_drewN | apply below_drew1))).mono ?_; rintro e w8 ⟨v8, rfl, hr, hb8⟩; obtain ⟨A8, c8, rfl⟩ := Kd.R_slice hr; have HRV := Aside0.mk hr; have HBV := Aside0.mk hb8; clear hr hb8)
                    | (go_at_call 11; refine (H11.out _ A8 c8 HBV.out HRV.out).mono ?_; rintro e w9 ⟨⟨e9, rfl⟩, hs9, hcm⟩; have HS8 := Aside0.mk hs9; have HCM := Aside0.mk hcm; clear hs9 hcm))
                go_wp2_with fail
                go_roundg g0
                case measure => exact HGM.out.1
                case rel => exact ⟨i + 1, ⟨HGM.out.2.1, HGM.out.2.2⟩, (by rw [HW1.out]), HS8⟩
              · clear hr
                go_wp2_with fail
                refine (dsk_cut HDB.out HZ.out.1 (by have := HZ.out; have := HI40.out; omega) nmA HSA.out n_).mono ?_
                rintro e w8 ⟨e8, F8, n8, rfl, hn0, hn1, hst, hrl⟩
                have HS8 : Aside0 (SafeAt w1 w8 g b kb (i + 1)) := ⟨safe_next HKB.out HBB.out hst (by rw [hrl.keep HNA2.out]; exact HFB.out) ((hrl.short HSB2.out).mono (by omega)) hn0 (by have := HZ.out; omega) (by have := HZ.out; omega)⟩
                clear hn0 hn1 hst hrl
                go_wp2_with fail
                go_roundg g0
                case measure => exact HGM.out.1
                case rel => exact ⟨i + 1, ⟨HGM.out.2.1, HGM.out.2.2⟩, (by rw [HW1.out]), HS8⟩
              · clear hr
                go_wp2_with fail
                refine (dsk_sync HDB.out HZ.out.1 (by have := HZ.out; have := HI40.out; omega) nmA HSA.out).mono ?_
                rintro e w8 ⟨e8, F8, n8, rfl, hn0, hn1, hst, hrl⟩
                have HS8 : Aside0 (SafeAt w1 w8 g b kb (i + 1)) := ⟨safe_next HKB.out HBB.out hst (by rw [hrl.keep HNA2.out]; exact HFB.out) ((hrl.short HSB2.out).mono (by omega)) hn0 (by have := HZ.out; omega) (by have := HZ.out; omega)⟩
                clear hn0 hn1 hst hrl
                go_wp2_with fail
                go_roundg g0
                case measure => exact HGM.out.1
                case rel => exact ⟨i + 1, ⟨HGM.out.2.1, HGM.out.2.2⟩, (by rw [HW1.out]), HS8⟩
              · clear hr
                go_wp2_with fail
                refine (dsk_rename HDB.out HZ.out.1 (by have := HZ.out; have := HI40.out; omega) (by have := HZ.out; have := HI40.out; omega) nmA nmB HSA.out HSB.out).mono ?_
                rintro e w8 ⟨e8, F8, n8, rfl, hn0, hn1, hst, hrl⟩
                have HS8 : Aside0 (SafeAt w1 w8 g b kb (i + 1)) := ⟨safe_next HKB.out HBB.out hst (by rw [hrl.keep HNA2.out HNB2.out]; exact HFB.out) ((hrl.short HSB2.out).mono (by omega)) hn0 (by have := HZ.out; omega) (by have := HZ.out; omega)⟩
                clear hn0 hn1 hst hrl
                go_wp2_with fail
                go_roundg g0
                case measure => exact HGM.out.1
                case rel => exact ⟨i + 1, ⟨HGM.out.2.1, HGM.out.2.2⟩, (by rw [HW1.out]), HS8⟩
              · clear hr
                go_wp2_with fail
                cases hgd : nameB nmA with
                | false =>
                  refine (remove_no g nmA HSA.out wb hgd).mono ?_
                  rintro e w8 ⟨rfl, ⟨n8, rfl⟩⟩
                  have HS8 : Aside0 (SafeAt w1 (wb.drewN n8) g b kb (i + 1)) := ⟨(HSWB.out.on (pw_below_drewN (Below.refl _ _) n8)).later⟩
                  go_wp2_with fail
                  go_roundg g0
                  case measure => exact HGM.out.1
                  case rel => exact ⟨i + 1, ⟨HGM.out.2.1, HGM.out.2.2⟩, (by rw [HW1.out]), HS8⟩
                | true =>
                  refine (dsk_remove HDB.out HZ.out.1 (by have := HZ.out; have := HI40.out; omega) nmA HSA.out hgd).mono ?_
                  rintro e w8 ⟨e8, F8, rfl, hst, hrl⟩
                  have HS8 : Aside0 (SafeAt w1 w8 g b kb (i + 1)) := ⟨safe_next HKB.out HBB.out hst (by rw [hrl.keep HNA2.out]; exact HFB.out) ((hrl.short HSB2.out).mono (by omega)) (by have := HZ.out; omega) (by have := HZ.out; omega) (by have := HZ.out; omega)⟩
                  clear hst hrl
                  go_wp2_with fail
                  go_roundg g0
                  case measure => exact HGM.out.1
                  case rel => exact ⟨i + 1, ⟨HGM.out.2.1, HGM.out.2.2⟩, (by rw [HW1.out]), HS8⟩
              · clear hr
                go_wp2_with fail
                refine (dsk_crash HDB.out A5 c5 ps HC5.out HK5.out).mono ?_
                rintro e w8 ⟨v8, L, ss, rfl, hns, hL, hLl, hcl, hb8⟩
                obtain ⟨A8, c8, rfl, hc8, hC8⟩ := Kd.S_reads hL
                have hnok := HDB.out.newOk HSB2.out (by have := HI40.out; omega) hns hLl hcl
                have HOK := Aside0.mk hnok.1
                have HLN := Aside0.mk hnok.2
                have HKF := Aside0.mk (HDB.out.kept HFB.out hns hLl hcl)
                have HB8 := Aside0.mk hb8
                have HC8 := Aside0.mk hC8
                have HCL8 := Aside0.mk hc8
                clear hns hL hLl hcl hb8 hC8 hc8 hnok
                go_wp2_with fail
                refine (lecternref0_CopyFiles.calls 2000000 A8 c8 L L w8 HC8.out HCL8.out (copyFiles_is L (100 + 10000 * i) (by have := HI40.out; omega) HLN.out (by have := HOK.out.few; omega) 2000000 (by have := HOK.out.few; have := HI40.out; omega))).mono ?_
                rintro e w9 ⟨v9, rfl, hS9, hb9⟩
                obtain ⟨A9, c9, rfl, hc9, hC9⟩ := Kd.S_reads hS9
                have HB9 := Aside0.mk (below_step HB8.out hb9)
                have HC9 := Aside0.mk hC9
                have HCL9 := Aside0.mk hc9
                clear hS9 hb9 hC9 hc9 HB8 HC8 HCL8
                go_wp2_with fail
                refine (new_calls A9 c9 L w9 HC9.out HCL9.out HOK.out).mono ?_
                rintro e w10 ⟨g9, b9, rfl, ⟨⟨D9, hD9, hs9⟩, hb10⟩⟩
                rw [List.take_of_length_le (Nat.le_refl _)] at hD9
                have HD9 := Aside0.mk hD9
                have HZ9 := Aside0.mk hs9
                have HB10 := Aside0.mk (below_step HB9.out hb10)
                clear hD9 hs9 hb10 HB9 HC9 HCL9
                go_wp2_with fail
                refine (lecternlaw18_num.calls _ _ _ rfl).mono ?_
                rintro e w' ⟨rfl, ⟨m9, rfl⟩⟩
                go_wp2_with fail
                refine (dsk_read (HD9.out.drewN m9) nK (by decide) keepB keepB HKF.out).mono ?_
                rintro e w11 ⟨v11, rfl, hr11, hb11⟩
                obtain ⟨A11, c11, rfl⟩ := Kd.R_slice hr11
                have HR11 := Aside0.mk hr11
                have HD11 := Aside0.mk ((HD9.out.drewN m9).below hb11)
                have HB11 := Aside0.mk (below_step (pw_below_drewN HB10.out m9) hb11)
                clear hr11 hb11 HD9 HB10
                go_wp2_with fail
                refine (list_calls g9 b9 _ _ D9 w11 HD11.out.pow HD11.out.files (by have := HZ9.out; have := HOK.out.few; omega)).mono ?_
                rintro e w12 ⟨A12, c12, rfl, hb12⟩
                rw [HZ9.out]
                have HR12 := Aside0.mk (Kd.C_below (Kd.R_reads' HR11.out).2.2 hb12)
                have HRL12 := Aside0.mk (Kd.R_reads' HR11.out).2.1
                have HB12 := Aside0.mk (below_step HB11.out hb12)
                have HKB12 : Aside0 (w12.heap[kb]? = some (.cells keepC 5 (86, 87))) := ⟨(HB12.out.block kb (blk_lt HKB.out)).trans HKB.out⟩
                clear hb12 HD11 HB11 HR11
                go_wp2_with fail
                refine (lecternlaw18_num.calls _ _ _ rfl).mono ?_
                rintro e w' ⟨rfl, ⟨m12, rfl⟩⟩
                go_wp2_with fail
                refine (lecternref0_EqBytes.calls 200 A11 c11 keepB (some ⟨kb, 0, none⟩) 86 keepB true _ (Kd.C_drewN HR12.out m12) HRL12.out (C_keepB _ kb _ HKB12.out) (by decide) (eqBytes_is keepB (by decide) 200 (by decide))).mono ?_
                rintro e w13 ⟨rfl, ⟨m13, rfl⟩⟩
                go_wp2_with fail
                refine (lecternlaw18_num.calls _ _ _ rfl).mono ?_
                rintro e w' ⟨rfl, ⟨m14, rfl⟩⟩
                have HS8 : Aside0 (SafeAt w1 (w12.drewN (m12 + m13 + m14)) g b kb (i + 1)) := ⟨(HSWB.out.on (pw_below_drewN HB12.out _)).later⟩
                have HS8' : Aside0 (SafeAt w1 (w12.drewN (m12 + (m13 + m14))) g b kb (i + 1)) := ⟨(HSWB.out.on (pw_below_drewN HB12.out _)).later⟩
                have hbs : ((L.length : Int) != (L.length : Int)) = false := bne_self_eq_false _
                go_wp2_with fail
                go_roundg g0
                case measure => exact HGM.out.1
                case rel => exact ⟨i + 1, ⟨HGM.out.2.1, HGM.out.2.2⟩, (by rw [HW1.out]), (by first | exact HS8 | exact HS8')⟩
              · clear hr
                go_wp2_with fail
                refine (dsk_crash HDB.out A5 c5 ps HC5.out HK5.out).mono ?_
                rintro e w8 ⟨v8, L, ss, rfl, hns, hL, hLl, hcl, hb8⟩
                obtain ⟨A8, c8, rfl, hc8, hC8⟩ := Kd.S_reads hL
                have hnok := HDB.out.newOk HSB2.out (by have := HI40.out; omega) hns hLl hcl
                have HOK := Aside0.mk hnok.1
                have HLN := Aside0.mk hnok.2
                have HKF := Aside0.mk (HDB.out.kept HFB.out hns hLl hcl)
                have HB8 := Aside0.mk hb8
                have HC8 := Aside0.mk hC8
                have HCL8 := Aside0.mk hc8
                clear hns hL hLl hcl hb8 hC8 hc8 hnok
                go_wp2_with fail
                refine (lecternref0_CopyFiles.calls 2000000 A8 c8 L L w8 HC8.out HCL8.out (copyFiles_is L (100 + 10000 * i) (by have := HI40.out; omega) HLN.out (by have := HOK.out.few; omega) 2000000 (by have := HOK.out.few; have := HI40.out; omega))).mono ?_
                rintro e w9 ⟨v9, rfl, hS9, hb9⟩
                obtain ⟨A9, c9, rfl, hc9, hC9⟩ := Kd.S_reads hS9
                have HB9 := Aside0.mk (below_step HB8.out hb9)
                have HC9 := Aside0.mk hC9
                have HCL9 := Aside0.mk hc9
                clear hS9 hb9 hC9 hc9 HB8 HC8 HCL8
                go_wp2_with fail
                refine (new_calls A9 c9 L w9 HC9.out HCL9.out HOK.out).mono ?_
                rintro e w10 ⟨g9, b9, rfl, ⟨⟨D9, hD9, hs9⟩, hb10⟩⟩
                rw [List.take_of_length_le (Nat.le_refl _)] at hD9
                have HD9 := Aside0.mk hD9
                have HZ9 := Aside0.mk hs9
                have HB10 := Aside0.mk (below_step HB9.out hb10)
                clear hD9 hs9 hb10 HB9 HC9 HCL9
                go_wp2_with fail
                refine (lecternlaw18_num.calls _ _ _ rfl).mono ?_
                rintro e w' ⟨rfl, ⟨m9, rfl⟩⟩
                go_wp2_with fail
                refine (dsk_read (HD9.out.drewN m9) nK (by decide) keepB keepB HKF.out).mono ?_
                rintro e w11 ⟨v11, rfl, hr11, hb11⟩
                obtain ⟨A11, c11, rfl⟩ := Kd.R_slice hr11
                have HR11 := Aside0.mk hr11
                have HD11 := Aside0.mk ((HD9.out.drewN m9).below hb11)
                have HB11 := Aside0.mk (below_step (pw_below_drewN HB10.out m9) hb11)
                clear hr11 hb11 HD9 HB10
                go_wp2_with fail
                refine (list_calls g9 b9 _ _ D9 w11 HD11.out.pow HD11.out.files (by have := HZ9.out; have := HOK.out.few; omega)).mono ?_
                rintro e w12 ⟨A12, c12, rfl, hb12⟩
                rw [HZ9.out]
                have HR12 := Aside0.mk (Kd.C_below (Kd.R_reads' HR11.out).2.2 hb12)
                have HRL12 := Aside0.mk (Kd.R_reads' HR11.out).2.1
                have HB12 := Aside0.mk (below_step HB11.out hb12)
                have HKB12 : Aside0 (w12.heap[kb]? = some (.cells keepC 5 (86, 87))) := ⟨(HB12.out.block kb (blk_lt HKB.out)).trans HKB.out⟩
                clear hb12 HD11 HB11 HR11
                go_wp2_with fail
                refine (lecternlaw18_num.calls _ _ _ rfl).mono ?_
                rintro e w' ⟨rfl, ⟨m12, rfl⟩⟩
                go_wp2_with fail
                refine (lecternref0_EqBytes.calls 200 A11 c11 keepB (some ⟨kb, 0, none⟩) 86 keepB true _ (Kd.C_drewN HR12.out m12) HRL12.out (C_keepB _ kb _ HKB12.out) (by decide) (eqBytes_is keepB (by decide) 200 (by decide))).mono ?_
                rintro e w13 ⟨rfl, ⟨m13, rfl⟩⟩
                go_wp2_with fail
                refine (lecternlaw18_num.calls _ _ _ rfl).mono ?_
                rintro e w' ⟨rfl, ⟨m14, rfl⟩⟩
                have HS8 : Aside0 (SafeAt w1 (w12.drewN (m12 + m13 + m14)) g b kb (i + 1)) := ⟨(HSWB.out.on (pw_below_drewN HB12.out _)).later⟩
                have HS8' : Aside0 (SafeAt w1 (w12.drewN (m12 + (m13 + m14))) g b kb (i + 1)) := ⟨(HSWB.out.on (pw_below_drewN HB12.out _)).later⟩
                have hbs : ((L.length : Int) != (L.length : Int)) = false := bne_self_eq_false _
                go_wp2_with fail
                go_roundg g0
                case measure => exact HGM.out.1
                case rel => exact ⟨i + 1, ⟨HGM.out.2.1, HGM.out.2.2⟩, (by rw [HW1.out]), (by first | exact HS8 | exact HS8')⟩
              · clear hr
                go_wp2_with fail
                refine (dsk_crash HDB.out A5 c5 ps HC5.out HK5.out).mono ?_
                rintro e w8 ⟨v8, L, ss, rfl, hns, hL, hLl, hcl, hb8⟩
                obtain ⟨A8, c8, rfl, hc8, hC8⟩ := Kd.S_reads hL
                have hnok := HDB.out.newOk HSB2.out (by have := HI40.out; omega) hns hLl hcl
                have HOK := Aside0.mk hnok.1
                have HLN := Aside0.mk hnok.2
                have HKF := Aside0.mk (HDB.out.kept HFB.out hns hLl hcl)
                have HB8 := Aside0.mk hb8
                have HC8 := Aside0.mk hC8
                have HCL8 := Aside0.mk hc8
                clear hns hL hLl hcl hb8 hC8 hc8 hnok
                go_wp2_with fail
                refine (lecternref0_CopyFiles.calls 2000000 A8 c8 L L w8 HC8.out HCL8.out (copyFiles_is L (100 + 10000 * i) (by have := HI40.out; omega) HLN.out (by have := HOK.out.few; omega) 2000000 (by have := HOK.out.few; have := HI40.out; omega))).mono ?_
                rintro e w9 ⟨v9, rfl, hS9, hb9⟩
                obtain ⟨A9, c9, rfl, hc9, hC9⟩ := Kd.S_reads hS9
                have HB9 := Aside0.mk (below_step HB8.out hb9)
                have HC9 := Aside0.mk hC9
                have HCL9 := Aside0.mk hc9
                clear hS9 hb9 hC9 hc9 HB8 HC8 HCL8
                go_wp2_with fail
                refine (new_calls A9 c9 L w9 HC9.out HCL9.out HOK.out).mono ?_
                rintro e w10 ⟨g9, b9, rfl, ⟨⟨D9, hD9, hs9⟩, hb10⟩⟩
                rw [List.take_of_length_le (Nat.le_refl _)] at hD9
                have HD9 := Aside0.mk hD9
                have HZ9 := Aside0.mk hs9
                have HB10 := Aside0.mk (below_step HB9.out hb10)
                clear hD9 hs9 hb10 HB9 HC9 HCL9
                go_wp2_with fail
                refine (lecternlaw18_num.calls _ _ _ rfl).mono ?_
                rintro e w' ⟨rfl, ⟨m9, rfl⟩⟩
                go_wp2_with fail
                refine (dsk_read (HD9.out.drewN m9) nK (by decide) keepB keepB HKF.out).mono ?_
                rintro e w11 ⟨v11, rfl, hr11, hb11⟩
                obtain ⟨A11, c11, rfl⟩ := Kd.R_slice hr11
                have HR11 := Aside0.mk hr11
                have HD11 := Aside0.mk ((HD9.out.drewN m9).below hb11)
                have HB11 := Aside0.mk (below_step (pw_below_drewN HB10.out m9) hb11)
                clear hr11 hb11 HD9 HB10
                go_wp2_with fail
                refine (list_calls g9 b9 _ _ D9 w11 HD11.out.pow HD11.out.files (by have := HZ9.out; have := HOK.out.few; omega)).mono ?_
                rintro e w12 ⟨A12, c12, rfl, hb12⟩
                rw [HZ9.out]
                have HR12 := Aside0.mk (Kd.C_below (Kd.R_reads' HR11.out).2.2 hb12)
                have HRL12 := Aside0.mk (Kd.R_reads' HR11.out).2.1
                have HB12 := Aside0.mk (below_step HB11.out hb12)
                have HKB12 : Aside0 (w12.heap[kb]? = some (.cells keepC 5 (86, 87))) := ⟨(HB12.out.block kb (blk_lt HKB.out)).trans HKB.out⟩
                clear hb12 HD11 HB11 HR11
                go_wp2_with fail
                refine (lecternlaw18_num.calls _ _ _ rfl).mono ?_
                rintro e w' ⟨rfl, ⟨m12, rfl⟩⟩
                go_wp2_with fail
                refine (lecternref0_EqBytes.calls 200 A11 c11 keepB (some ⟨kb, 0, none⟩) 86 keepB true _ (Kd.C_drewN HR12.out m12) HRL12.out (C_keepB _ kb _ HKB12.out) (by decide) (eqBytes_is keepB (by decide) 200 (by decide))).mono ?_
                rintro e w13 ⟨rfl, ⟨m13, rfl⟩⟩
                go_wp2_with fail
                refine (lecternlaw18_num.calls _ _ _ rfl).mono ?_
                rintro e w' ⟨rfl, ⟨m14, rfl⟩⟩
                have HS8 : Aside0 (SafeAt w1 (w12.drewN (m12 + m13 + m14)) g b kb (i + 1)) := ⟨(HSWB.out.on (pw_below_drewN HB12.out _)).later⟩
                have HS8' : Aside0 (SafeAt w1 (w12.drewN (m12 + (m13 + m14))) g b kb (i + 1)) := ⟨(HSWB.out.on (pw_below_drewN HB12.out _)).later⟩
                have hbs : ((L.length : Int) != (L.length : Int)) = false := bne_self_eq_false _
                go_wp2_with fail
                go_roundg g0
                case measure => exact HGM.out.1
                case rel => exact ⟨i + 1, ⟨HGM.out.2.1, HGM.out.2.2⟩, (by rw [HW1.out]), (by first | exact HS8 | exact HS8')⟩
              · clear hr
                have HS8 : Aside0 (SafeAt w1 wb g b kb (i + 1)) := ⟨HSWB.out.later⟩
                go_wp2_with fail
                go_roundg g0
                case measure => exact HGM.out.1
                case rel => exact ⟨i + 1, ⟨HGM.out.2.1, HGM.out.2.2⟩, (by rw [HW1.out]), HS8⟩
        · have hd1 : decide (i < l1.length) = true := decide_eq_true hlt
          have hd2 : decide ((i : Int) < 40) = false := decide_eq_false (by omega)
          clear hlt h40
          have hsafe := HSI.out
          obtain ⟨⟨nz, cnz, Dz, Fz, hDz, hFz, hShz, hz0, hz1, hzc⟩, hkz, hbz⟩ := hsafe
          obtain ⟨fz, hfz, _⟩ := hDz.some_ _ _ _ hFz
          have HP : Aside0 (Dz.atKey (.string nK.data.toList) (pe none) = pe (some fz)) := ⟨hfz _⟩
          have HNZ : Aside0 (0 ≤ nz ∧ nz ≤ 50) := ⟨hz0, by have := HIK.out; omega⟩
          have HGB : Aside0 (b ≠ g) := ⟨hDz.gb⟩
          have HDZ := Aside0.mk hDz
          have HBZ := Aside0.mk hbz
          clear hDz hFz hShz hz0 hz1 hzc hkz hbz hfz
          go_wp2_with fail
          refine (off_calls g b nz wr HDZ.out.pow).mono ?_
          rintro e x1 ⟨rfl, ho1, hg1⟩
          have HO1 : Aside0 (OffW w1 x1 g b nz cnz Dz) := ⟨⟨ho1, World.ownsMap.kept HDZ.out.files hg1 (by simpa using HGB.out), off_below HBZ.out HDZ.out.lowg HBZ.out.size hg1, HDZ.out.lowg⟩⟩
          clear ho1 hg1 HDZ HBZ
          go_wp2_with fail
          refine (read_off g b cnz nz Dz nK (by decide) x1 name_k HO1.out.off HO1.out.files (some fz) HP.out).mono ?_
          rintro e x2 ⟨rfl, ⟨m1, rfl⟩⟩
          go_wp2_with fail
          refine (list_off g b nz _ (HO1.out.drewN m1).off).mono ?_
          rintro e x3 ⟨rfl, rfl⟩
          have HO2 := Aside0.mk (HO1.out.drewN m1)
          clear HO1
          generalize x1.drewN m1 = y1 at *
          go_wp2_with fail
          refine (lecternlaw18_num.calls _ _ _ rfl).mono ?_
          rintro e w' ⟨rfl, ⟨m2, rfl⟩⟩
          go_wp2_with fail
          refine (lecternlaw18_num.calls _ _ _ rfl).mono ?_
          rintro e w' ⟨rfl, ⟨m3, rfl⟩⟩
          have HO3 := Aside0.mk (HO2.out.drewN (m2 + m3))
          clear HO2
          go_wp2_with fail
          refine (sync_off g b cnz nz HNZ.out.1 (by have := HNZ.out; omega) Dz nK (by decide) _ name_k HO3.out.off HO3.out.files HGB.out (some fz) HP.out).mono ?_
          rintro e y2 ⟨rfl, hs2⟩
          have HO4 := Aside0.mk (HO3.out.step hs2)
          clear HO3 hs2
          go_wp2_with fail
          refine (lecternlaw18_num.calls _ _ _ rfl).mono ?_
          rintro e w' ⟨rfl, ⟨m4, rfl⟩⟩
          have HO5 := Aside0.mk (HO4.out.drewN m4)
          clear HO4
          go_wp2_with fail
          refine (append_off g b cnz _ (by have := HNZ.out; omega) (by have := HNZ.out; omega) Dz nK (by decide) (some ⟨kb, 0, none⟩) 86 86 _ name_k HO5.out.off HO5.out.files HGB.out (some fz) HP.out).mono ?_
          rintro e y3 ⟨rfl, hs3⟩
          have HO6 := Aside0.mk (HO5.out.step hs3)
          clear HO5 hs3
          go_wp2_with fail
          refine (lecternlaw18_num.calls _ _ _ rfl).mono ?_
          rintro e w' ⟨rfl, ⟨m5, rfl⟩⟩
          have HO7 := Aside0.mk (HO6.out.drewN m5)
          clear HO6
          go_wp2_with fail
          refine (cut_off g b cnz _ (by have := HNZ.out; omega) (by have := HNZ.out; omega) Dz nK (by decide) _ name_k HO7.out.off HO7.out.files HGB.out (some fz) HP.out).mono ?_
          rintro e y4 ⟨rfl, hs4⟩
          have HO8 := Aside0.mk (HO7.out.step hs4)
          clear HO7 hs4
          go_wp2_with fail
          refine (lecternlaw18_num.calls _ _ _ rfl).mono ?_
          rintro e w' ⟨rfl, ⟨m6, rfl⟩⟩
          have HO9 := Aside0.mk (HO8.out.drewN m6)
          clear HO8
          go_wp2_with fail
          refine (remove_off g b cnz _ (by have := HNZ.out; omega) (by have := HNZ.out; omega) Dz nK (by decide) _ name_k HO9.out.off HO9.out.files HGB.out (some fz) HP.out).mono ?_
          rintro e y5 ⟨rfl, hs5⟩
          have HO10 := Aside0.mk (HO9.out.step hs5)
          clear HO9 hs5
          go_wp2_with fail
          refine (lecternlaw18_num.calls _ _ _ rfl).mono ?_
          rintro e w' ⟨rfl, ⟨m7, rfl⟩⟩
          have HO11 := Aside0.mk (HO10.out.drewN m7)
          clear HO10
          go_wp2_with fail
          refine (rename_off g b cnz _ (by have := HNZ.out; omega) (by have := HNZ.out; omega) Dz nK nA (by decide) (by decide) _ name_k name_a HO11.out.off HO11.out.files HGB.out (some fz) HP.out).mono ?_
          rintro e y6 ⟨rfl, hs6⟩
          have HO12 := Aside0.mk (HO11.out.step hs6)
          clear HO11 hs6
          go_wp2_with fail
          refine (lecternlaw18_num.calls _ _ _ rfl).mono ?_
          rintro e w' ⟨rfl, ⟨m8, rfl⟩⟩
          have HO13 := Aside0.mk (HO12.out.drewN m8)
          clear HO12
          go_wp2_with fail
          refine (wakes_true _).mono ?_
          rintro e w' ⟨rfl, hwk⟩
          have HWK := Aside0.mk hwk
          clear hwk
          go_wp2_with fail
          go_ret
          exact ⟨rfl, below_step HL1.out (below_le' HO13.out.below HWK.out HO13.out.below.size)⟩
      · have hd1 : decide (i < l1.length) = false := decide_eq_false hlt
        clear hlt
        have hsafe := HSI.out
        obtain ⟨⟨nz, cnz, Dz, Fz, hDz, hFz, hShz, hz0, hz1, hzc⟩, hkz, hbz⟩ := hsafe
        obtain ⟨fz, hfz, _⟩ := hDz.some_ _ _ _ hFz
        have HP : Aside0 (Dz.atKey (.string nK.data.toList) (pe none) = pe (some fz)) := ⟨hfz _⟩
        have HNZ : Aside0 (0 ≤ nz ∧ nz ≤ 50) := ⟨hz0, by have := HIK.out; omega⟩
        have HGB : Aside0 (b ≠ g) := ⟨hDz.gb⟩
        have HDZ := Aside0.mk hDz
        have HBZ := Aside0.mk hbz
        clear hDz hFz hShz hz0 hz1 hzc hkz hbz hfz
        go_wp2_with fail
        refine (off_calls g b nz wr HDZ.out.pow).mono ?_
        rintro e x1 ⟨rfl, ho1, hg1⟩
        have HO1 : Aside0 (OffW w1 x1 g b nz cnz Dz) := ⟨⟨ho1, World.ownsMap.kept HDZ.out.files hg1 (by simpa using HGB.out), off_below HBZ.out HDZ.out.lowg HBZ.out.size hg1, HDZ.out.lowg⟩⟩
        clear ho1 hg1 HDZ HBZ
        go_wp2_with fail
        refine (read_off g b cnz nz Dz nK (by decide) x1 name_k HO1.out.off HO1.out.files (some fz) HP.out).mono ?_
        rintro e x2 ⟨rfl, ⟨m1, rfl⟩⟩
        go_wp2_with fail
        refine (list_off g b nz _ (HO1.out.drewN m1).off).mono ?_
        rintro e x3 ⟨rfl, rfl⟩
        have HO2 := Aside0.mk (HO1.out.drewN m1)
        clear HO1
        generalize x1.drewN m1 = y1 at *
        go_wp2_with fail
        refine (lecternlaw18_num.calls _ _ _ rfl).mono ?_
        rintro e w' ⟨rfl, ⟨m2, rfl⟩⟩
        go_wp2_with fail
        refine (lecternlaw18_num.calls _ _ _ rfl).mono ?_
        rintro e w' ⟨rfl, ⟨m3, rfl⟩⟩
        have HO3 := Aside0.mk (HO2.out.drewN (m2 + m3))
        clear HO2
        go_wp2_with fail
        refine (sync_off g b cnz nz HNZ.out.1 (by have := HNZ.out; omega) Dz nK (by decide) _ name_k HO3.out.off HO3.out.files HGB.out (some fz) HP.out).mono ?_
        rintro e y2 ⟨rfl, hs2⟩
        have HO4 := Aside0.mk (HO3.out.step hs2)
        clear HO3 hs2
        go_wp2_with fail
        refine (lecternlaw18_num.calls _ _ _ rfl).mono ?_
        rintro e w' ⟨rfl, ⟨m4, rfl⟩⟩
        have HO5 := Aside0.mk (HO4.out.drewN m4)
        clear HO4
        go_wp2_with fail
        refine (append_off g b cnz _ (by have := HNZ.out; omega) (by have := HNZ.out; omega) Dz nK (by decide) (some ⟨kb, 0, none⟩) 86 86 _ name_k HO5.out.off HO5.out.files HGB.out (some fz) HP.out).mono ?_
        rintro e y3 ⟨rfl, hs3⟩
        have HO6 := Aside0.mk (HO5.out.step hs3)
        clear HO5 hs3
        go_wp2_with fail
        refine (lecternlaw18_num.calls _ _ _ rfl).mono ?_
        rintro e w' ⟨rfl, ⟨m5, rfl⟩⟩
        have HO7 := Aside0.mk (HO6.out.drewN m5)
        clear HO6
        go_wp2_with fail
        refine (cut_off g b cnz _ (by have := HNZ.out; omega) (by have := HNZ.out; omega) Dz nK (by decide) _ name_k HO7.out.off HO7.out.files HGB.out (some fz) HP.out).mono ?_
        rintro e y4 ⟨rfl, hs4⟩
        have HO8 := Aside0.mk (HO7.out.step hs4)
        clear HO7 hs4
        go_wp2_with fail
        refine (lecternlaw18_num.calls _ _ _ rfl).mono ?_
        rintro e w' ⟨rfl, ⟨m6, rfl⟩⟩
        have HO9 := Aside0.mk (HO8.out.drewN m6)
        clear HO8
        go_wp2_with fail
        refine (remove_off g b cnz _ (by have := HNZ.out; omega) (by have := HNZ.out; omega) Dz nK (by decide) _ name_k HO9.out.off HO9.out.files HGB.out (some fz) HP.out).mono ?_
        rintro e y5 ⟨rfl, hs5⟩
        have HO10 := Aside0.mk (HO9.out.step hs5)
        clear HO9 hs5
        go_wp2_with fail
        refine (lecternlaw18_num.calls _ _ _ rfl).mono ?_
        rintro e w' ⟨rfl, ⟨m7, rfl⟩⟩
        have HO11 := Aside0.mk (HO10.out.drewN m7)
        clear HO10
        go_wp2_with fail
        refine (rename_off g b cnz _ (by have := HNZ.out; omega) (by have := HNZ.out; omega) Dz nK nA (by decide) (by decide) _ name_k name_a HO11.out.off HO11.out.files HGB.out (some fz) HP.out).mono ?_
        rintro e y6 ⟨rfl, hs6⟩
        have HO12 := Aside0.mk (HO11.out.step hs6)
        clear HO11 hs6
        go_wp2_with fail
        refine (lecternlaw18_num.calls _ _ _ rfl).mono ?_
        rintro e w' ⟨rfl, ⟨m8, rfl⟩⟩
        have HO13 := Aside0.mk (HO12.out.drewN m8)
        clear HO12
        go_wp2_with fail
        refine (wakes_true _).mono ?_
        rintro e w' ⟨rfl, hwk⟩
        have HWK := Aside0.mk hwk
        clear hwk
        go_wp2_with fail
        go_ret
        exact ⟨rfl, below_step HL1.out (below_le' HO13.out.below HWK.out HO13.out.below.size)⟩

end Go.Proofs.Ytoonepmnlgfikaa.D
namespace Go.Proofs.Ytoonepmnlgfikaa.D
open Go.ChangeShapes Go.WideShapes Go.RowKit Go.Proofs.YtoonepmnlgfikaaW.PrintWords Go.Proofs.YtoonepmnlgfikaaW.PrintLast Go.Proofs.YtoonepmnlgfikaaW.PrintMore Go.Proofs.Ytoonepmnlgfikaa.Base Go.Proofs.Ytoonepmnlgfikaa.Opening
theorem safe_walk (x : S25) (cs : List Value) (w : World) (hk : k25.K w x cs) (ok : ok25 x) :
    Calls Try.prog 5 #[.agg ⟨cs⟩] w fun e w' => e = .returned (.bool true) ∧ Below w.heap.size w w' := by
  obtain ⟨c0, c1, rfl, ⟨A0, n0, rfl, h0, hC0⟩, ⟨A1, n1, rfl, h1, hC1⟩⟩ := hk
  exact safe_walk0 A0 n0 x.f0 A1 n1 x.f1 w hC0 h0 hC1 h1 (fun y hy => by have := (ok.1.2 y hy).2.1; omega) (fun y hy => ⟨by have := (ok.2.2 y hy).2.2.2.2.1.1; omega, by have := (ok.2.2 y hy).2.2.2.2.2.1; omega⟩) (fun y hy => ⟨(ok.2.2 y hy).2.1, (ok.2.2 y hy).2.2.1⟩) (by have := ok.2.1; omega)
end Go.Proofs.Ytoonepmnlgfikaa.D
