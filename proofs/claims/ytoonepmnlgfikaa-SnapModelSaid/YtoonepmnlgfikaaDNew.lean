/- Disk: New of any files that are in order. -/
import Derived.Test.YtoonepmnlgfikaaDM
import Derived.BigQuiet
namespace Go.Proofs.Ytoonepmnlgfikaa.D
open Go.RowKit Go.Proofs.YtoonepmnlgfikaaW.PrintWords Go.Proofs.YtoonepmnlgfikaaW.PrintLast Go.Proofs.YtoonepmnlgfikaaW.PrintMore Go.Proofs.Ytoonepmnlgfikaa.Base Go.Maps Go.Sort Go.Shelf
set_option linter.unusedVariables false
set_option linter.unusedSimpArgs false
@[local go_sem] theorem geq_str' (t : TypeId) (a b : ByteArray) : binOp .geq t (.string a) (.string b) = pure (.bool !(Op.bytesLess a.toList b.toList)) := by simp [binOp, Op.stringOp]
/-- The files that New makes. -/
def fileMap (fs : List S40) : Model := fun nm => (fs.find? (fun x => x.f0.data.toList == nm)).map (fun x => (x.f1, x.f1))
theorem fileMap_nil (nm : List UInt8) : fileMap [] nm = none := rfl
theorem fileMap_snoc (fs : List S40) (x : S40) (h : fileMap fs x.f0.data.toList = none) : fileMap (fs ++ [x]) = (fileMap fs).put x.f0.data.toList (some (x.f1, x.f1)) := by
  funext nm
  unfold fileMap Model.put
  rw [List.find?_append]
  by_cases hk : nm = x.f0.data.toList
  · subst hk
    have h1 : fs.find? (fun y => y.f0.data.toList == x.f0.data.toList) = none := by
      unfold fileMap at h
      exact Option.map_eq_none_iff.1 h
    rw [h1, if_pos rfl]
    simp
  · rw [if_neg hk]
    have : ([x] : List S40).find? (fun y => y.f0.data.toList == nm) = none := by
      simp [Ne.symm hk]
    rw [this, Option.or_none]
theorem fileMap_none {fs : List S40} {nm : List UInt8} (h : ∀ x ∈ fs, x.f0.data.toList ≠ nm) : fileMap fs nm = none := by
  unfold fileMap
  rw [Option.map_eq_none_iff, List.find?_eq_none]
  intro x hx
  simpa using h x hx
/-- What New asks of the files. -/
structure NewOk (fs : List S40) : Prop where
  few : fs.length ≤ 16
  name : ∀ x ∈ fs, nameB x.f0 = true
  data : ∀ x ∈ fs, x.f1.length ≤ 1048576
  next : ∀ i, i + 1 < fs.length → Op.bytesLess (rd_T40 fs (i : Int)).f0.toList (rd_T40 fs ((i + 1 : Nat) : Int)).f0.toList = true
  apart : ∀ i j, i < j → j < fs.length → (rd_T40 fs (i : Int)).f0.data.toList ≠ (rd_T40 fs (j : Int)).f0.data.toList
theorem rd40_mem {fs : List S40} {i : Nat} (h : i < fs.length) : rd_T40 fs (i : Int) ∈ fs := by
  unfold rd_T40
  rw [Int.toNat_natCast]
  exact getD_mem h
theorem rd40_get {fs : List S40} {i : Nat} (h : i < fs.length) : fs[i]? = some (rd_T40 fs (i : Int)) := by
  unfold rd_T40
  rw [Int.toNat_natCast, List.getD_eq_getElem?_getD, List.getElem?_eq_getElem h]
  rfl
theorem take_snoc40 {fs : List S40} {i : Nat} (h : i < fs.length) : fs.take (i + 1) = fs.take i ++ [rd_T40 fs (i : Int)] := by
  rw [List.take_add_one, rd40_get h]
  rfl
theorem fileMap_fresh {fs : List S40} (h : NewOk fs) {i : Nat} (hi : i < fs.length) : fileMap (fs.take i) (rd_T40 fs (i : Int)).f0.data.toList = none := fileMap_none (fun x hx => by
  obtain ⟨j, hj, rfl⟩ := List.getElem_of_mem hx
  have hj' : j < i := by rw [List.length_take] at hj; omega
  have e : (fs.take i)[j] = rd_T40 fs (j : Int) := by
    have h1 := rd40_get (fs := fs) (i := j) (by omega)
    rw [List.getElem_take]
    rw [List.getElem?_eq_getElem (by omega)] at h1
    exact Option.some.inj h1
  rw [e]
  exact h.apart j i hj' hi)
/-- The state of the loop. -/
structure NewAt (w W : World) (fs : List S40) (g b i : Nat) : Prop where
  disk : ∃ D, Dsk W w.heap.size g b i 0 D (fileMap (fs.take i)) ∧ Maps.size D = i
  below : Below w.heap.size w W
theorem NewAt.drewN {w W : World} {fs : List S40} {g b i : Nat} (h : NewAt w W fs g b i) (m : Nat) : NewAt w (W.drewN m) fs g b i := by
  obtain ⟨⟨D, h1, h2⟩, h3⟩ := h
  exact ⟨⟨D, h1.drewN m, h2⟩, pw_below_drewN h3 m⟩
theorem NewAt.on {w W W' : World} {fs : List S40} {g b i : Nat} (h : NewAt w W fs g b i) (hb : Below W.heap.size W W') : NewAt w W' fs g b i := by
  obtain ⟨⟨D, h1, h2⟩, h3⟩ := h
  exact ⟨⟨D, h1.below hb, h2⟩, below_step h3 hb⟩
theorem new_step {w w3 w6 w7 : World} {fs : List S40} {g b i : Nat} {D : DataW Unit} {nm : ByteArray} {d : List Int} {vA vB : Value} (hd : Dsk w3 w.heap.size g b i 0 D (fileMap (fs.take i))) (hsz : Maps.size D = i) (hbel : Below w.heap.size w w3) (hi : i < 16)
    (hgd : nameB nm = true) (hdl : d.length ≤ 1048576) (hfr : fileMap (fs.take i) nm.data.toList = none) (hgm : fileMap (fs.take (i + 1)) = (fileMap (fs.take i)).put nm.data.toList (some (d, d)))
    (h36 : Below w3.heap.size w3 w6) (hA : Kd.R (Kd.int .u8) 5 w6 w3.heap.size (fun _ => True) vA d) (hB : Kd.R (Kd.int .u8) 5 w6 w3.heap.size (fun _ => True) vB d)
    (hm : Files w7 b (i + 1) (D.put (.string nm.data.toList) (pe (some w6.heap.size)))) (hgr : (w6.alloc (.cells #[vA, vB] 82)).grownBy w7 (some b)) : NewAt w w7 fs g b (i + 1) := by
  have hd6 := hd.below h36
  have hn := heap_alloc_new w6 (.cells #[vA, vB] 82)
  have hs7 : w6.heap.size < w7.heap.size := Nat.lt_of_lt_of_le (blk_lt hn) hgr.size
  have hk : ∀ j, j < w6.heap.size → j ≠ b → w7.heap[j]? = w6.heap[j]? := fun j hj hjb =>
    (hgr.block j (by have := blk_lt hn; omega) (by simpa using hjb)).trans (Below.heap_alloc _ _ j hj)
  have hc : Calm w.heap.size w6 w7 := hd6.calm_of (by omega) (fun j h1 _ h3 => hk j h1 h3)
  have hb6 : b < w6.heap.size := World.ownsMap.lt hd6.files
  have hwf : w.heap.size ≤ w6.heap.size := Nat.le_trans hbel.size h36.size
  have hR : FileR w7 w.heap.size w6.heap.size d d := ⟨⟨vA, vB, (hgr.block _ (blk_lt hn) (by simp; omega)).trans hn, hc.row (Kd.R_lower hA hbel.size), hc.row (Kd.R_lower hB hbel.size)⟩, hwf, hdl, hdl⟩
  have hmore := hd6.more (n' := 0) (cnt' := i + 1) nm.data.toList d d w6.heap.size hfr (by rw [arr_name]; exact hgd) (by omega) ((hk g (blk_lt hd6.pow) (Ne.symm hd6.gb)).trans hd6.pow) hm hc (fun j c hj => hk j (blk_lt hj) (hd6.ne82 hj).2) (Nat.le_refl _) hR
  refine ⟨⟨_, by rw [hgm]; exact hmore, ?_⟩, ?_⟩
  · rw [Maps.size_put hd6.tidy, hd6.none_ _ hfr]
    simp [hsz]
  · exact pw_below_grown (below_step (below_step hbel h36) (below_alloc (Below.refl _ _) _)) _ (by have := blk_lt hn; omega) hgr (fun k hk => by cases hk; exact hd.lowb)
set_option maxRecDepth 100000 in
set_option maxHeartbeats 3200000 in
theorem new_calls (A : Option Addr) (c : Nat) (fs : List S40) (w : World) (hC : Kd.C k40 w A fs.length fs) (hc : fs.length ≤ c) (hok : NewOk fs) :
    Calls Try.prog 9 #[.slice A fs.length c] w fun e w' => ∃ g b, e = .returned (.tuple #[.pointer (some ⟨g, 0, none⟩), .int .i64 0]) ∧ NewAt w w' fs g b fs.length := by
  have hmm := @run_makeMap Try.prog
  have hu119 := Try.underlying59
  have hu117 := Try.underlying56
  have hu90 := Try.underlying40
  have hu82 := Try.underlying82
  have HC := Aside0.mk hC
  have HOK := Aside0.mk hok
  have h16 : decide ((16 : Int) < (fs.length : Int)) = false := decide_eq_false (by have := hok.few; omega)
  have h16n : decide (16 < fs.length) = false := decide_eq_false (by have := hok.few; omega)
  clear hC hok
  go_enter Try.func9, Try.ntmps9
  go_wp2_with fail
  have hST : NewAt w ((w.alloc (.map #[] 0)).alloc (.cells #[.int .i64 0, .bool false, .int .i64 0, .map (some w.heap.size)] 59)) fs (w.heap.size + 1) w.heap.size 0 := by
    have h1 := heap_alloc_new (w.alloc (.map #[] 0)) (.cells #[.int .i64 0, .bool false, .int .i64 0, .map (some w.heap.size)] 59)
    have hB : Below w.heap.size w ((w.alloc (.map #[] 0)).alloc (.cells #[.int .i64 0, .bool false, .int .i64 0, .map (some w.heap.size)] 59)) := ((Below.refl _ _).alloc (Nat.le_refl _) _).alloc (by simp) _
    refine ⟨⟨.map [], ⟨by omega, Nat.le_refl _, by omega, by unfold PowAt; simpa using h1, World.ownsMap.alloc (World.ownsMap_made w _ _ _) _, fun _ _ => rfl, fun nm s l e => ?_, fun nm nm' f e1 e2 => ?_, fun nm e => ?_, Nat.zero_le _⟩, rfl⟩, hB⟩
    · rw [List.take_zero, fileMap_nil] at e; cases e
    · rw [at_none] at e1; cases pe_inj e1
    · rw [List.take_zero, fileMap_nil] at e; exact absurd rfl e
  obtain ⟨g, hgg⟩ : ∃ g, g = w.heap.size + 1 := ⟨_, rfl⟩
  obtain ⟨b, hbb⟩ : ∃ b, b = w.heap.size := ⟨_, rfl⟩
  rw [← hgg] at hST ⊢
  have HST : Aside0 (NewAt w ((w.alloc (.map #[] 0)).alloc (.cells #[.int .i64 0, .bool false, .int .i64 0, .map (some w.heap.size)] 59)) fs g b 0) := ⟨by rw [hbb]; exact hST⟩
  clear hST hgg hbb
  generalize (w.alloc (.map #[] 0)).alloc (.cells #[.int .i64 0, .bool false, .int .i64 0, .map (some w.heap.size)] 59) = w1 at *
  go_loopg [5, 6, 12] fs.length (fun kq v5 v6 v12 w' => ∃ i : Nat, Aside0 (i + kq = fs.length) ∧ v12 = .int .i64 i ∧ Aside0 (NewAt w w' fs g b i))
  case atStart => exact ⟨0, ⟨by omega⟩, rfl, HST⟩
  case round =>
    obtain ⟨i, HIK, rfl, HN⟩ := hrel
    by_cases hlt : i < fs.length
    · have clt : decide ((i : Int) < (fs.length : Int)) = true := decide_eq_true (by omega)
      have clt2 : decide (i < fs.length) = true := decide_eq_true hlt
      have q0 : ((i : Int) < (fs.length : Int)) = True := eq_true (by omega)
      have p0 : ((0 : Int) ≤ (i : Int)) = True := eq_true (by omega)
      obtain ⟨ad, A1, c1, e, kn, kd, hc1, hC1⟩ := at_T40 (Kd.C_below HC.out HN.out.below) (i : Int) (by omega) (by omega)
      have hgd := HOK.out.name _ (rd40_mem hlt)
      have hdl := HOK.out.data _ (rd40_mem hlt)
      have hfr := fileMap_fresh HOK.out hlt
      have hnx : ∀ j, j + 1 = i → Op.bytesLess (rd_T40 fs (j : Int)).f0.toList (rd_T40 fs (i : Int)).f0.toList = true := fun j hj => by subst hj; exact HOK.out.next j hlt
      have htk := take_snoc40 hlt
      have hgm : ∀ nm d, rd_T40 fs (i : Int) = ⟨nm, d⟩ → fileMap (fs.take (i + 1)) = (fileMap (fs.take i)).put nm.data.toList (some (d, d)) := fun nm d e => by
        rw [htk, fileMap_snoc _ _ (by exact hfr), e]
      generalize hx : rd_T40 fs (i : Int) = x at *
      obtain ⟨nm, d⟩ := x
      dsimp only at *
      have HGM := Aside0.mk (hgm nm d rfl)
      have HGD := Aside0.mk hgd
      have HFR := Aside0.mk hfr
      have HNX := Aside0.mk hnx
      have HDL := Aside0.mk hdl
      have HC1 := Aside0.mk hC1
      have HK1 := Aside0.mk hc1
      have HLT := Aside0.mk hlt
      have HX := Aside0.mk hx
      have HG : Aside0 (disk_good.f (3 * nm.size + 1) nm = some true) := ⟨by rw [good_is nm (by unfold nameB at hgd; rw [Bool.and_eq_true, decide_eq_true_eq] at hgd; omega) _ (Nat.le_refl _), hgd]⟩
      rw [Int.toNat_natCast] at kn kd
      subst e
      clear hgm hgd hfr hnx hdl hC1 hc1 hlt htk hx
      go_wp2_with fail
      have hn := heap_alloc_new wr (.cells #[.string nm, .slice A1 d.length c1] 40)
      have hB2 : Below wr.heap.size wr (wr.alloc (.cells #[.string nm, .slice A1 d.length c1] 40)) := below_alloc (Below.refl _ _) _
      have HN2 : Aside0 (NewAt w (wr.alloc (.cells #[.string nm, .slice A1 d.length c1] 40)) fs g b i) := ⟨HN.out.on hB2⟩
      have HCA : Aside0 (Kd.C k40 (wr.alloc (.cells #[.string nm, .slice A1 d.length c1] 40)) (some ad) fs.length fs) := ⟨Kd.C_below HC.out HN2.out.below⟩
      have HC1 : Aside0 (Kd.C (Kd.int .u8) (wr.alloc (.cells #[.string nm, .slice A1 d.length c1] 40)) A1 d.length d) := ⟨Kd.C_below HC1.out hB2⟩
      clear kn kd hB2 HN
      generalize wr.alloc (.cells #[.string nm, .slice A1 d.length c1] 40) = w2 at *
      generalize wr.heap.size = q at *
      have k0' : w2.cell? ⟨q, 0, none⟩ = some (.string nm) := (blk_cell hn 0).trans rfl
      have k1' : w2.cell? ⟨q, 1, none⟩ = some (.slice A1 d.length c1) := (blk_cell hn 1).trans rfl
      have hd : decide ((1048576 : Int) < (d.length : Int)) = false := decide_eq_false (by have := HDL.out; omega)
      have hdn : decide (1048576 < d.length) = false := decide_eq_false (by have := HDL.out; omega)
      have HHN := Aside0.mk hn
      clear hn
      rcases Nat.eq_zero_or_pos i with h0 | h0
      · have hgt : decide ((0 : Int) < (i : Int)) = false := decide_eq_false (by omega)
        have hgtn : decide (0 < i) = false := decide_eq_false (by omega)
        clear h0
        go_quiet (first | (go_at_call 37; refine (disk_good.calls _ _ _ _ HG.out).mono ?_; rintro e w' ⟨rfl, ⟨nd, rfl⟩⟩; (first | exact ⟨rfl, _, World.drewN_drewN _ _ _⟩ | exact ⟨rfl, _, rfl⟩)))
        go_upto_region 7 with (fail)
        clear hgt hgtn hd hdn
        obtain ⟨w3, hw3⟩ : ∃ w3, w3 = w2.drewN nq := ⟨_, rfl⟩
        obtain ⟨⟨D, hD, hDs⟩, hDb⟩ := HN2.out.drewN nq
        have HC3 : Aside0 (Kd.C (Kd.int .u8) (w2.drewN nq) A1 d.length d) := ⟨Kd.C_drewN HC1.out _⟩
        have kq0 : (w2.drewN nq).cell? ⟨q, 0, none⟩ = some (.string nm) := k0'
        have kq1 : (w2.drewN nq).cell? ⟨q, 1, none⟩ = some (.slice A1 d.length c1) := k1'
        have kq3 : (w2.drewN nq).cell? ⟨g, 3, none⟩ = some (.map (some b)) := (blk_cell hD.pow 3).trans rfl
        rw [← hw3] at hD hDb HC3 kq0 kq1 kq3 ⊢
        have HD := Aside0.mk hD
        have HDS := Aside0.mk hDs
        have HDB := Aside0.mk hDb
        have KP : Aside0 (∀ W, Below w3.heap.size w3 W → W.cell? ⟨g, 3, none⟩ = some (.map (some b)) ∧ W.cell? ⟨q, 0, none⟩ = some (.string nm) ∧ W.cell? ⟨q, 1, none⟩ = some (.slice A1 d.length c1)) := ⟨fun W hb => ⟨(hb.cell (World.block_lt_of_cell? w3 _ kq3)).trans kq3, (hb.cell (World.block_lt_of_cell? w3 _ kq0)).trans kq0, (hb.cell (World.block_lt_of_cell? w3 _ kq1)).trans kq1⟩⟩
        have KQ : Aside0 (∀ W w7 : World, Below w3.heap.size w3 W → W.grownBy w7 (some b) → w7.cell? ⟨g, 3, none⟩ = some (.map (some b)) ∧ w7.cell? ⟨q, 0, none⟩ = some (.string nm) ∧ w7.cell? ⟨q, 1, none⟩ = some (.slice A1 d.length c1)) := ⟨fun W w7 hb hgr => by
          obtain ⟨e1, e2, e3⟩ := KP.out W hb
          obtain ⟨es, clk, hbm, _⟩ := hD.files
          have hnb : ∀ (p : Addr) (v : Value), w3.cell? p = some v → p.block ≠ b := fun p v hp hpb => by
            unfold World.cell? at hp
            rw [hpb, hbm] at hp
            cases hp
          have hcc : ∀ (p : Addr) (v : Value), w3.cell? p = some v → W.cell? p = some v → w7.cell? p = some v := fun p v hp hW => by
            have h2 := hgr.block p.block (World.block_lt_of_cell? W _ hW) (by have := hnb p v hp; simpa using this)
            unfold World.cell? at hW ⊢
            rw [h2]
            exact hW
          exact ⟨hcc _ _ kq3 e1, hcc _ _ kq0 e2, hcc _ _ kq1 e3⟩⟩
        have H38 : Aside0 (∀ W, Below w3.heap.size w3 W → Calls Try.prog 38 #[.slice A1 d.length c1] W fun e w' => ∃ v, e = .returned v ∧ Kd.R (Kd.int .u8) 5 w' w3.heap.size (fun _ => True) v d ∧ Below W.heap.size W w' ∧ Below w3.heap.size w3 w') := ⟨fun W hb => by
          refine (clone_calls d A1 c1 (by have := HDL.out; omega) W (Kd.C_below HC3.out hb)).mono ?_
          rintro e w' ⟨v, rfl, hr, hb'⟩
          exact ⟨v, rfl, Kd.R_lower hr hb.size, hb', below_step hb hb'⟩⟩
        have hkey := WideMaps.keyOf_string_mk Try.underlying9 (s := nm) (by have := HGD.out; unfold nameB at this; rw [Bool.and_eq_true, decide_eq_true_eq] at this; unfold maxLen; omega)
        have HUP : Aside0 (∀ (w6 : World) (vA vB : Value), Below w3.heap.size w3 w6 → Kd.R (Kd.int .u8) 5 w6 w3.heap.size (fun _ => True) vA d → Kd.R (Kd.int .u8) 5 w6 w3.heap.size (fun _ => True) vB d → ∃ w7, Sem.run Try.prog (Instr.mapUpdate 57 (.map (some b)) (.string nm) (.pointer (some ⟨w6.heap.size, 0, none⟩))) (w6.alloc (.cells #[vA, vB] 82)) = .ok () w7 ∧ NewAt w w7 fs g b (i + 1) ∧
            (w7.cell? ⟨g, 3, none⟩ = some (.map (some b)) ∧ w7.cell? ⟨q, 0, none⟩ = some (.string nm) ∧ w7.cell? ⟨q, 1, none⟩ = some (.slice A1 d.length c1))) := ⟨fun w6 vA vB h36 hA hB => by
          have hm6 : Files (w6.alloc (.cells #[vA, vB] 82)) b i D := World.ownsMap.alloc (Files.of_block HD.out.files (h36.block b (World.ownsMap.lt HD.out.files))) _
          obtain ⟨w7, hrun7, hm7, hgr7⟩ := World.ownsMap.update hm6 K9 Try.underlying57 (by have := HOK.out.few; have := HLT.out; unfold maxLen; omega) hkey (ptrE_pv (some w6.heap.size))
          exact ⟨w7, hrun7, new_step HD.out HDS.out HDB.out (by have := HOK.out.few; have := HLT.out; omega) HGD.out HDL.out HFR.out HGM.out h36 hA hB hm7 hgr7, KQ.out _ w7 (below_alloc h36 _) hgr7⟩⟩
        clear hD hDs hDb kq0 kq1 kq3 k0' k1' hw3 HN2 HHN
        go_region_held3 (fun w' => w'.cell? ⟨g, 3, none⟩ = some (.map (some b)) ∧ w'.cell? ⟨q, 0, none⟩ = some (.string nm) ∧ w'.cell? ⟨q, 1, none⟩ = some (.slice A1 d.length c1))
          (first | exact (Aside0.out ‹Aside0 (_ ∧ _)›) | exact KP.out _ (by repeat (first | exact Below.refl _ _ | exact (Aside0.out ‹Aside0 (Below w3.heap.size w3 _)›) | apply pw_below_drewN | apply below_drew1 | apply below_alloc)))
          (first
            | (go_at_call 38; have hRA := HRA.out; refine (H38.out _ HBA.out).mono ?_; rintro e w6 ⟨v6, rfl, hr, hb', hb⟩; have HRA := Aside0.mk (Kd.R_below hRA hb'); have HRB := Aside0.mk hr; have HBB := Aside0.mk hb; clear hr hb hb' hRA; obtain ⟨A6, c6, rfl⟩ := Kd.R_slice HRB.out)
            | (go_at_call 38; refine (H38.out _ (by repeat (first | exact Below.refl _ _ | apply pw_below_drewN | apply below_drew1))).mono ?_; rintro e w5 ⟨v5, rfl, hr, _, hb⟩; have HRA := Aside0.mk hr; have HBA := Aside0.mk hb; clear hr hb; obtain ⟨A5, c5, rfl⟩ := Kd.R_slice HRA.out)
            | (obtain ⟨w7, hrun7, hN7, hS7⟩ := HUP.out w6 (.slice A5 d.length c5) (.slice A6 d.length c6) HBB.out HRA.out HRB.out; have HN7 := Aside0.mk hN7; have HS7 := Aside0.mk hS7; rw [hrun7]; clear hrun7 hN7 hS7))
        go_wp2_with fail
        go_roundg (gk - 1)
        case measure => exact (tk_next _ _ _ HIK.out HLT.out).1
        case rel => exact ⟨i + 1, ⟨(tk_next _ _ _ HIK.out HLT.out).2⟩, (by rw [wrap64_in _ (by omega) (by have := HOK.out.few; have := HLT.out; omega)]; rfl), ⟨HN7.out⟩⟩
      · obtain ⟨j, hj⟩ : ∃ j, j + 1 = i := ⟨i - 1, by omega⟩
        have hgt : decide ((0 : Int) < (i : Int)) = true := decide_eq_true (by omega)
        have hgtn : decide (0 < i) = true := decide_eq_true (by omega)
        have hwj : wrap64 ((i : Int) - 1) = (j : Int) := by rw [wrap64_in _ (by omega) (by have := HOK.out.few; have := HLT.out; omega)]; omega
        obtain ⟨adj, Aj, cj, ej, knj, hzj1, hzj2, hzj3⟩ := at_T40 HCA.out (j : Int) (by omega) (by have := HLT.out; omega)
        clear hzj1 hzj2 hzj3
        injection ej with ej
        subst ej
        rw [Int.toNat_natCast] at knj
        have hlj : Op.bytesLess (rd_T40 fs (j : Int)).f0.toList nm.toList = true := HNX.out j hj
        have qj : ((j : Int) < (fs.length : Int)) = True := eq_true (by have := HLT.out; omega)
        have pj : ((0 : Int) ≤ (j : Int)) = True := eq_true (by omega)
        generalize (rd_T40 fs (j : Int)).f0 = nj at *
        clear h0 hj
        go_quiet (first | (go_at_call 37; refine (disk_good.calls _ _ _ _ HG.out).mono ?_; rintro e w' ⟨rfl, ⟨nd, rfl⟩⟩; (first | exact ⟨rfl, _, World.drewN_drewN _ _ _⟩ | exact ⟨rfl, _, rfl⟩)))
        go_upto_region 7 with (fail)
        clear hgt hgtn hwj knj hlj qj pj hd hdn
        obtain ⟨w3, hw3⟩ : ∃ w3, w3 = w2.drewN nq := ⟨_, rfl⟩
        obtain ⟨⟨D, hD, hDs⟩, hDb⟩ := HN2.out.drewN nq
        have HC3 : Aside0 (Kd.C (Kd.int .u8) (w2.drewN nq) A1 d.length d) := ⟨Kd.C_drewN HC1.out _⟩
        have kq0 : (w2.drewN nq).cell? ⟨q, 0, none⟩ = some (.string nm) := k0'
        have kq1 : (w2.drewN nq).cell? ⟨q, 1, none⟩ = some (.slice A1 d.length c1) := k1'
        have kq3 : (w2.drewN nq).cell? ⟨g, 3, none⟩ = some (.map (some b)) := (blk_cell hD.pow 3).trans rfl
        rw [← hw3] at hD hDb HC3 kq0 kq1 kq3 ⊢
        have HD := Aside0.mk hD
        have HDS := Aside0.mk hDs
        have HDB := Aside0.mk hDb
        have KP : Aside0 (∀ W, Below w3.heap.size w3 W → W.cell? ⟨g, 3, none⟩ = some (.map (some b)) ∧ W.cell? ⟨q, 0, none⟩ = some (.string nm) ∧ W.cell? ⟨q, 1, none⟩ = some (.slice A1 d.length c1)) := ⟨fun W hb => ⟨(hb.cell (World.block_lt_of_cell? w3 _ kq3)).trans kq3, (hb.cell (World.block_lt_of_cell? w3 _ kq0)).trans kq0, (hb.cell (World.block_lt_of_cell? w3 _ kq1)).trans kq1⟩⟩
        have KQ : Aside0 (∀ W w7 : World, Below w3.heap.size w3 W → W.grownBy w7 (some b) → w7.cell? ⟨g, 3, none⟩ = some (.map (some b)) ∧ w7.cell? ⟨q, 0, none⟩ = some (.string nm) ∧ w7.cell? ⟨q, 1, none⟩ = some (.slice A1 d.length c1)) := ⟨fun W w7 hb hgr => by
          obtain ⟨e1, e2, e3⟩ := KP.out W hb
          obtain ⟨es, clk, hbm, _⟩ := hD.files
          have hnb : ∀ (p : Addr) (v : Value), w3.cell? p = some v → p.block ≠ b := fun p v hp hpb => by
            unfold World.cell? at hp
            rw [hpb, hbm] at hp
            cases hp
          have hcc : ∀ (p : Addr) (v : Value), w3.cell? p = some v → W.cell? p = some v → w7.cell? p = some v := fun p v hp hW => by
            have h2 := hgr.block p.block (World.block_lt_of_cell? W _ hW) (by have := hnb p v hp; simpa using this)
            unfold World.cell? at hW ⊢
            rw [h2]
            exact hW
          exact ⟨hcc _ _ kq3 e1, hcc _ _ kq0 e2, hcc _ _ kq1 e3⟩⟩
        have H38 : Aside0 (∀ W, Below w3.heap.size w3 W → Calls Try.prog 38 #[.slice A1 d.length c1] W fun e w' => ∃ v, e = .returned v ∧ Kd.R (Kd.int .u8) 5 w' w3.heap.size (fun _ => True) v d ∧ Below W.heap.size W w' ∧ Below w3.heap.size w3 w') := ⟨fun W hb => by
          refine (clone_calls d A1 c1 (by have := HDL.out; omega) W (Kd.C_below HC3.out hb)).mono ?_
          rintro e w' ⟨v, rfl, hr, hb'⟩
          exact ⟨v, rfl, Kd.R_lower hr hb.size, hb', below_step hb hb'⟩⟩
        have hkey := WideMaps.keyOf_string_mk Try.underlying9 (s := nm) (by have := HGD.out; unfold nameB at this; rw [Bool.and_eq_true, decide_eq_true_eq] at this; unfold maxLen; omega)
        have HUP : Aside0 (∀ (w6 : World) (vA vB : Value), Below w3.heap.size w3 w6 → Kd.R (Kd.int .u8) 5 w6 w3.heap.size (fun _ => True) vA d → Kd.R (Kd.int .u8) 5 w6 w3.heap.size (fun _ => True) vB d → ∃ w7, Sem.run Try.prog (Instr.mapUpdate 57 (.map (some b)) (.string nm) (.pointer (some ⟨w6.heap.size, 0, none⟩))) (w6.alloc (.cells #[vA, vB] 82)) = .ok () w7 ∧ NewAt w w7 fs g b (i + 1) ∧
            (w7.cell? ⟨g, 3, none⟩ = some (.map (some b)) ∧ w7.cell? ⟨q, 0, none⟩ = some (.string nm) ∧ w7.cell? ⟨q, 1, none⟩ = some (.slice A1 d.length c1))) := ⟨fun w6 vA vB h36 hA hB => by
          have hm6 : Files (w6.alloc (.cells #[vA, vB] 82)) b i D := World.ownsMap.alloc (Files.of_block HD.out.files (h36.block b (World.ownsMap.lt HD.out.files))) _
          obtain ⟨w7, hrun7, hm7, hgr7⟩ := World.ownsMap.update hm6 K9 Try.underlying57 (by have := HOK.out.few; have := HLT.out; unfold maxLen; omega) hkey (ptrE_pv (some w6.heap.size))
          exact ⟨w7, hrun7, new_step HD.out HDS.out HDB.out (by have := HOK.out.few; have := HLT.out; omega) HGD.out HDL.out HFR.out HGM.out h36 hA hB hm7 hgr7, KQ.out _ w7 (below_alloc h36 _) hgr7⟩⟩
        clear hD hDs hDb kq0 kq1 kq3 k0' k1' hw3 HN2 HHN
        go_region_held3 (fun w' => w'.cell? ⟨g, 3, none⟩ = some (.map (some b)) ∧ w'.cell? ⟨q, 0, none⟩ = some (.string nm) ∧ w'.cell? ⟨q, 1, none⟩ = some (.slice A1 d.length c1))
          (first | exact (Aside0.out ‹Aside0 (_ ∧ _)›) | exact KP.out _ (by repeat (first | exact Below.refl _ _ | exact (Aside0.out ‹Aside0 (Below w3.heap.size w3 _)›) | apply pw_below_drewN | apply below_drew1 | apply below_alloc)))
          (first
            | (go_at_call 38; have hRA := HRA.out; refine (H38.out _ HBA.out).mono ?_; rintro e w6 ⟨v6, rfl, hr, hb', hb⟩; have HRA := Aside0.mk (Kd.R_below hRA hb'); have HRB := Aside0.mk hr; have HBB := Aside0.mk hb; clear hr hb hb' hRA; obtain ⟨A6, c6, rfl⟩ := Kd.R_slice HRB.out)
            | (go_at_call 38; refine (H38.out _ (by repeat (first | exact Below.refl _ _ | apply pw_below_drewN | apply below_drew1))).mono ?_; rintro e w5 ⟨v5, rfl, hr, _, hb⟩; have HRA := Aside0.mk hr; have HBA := Aside0.mk hb; clear hr hb; obtain ⟨A5, c5, rfl⟩ := Kd.R_slice HRA.out)
            | (obtain ⟨w7, hrun7, hN7, hS7⟩ := HUP.out w6 (.slice A5 d.length c5) (.slice A6 d.length c6) HBB.out HRA.out HRB.out; have HN7 := Aside0.mk hN7; have HS7 := Aside0.mk hS7; rw [hrun7]; clear hrun7 hN7 hS7))
        go_wp2_with fail
        go_roundg (gk - 1)
        case measure => exact (tk_next _ _ _ HIK.out HLT.out).1
        case rel => exact ⟨i + 1, ⟨(tk_next _ _ _ HIK.out HLT.out).2⟩, (by rw [wrap64_in _ (by omega) (by have := HOK.out.few; have := HLT.out; omega)]; rfl), ⟨HN7.out⟩⟩
    · have clt : decide ((i : Int) < (fs.length : Int)) = false := decide_eq_false (by omega)
      have clt2 : decide (i < fs.length) = false := decide_eq_false hlt
      have hi : i = fs.length := by have := HIK.out; omega
      subst hi
      go_wp2_with fail
      go_ret2
      exact ⟨_, b, rfl, HN.out⟩
end Go.Proofs.Ytoonepmnlgfikaa.D
