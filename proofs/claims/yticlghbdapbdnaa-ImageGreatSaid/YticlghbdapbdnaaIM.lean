/- Sessions: rows of one's own (IRd, IGet, IStr, ISta, IPar). -/
import Derived.Test.YticlghbdapbdnaaIx20
import Derived.Test.YticlghbdapbdnaaIS
import Derived.Test.YticlghbdapbdnaaIx0
import Derived.Laws.AppendOwn
import Derived.Test.YticlghbdapbdnaaIx19
/-! IRd -/
namespace Go.Proofs.Yticlghbdapbdnaa.I
open Go.RowKit Go.Proofs.YticlghbdapbdnaaW.PrintWords Go.Proofs.YticlghbdapbdnaaW.PrintLast Go.Proofs.YticlghbdapbdnaaW.PrintMore Go.Proofs.Yticlghbdapbdnaa.Base
set_option linter.unusedVariables false
set_option linter.unusedSimpArgs false
theorem info5' : (Try.prog.info? 5).map (fun i => (i.zero, i.size, i.bytes)) = some (some (.int .u8 0), 1, 1) := by kernel_rfl
theorem info9' : (Try.prog.info? 9).map (fun i => (i.zero, i.size, i.bytes)) = some (some (.string ⟨#[]⟩), 1, 16) := by kernel_rfl
theorem grown_drewN (w : World) (m : Nat) (row : Option Nat) : w.grownBy (w.drewN m) row := ⟨rfl, rfl, rfl, Nat.le_refl _, fun _ _ _ => rfl⟩
theorem grown_of_below {w w1 : World} (h : Below w.heap.size w w1) (row : Option Nat) : w.grownBy w1 row := ⟨h.os, h.tape, h.output, h.size, fun i hi _ => h.block i hi⟩
/-- A reader at block g: what is left (it lies below B), and whether something was wrong. -/
def RdAt {α : Type} (t : TypeId) (d : Kd α) (B : Nat) (w : World) (g : Nat) (A : Option Addr) (c : Nat) (xs : List α) (bad : Bool) : Prop :=
  w.heap[g]? = some (.cells #[.slice A xs.length c, .bool bad] t (0, 0)) ∧ (∀ W : World, (∀ i, i < B → W.heap[i]? = w.heap[i]?) → d.C W A xs.length xs) ∧ xs.length ≤ c ∧ B ≤ g
theorem keepB {w W : World} {g B : Nat} {o : Obj} (h : w.grownBy W (some g)) (hg : w.heap[g]? = some o) (hB : B ≤ g) : ∀ i, i < B → W.heap[i]? = w.heap[i]? := fun i hi => h.block i (by have := blk_lt hg; omega) (fun e => by have := Option.some.inj e; omega)
theorem RdAt.keep {α : Type} {t : TypeId} {d : Kd α} {B : Nat} {w W : World} {g : Nat} {A : Option Addr} {c : Nat} {xs : List α} {bad : Bool} (h : RdAt t d B w g A c xs bad) (hk : ∀ i, i < B → W.heap[i]? = w.heap[i]?) (hg : W.heap[g]? = w.heap[g]?) : RdAt t d B W g A c xs bad :=
  ⟨hg.trans h.1, fun W' h' => h.2.1 W' (fun i hi => (h' i hi).trans (hk i hi)), h.2.2.1, h.2.2.2⟩
theorem RdAt.below {α : Type} {t : TypeId} {d : Kd α} {B : Nat} {w W : World} {g : Nat} {A : Option Addr} {c : Nat} {xs : List α} {bad : Bool} (h : RdAt t d B w g A c xs bad) (hb : Below w.heap.size w W) : RdAt t d B W g A c xs bad :=
  h.keep (fun i hi => hb.block i (by have := blk_lt h.1; have := h.2.2.2; omega)) (hb.block g (blk_lt h.1))
theorem C_of_heap {α : Type} {enc : α → Value} {h1 : ∀ x : α, (enc x).oneCell' = true} (dd : α) {w W : World} {A : Option Addr} {n : Nat} {xs : List α} (h : (Kd.scalar enc h1).C w A n xs) (hk : ∀ i, i < w.heap.size → W.heap[i]? = w.heap[i]?) : (Kd.scalar enc h1).C W A n xs := by
  have hr := Kd.reads_of_C (d := dd) h
  refine Kd.C_of_reads (d := dd) ⟨hr.1, hr.2.1, fun hn => ?_⟩
  obtain ⟨ad, e, hc⟩ := hr.2.2 hn
  refine ⟨ad, e, fun j hj => ?_⟩
  have h1 := hc j hj
  have h2 := World.block_lt_of_cell? w _ h1
  unfold World.cell? at h1 ⊢
  rw [hk _ h2]
  exact h1
def rdNum (k : Nat) (bs : List Int) (bad : Bool) : Option (Int × List Int × Bool) :=
  (wire_GetNum.f k bs).bind fun t => if bad = true then some (0, bs, true) else if t.2.2 ≠ 0 then some (0, bs, true) else if t.1 > (bs.length : Int) - t.2.1 then some (0, bs, true) else if 0 ≤ t.1 ∧ 1 ≤ t.2.1 ∧ t.2.1 ≤ bs.length then some (t.1, bs.drop t.2.1.toNat, false) else none
theorem num_facts (l : Nat) (r1 r2 : Int) (h1 : 1 ≤ r2) (h2 : r2 ≤ l) (hl : l ≤ 9223372036854775807) : wrap64 ((l : Int) - r2) = (l : Int) - r2 := wrap64_in _ (by omega) (by omega)
theorem getnum_size_l : ∀ (k : Nat) (x : Int) (l : List Int) (j : Int), 0 ≤ j → j ≤ l.length → l.length ≤ 9223372036854775806 → ∀ r1 r2 r3, wire_GetNum.l0 k x l (l.length : Int) j = some (r1, r2, r3) → r3 = 0 → 1 ≤ r2 ∧ r2 ≤ l.length
  | 0, _, _, _, _, _, _, _, _, _, h, _ => by simp [wire_GetNum.l0] at h
  | k + 1, x, l, j, h0, hj, hl, r1, r2, r3, h, e => by
    rw [wire_GetNum.l0] at h
    by_cases c1 : j < (l.length : Int)
    · rw [if_pos c1, if_pos h0, if_pos c1] at h
      have hw : wrap64 (j + 1) = j + 1 := wrap64_in _ (by omega) (by omega)
      split at h
      · cases h; cases e
      · split at h
        · split at h
          · split at h
            · split at h
              · cases h; cases e
              · cases h; omega
            · cases h; omega
          · rw [hw] at h
            exact getnum_size_l k _ l (j + 1) (by omega) (by omega) hl r1 r2 r3 h e
        · cases h
    · rw [if_neg c1] at h
      cases h; cases e
theorem getnum_size {k : Nat} {l : List Int} {r1 r2 r3 : Int} (h : wire_GetNum.f k l = some (r1, r2, r3)) (e : r3 = 0) (hl : l.length ≤ 9223372036854775806) : 1 ≤ r2 ∧ r2 ≤ l.length :=
  getnum_size_l k 0 l 0 (by omega) (by omega) hl r1 r2 r3 h e
set_option maxHeartbeats 1600000 in
set_option maxRecDepth 100000 in
theorem wnum_calls (k g B : Nat) (A : Option Addr) (c : Nat) (bs : List Int) (bad : Bool) (n : Int) (bs' : List Int) (bad' : Bool) (w : World) (hbl : bs.length ≤ 9223372036854775806) (H : RdAt 68 (Kd.int .u8) B w g A c bs bad) (h : rdNum k bs bad = some (n, bs', bad')) :
    Calls Try.prog 25 #[.pointer (some ⟨g, 0, none⟩)] w fun e w' => e = .returned (.int .i64 n) ∧ (∃ A' c', RdAt 68 (Kd.int .u8) B w' g A' c' bs' bad') ∧ w.grownBy w' (some g) := by
  obtain ⟨hg, hCA, hc, hf⟩ := H
  have hC := hCA w (fun _ _ => rfl)
  have HCA := Aside0.mk hCA
  clear hCA
  unfold rdNum at h
  obtain ⟨⟨r1, r2, r3⟩, h39, hh⟩ := Option.bind_eq_some_iff.mp h
  clear h
  have h := hh
  clear hh
  dsimp only at h
  have HG := Aside0.mk hg
  have HC := Aside0.mk hC
  have HCC := Aside0.mk hc
  have HF := Aside0.mk hf
  have H39 := Aside0.mk h39
  have hu68 := Try.underlying68
  have c0 : w.cell? ⟨g, 0, none⟩ = some (.slice A bs.length c) := (blk_cell hg 0).trans rfl
  have c1 : w.cell? ⟨g, 1, none⟩ = some (.bool bad) := (blk_cell hg 1).trans rfl
  have hmax := Kd.C_max hC
  by_cases hb : bad = true
  · rw [if_pos hb] at h
    cases h
    subst hb
    clear hg hC hc hf h39 hmax
    go_enter Try.func25, Try.ntmps25
    go_wp2_with fail
    refine (wire_GetNum.calls k A c bs r1 r2 r3 w HC.out HCC.out H39.out).mono ?_
    rintro e w1 ⟨rfl, hd⟩
    obtain ⟨m, hm⟩ := hd
    have hg1 : w1.heap[g]? = some (.cells #[.slice A bs.length c, .bool true] 68 (0, 0)) := (congrArg (fun z => z.heap[g]?) hm).trans HG.out
    have HG1 := Aside0.mk hg1
    have HM := Aside0.mk hm
    have d1 : w1.cell? ⟨g, 1, none⟩ = some (.bool true) := (blk_cell hg1 1).trans rfl
    have g1 := blk_frozen hg1 1
    clear hg1 hm
    go_wp2_with fail
    go_ret
    exact ⟨rfl, ⟨A, c, blk_set HG1.out 1 (.bool true), fun W hW => HCA.out W (fun i hi => (hW i hi).trans (keepB (by rw [HM.out]; exact (grown_drewN w m _).trans (grown_set _ ⟨g, 1, none⟩ _)) HG.out HF.out i hi)), HCC.out, HF.out⟩, by rw [HM.out]; exact (grown_drewN w m _).trans (grown_set _ ⟨g, 1, none⟩ _)⟩
  · rw [if_neg hb] at h
    have hb' : bad = false := by simpa using hb
    subst hb'
    by_cases h3 : r3 ≠ 0
    · rw [if_pos h3] at h
      cases h
      have b3 : (r3 != 0) = true := bne_iff_ne.mpr h3
      clear hg hC hc hf h39 hmax h3 hb
      go_enter Try.func25, Try.ntmps25
      go_wp2_with fail
      refine (wire_GetNum.calls k A c bs r1 r2 r3 w HC.out HCC.out H39.out).mono ?_
      rintro e w1 ⟨rfl, hd⟩
      obtain ⟨m, hm⟩ := hd
      have hg1 : w1.heap[g]? = some (.cells #[.slice A bs.length c, .bool false] 68 (0, 0)) := (congrArg (fun z => z.heap[g]?) hm).trans HG.out
      have HG1 := Aside0.mk hg1
      have HM := Aside0.mk hm
      have d1 : w1.cell? ⟨g, 1, none⟩ = some (.bool false) := (blk_cell hg1 1).trans rfl
      have g1 := blk_frozen hg1 1
      clear hg1 hm
      go_wp2_with fail
      go_ret
      exact ⟨rfl, ⟨A, c, blk_set HG1.out 1 (.bool true), fun W hW => HCA.out W (fun i hi => (hW i hi).trans (keepB (by rw [HM.out]; exact (grown_drewN w m _).trans (grown_set _ ⟨g, 1, none⟩ _)) HG.out HF.out i hi)), HCC.out, HF.out⟩, by rw [HM.out]; exact (grown_drewN w m _).trans (grown_set _ ⟨g, 1, none⟩ _)⟩
    · rw [if_neg h3] at h
      have e3 : r3 = 0 := by omega
      have b3 : (r3 != 0) = false := by rw [e3]; rfl
      by_cases hgt : r1 > (bs.length : Int) - r2
      · rw [if_pos hgt] at h
        cases h
        have hsz := getnum_size h39 e3 hbl
        have hw := num_facts bs.length r1 r2 hsz.1 hsz.2 hmax
        have hd1 : decide ((bs.length : Int) - r2 < r1) = true := decide_eq_true hgt
        clear hg hC hc hf h39 hmax h3 hb e3 hgt hsz
        go_enter Try.func25, Try.ntmps25
        go_wp2_with fail
        refine (wire_GetNum.calls k A c bs r1 r2 r3 w HC.out HCC.out H39.out).mono ?_
        rintro e w1 ⟨rfl, hd⟩
        obtain ⟨m, hm⟩ := hd
        have hg1 : w1.heap[g]? = some (.cells #[.slice A bs.length c, .bool false] 68 (0, 0)) := (congrArg (fun z => z.heap[g]?) hm).trans HG.out
        have HG1 := Aside0.mk hg1
        have HM := Aside0.mk hm
        have d0 : w1.cell? ⟨g, 0, none⟩ = some (.slice A bs.length c) := (blk_cell hg1 0).trans rfl
        have d1 : w1.cell? ⟨g, 1, none⟩ = some (.bool false) := (blk_cell hg1 1).trans rfl
        have g1 := blk_frozen hg1 1
        clear hg1 hm
        go_wp2_with fail
        go_ret
        exact ⟨rfl, ⟨A, c, blk_set HG1.out 1 (.bool true), fun W hW => HCA.out W (fun i hi => (hW i hi).trans (keepB (by rw [HM.out]; exact (grown_drewN w m _).trans (grown_set _ ⟨g, 1, none⟩ _)) HG.out HF.out i hi)), HCC.out, HF.out⟩, by rw [HM.out]; exact (grown_drewN w m _).trans (grown_set _ ⟨g, 1, none⟩ _)⟩
      · rw [if_neg hgt] at h
        by_cases hok : 0 ≤ r1 ∧ 1 ≤ r2 ∧ r2 ≤ bs.length
        · rw [if_pos hok] at h
          cases h
          have hw := num_facts bs.length n r2 hok.2.1 hok.2.2 hmax
          have hd1 : decide ((bs.length : Int) - r2 < n) = false := decide_eq_false hgt
          obtain ⟨i5, hi5, _, hsz5, _⟩ := info_parts info5'
          have hcut := cut_from (P := Try.prog) 23 5 .i64 Try.underlying23 hi5 1 hsz5 A bs.length c r2 (by omega) hok.2.2
          have hlen : (bs.drop r2.toNat).length = bs.length - r2.toNat := List.length_drop
          rw [← hlen] at hcut
          have HC2 : Aside0 (∀ W : World, (∀ i, i < B → W.heap[i]? = w.heap[i]?) → (Kd.int .u8).C W (if c = r2.toNat then A else A.map (·.add (r2.toNat * 1))) (bs.drop r2.toNat).length (bs.drop r2.toNat)) := ⟨fun W hW => Kd.C_drop (m := r2.toNat) (c := c) (HCA.out W hW) (by omega) hc⟩
          have HC3 : Aside0 ((bs.drop r2.toNat).length ≤ c - r2.toNat) := ⟨by rw [hlen]; omega⟩
          generalize bs.drop r2.toNat = bs2 at *
          clear hlen
          obtain ⟨A2, hA2⟩ : ∃ A2, A2 = (if c = r2.toNat then A else A.map (·.add (r2.toNat * 1))) := ⟨_, rfl⟩
          obtain ⟨c2, hc2⟩ : ∃ c2, c2 = c - r2.toNat := ⟨_, rfl⟩
          rw [← hA2] at hcut
          have HC2 : Aside0 (∀ W : World, (∀ i, i < B → W.heap[i]? = w.heap[i]?) → (Kd.int .u8).C W A2 bs2.length bs2) := ⟨by rw [hA2]; exact HC2.out⟩
          rw [← hc2] at HC3 hcut
          clear hg hC hc hf h39 hmax h3 hb e3 hgt hi5 hsz5 hA2 hc2 hok
          go_enter Try.func25, Try.ntmps25
          go_wp2_with fail
          refine (wire_GetNum.calls k A c bs n r2 r3 w HC.out HCC.out H39.out).mono ?_
          rintro e w1 ⟨rfl, hd⟩
          obtain ⟨m, hm⟩ := hd
          have hg1 : w1.heap[g]? = some (.cells #[.slice A bs.length c, .bool false] 68 (0, 0)) := (congrArg (fun z => z.heap[g]?) hm).trans HG.out
          have HG1 := Aside0.mk hg1
          have HM := Aside0.mk hm
          have d0 : w1.cell? ⟨g, 0, none⟩ = some (.slice A bs.length c) := (blk_cell hg1 0).trans rfl
          have d1 : w1.cell? ⟨g, 1, none⟩ = some (.bool false) := (blk_cell hg1 1).trans rfl
          have g1 := blk_frozen hg1 1
          have g0 := blk_frozen hg1 0
          clear hg1 hm
          go_wp2_with fail
          go_ret
          exact ⟨rfl, ⟨A2, c2, blk_set HG1.out 0 (.slice A2 bs2.length c2), fun W hW => HC2.out W (fun i hi => (hW i hi).trans (keepB (by rw [HM.out]; exact (grown_drewN w m _).trans (grown_set _ ⟨g, 0, none⟩ _)) HG.out HF.out i hi)), HC3.out, HF.out⟩, by rw [HM.out]; exact (grown_drewN w m _).trans (grown_set _ ⟨g, 0, none⟩ _)⟩
        · rw [if_neg hok] at h
          cases h
def rdText (k : Nat) (bs : List Int) (bad : Bool) : Option (ByteArray × List Int × Bool) :=
  (rdNum k bs bad).bind fun t => if 0 ≤ t.1 ∧ t.1 ≤ (t.2.1.length : Int) then some (strOfNums (t.2.1.take t.1.toNat), t.2.1.drop t.1.toNat, t.2.2) else none
theorem rdNum_len {k : Nat} {bs : List Int} {bad : Bool} {n : Int} {bs' : List Int} {bad' : Bool} (h : rdNum k bs bad = some (n, bs', bad')) : bs'.length ≤ bs.length := by
  unfold rdNum at h
  obtain ⟨⟨r1, r2, r3⟩, h39, hh⟩ := Option.bind_eq_some_iff.mp h
  dsimp only at hh
  repeat' split at hh
  all_goals first | (cases hh; done) | (cases hh; first | exact Nat.le_refl _ | (rw [List.length_drop]; omega))
set_option maxHeartbeats 1600000 in
set_option maxRecDepth 100000 in
theorem wtext_calls (k g B : Nat) (A : Option Addr) (c : Nat) (bs : List Int) (bad : Bool) (s : ByteArray) (bs' : List Int) (bad' : Bool) (w : World) (hbl : bs.length ≤ 9223372036854775806) (H : RdAt 68 (Kd.int .u8) B w g A c bs bad) (h : rdText k bs bad = some (s, bs', bad')) :
    Calls Try.prog 26 #[.pointer (some ⟨g, 0, none⟩)] w fun e w' => e = .returned (.string s) ∧ (∃ A' c', RdAt 68 (Kd.int .u8) B w' g A' c' bs' bad') ∧ w.grownBy w' (some g) := by
  unfold rdText at h
  obtain ⟨⟨n, b2, d2⟩, hn, hh⟩ := Option.bind_eq_some_iff.mp h
  clear h
  dsimp only at hh
  by_cases hok : 0 ≤ n ∧ n ≤ (b2.length : Int)
  · rw [if_pos hok] at hh
    obtain ⟨bs2, hbs2⟩ : ∃ bs2, bs2 = b2.drop n.toNat := ⟨_, rfl⟩
    rw [← hbs2] at hh
    cases hh
    have HH := Aside0.mk H
    have HN := Aside0.mk hn
    have HBL := Aside0.mk hbl
    have HOK := Aside0.mk hok
    have hu68 := Try.underlying68
    clear H hn hbl hok
    go_enter Try.func26, Try.ntmps26
    go_wp2_with fail
    refine (wnum_calls k g B A c bs bad n b2 bad' w HBL.out HH.out HN.out).mono ?_
    rintro e w1 ⟨rfl, ⟨A1, c1, hR⟩, hgr⟩
    obtain ⟨hg1, hCA1, hc1, hf1⟩ := hR
    have hC1 := hCA1 w1 (fun _ _ => rfl)
    have HGR := Aside0.mk hgr
    have HG1 := Aside0.mk hg1
    have d0 : w1.cell? ⟨g, 0, none⟩ = some (.slice A1 b2.length c1) := (blk_cell hg1 0).trans rfl
    have g0 := blk_frozen hg1 0
    obtain ⟨i5, hi5, _, hsz5, _⟩ := info_parts info5'
    have hcut0 := cut_to (P := Try.prog) 23 5 .i64 Try.underlying23 hi5 A1 b2.length c1 n HOK.out.1 HOK.out.2 hc1
    have hcut := cut_from (P := Try.prog) 23 5 .i64 Try.underlying23 hi5 1 hsz5 A1 b2.length c1 n HOK.out.1 HOK.out.2
    have hmx := HOK.out.2
    have hnn := HOK.out.1
    have hC3 := Kd.C_take (m := n.toNat) hC1 (by omega)
    have hlen : (b2.drop n.toNat).length = b2.length - n.toNat := List.length_drop
    have hlen3 : (b2.take n.toNat).length = n.toNat := by rw [List.length_take]; omega
    have hcv := Kd.C_string (P := Try.prog) (c := c1) Try.underlying23 Try.underlying5 Try.underlying9 hC3
    rw [hlen3] at hcv
    rw [← hlen] at hcut
    have HC2 : Aside0 (∀ W : World, (∀ i, i < B → W.heap[i]? = w1.heap[i]?) → (Kd.int .u8).C W (if c1 = n.toNat then A1 else A1.map (·.add (n.toNat * 1))) (b2.drop n.toNat).length (b2.drop n.toNat)) := ⟨fun W hW => Kd.C_drop (m := n.toNat) (c := c1) (hCA1 W hW) (by omega) hc1⟩
    have HF1 := Aside0.mk hf1
    have HC3 : Aside0 ((b2.drop n.toNat).length ≤ c1 - n.toNat) := ⟨by rw [hlen]; omega⟩
    rw [← hbs2] at hlen HC3 hcut
    have HC2 : Aside0 (∀ W : World, (∀ i, i < B → W.heap[i]? = w1.heap[i]?) → (Kd.int .u8).C W (if c1 = n.toNat then A1 else A1.map (·.add (n.toNat * 1))) bs'.length bs') := ⟨by rw [hbs2]; exact HC2.out⟩
    clear hlen hlen3 hbs2
    obtain ⟨A2, hA2⟩ : ∃ A2, A2 = (if c1 = n.toNat then A1 else A1.map (·.add (n.toNat * 1))) := ⟨_, rfl⟩
    obtain ⟨c2, hc2⟩ : ∃ c2, c2 = c1 - n.toNat := ⟨_, rfl⟩
    rw [← hA2] at hcut
    have HC2 : Aside0 (∀ W : World, (∀ i, i < B → W.heap[i]? = w1.heap[i]?) → (Kd.int .u8).C W A2 bs'.length bs') := ⟨by rw [hA2]; exact HC2.out⟩
    rw [← hc2] at HC3 hcut
    clear hg1 hC1 hCA1 hc1 hf1 hgr hi5 hsz5 hmx hnn hC3 hA2 hc2
    go_wp2_with fail
    go_ret
    exact ⟨rfl, ⟨A2, c2, blk_set HG1.out 0 _, fun W hW => HC2.out W (fun i hi => (hW i hi).trans (keepB (grown_set _ ⟨g, 0, none⟩ _) HG1.out HF1.out i hi)), HC3.out, HF1.out⟩, HGR.out.trans (grown_set _ ⟨g, 0, none⟩ _)⟩
  · rw [if_neg hok] at hh
    cases hh
end Go.Proofs.Yticlghbdapbdnaa.I
/-! IGet -/
namespace Go.Proofs.Yticlghbdapbdnaa.I
open Go.RowKit Go.Proofs.YticlghbdapbdnaaW.PrintWords Go.Proofs.YticlghbdapbdnaaW.PrintLast Go.Proofs.YticlghbdapbdnaaW.PrintMore Go.Proofs.Yticlghbdapbdnaa.Base
set_option linter.unusedVariables false
set_option linter.unusedSimpArgs false
def getL (k : Nat) : Nat → Int → List Int → Bool → List ByteArray → Option (List ByteArray × List Int × Bool)
  | 0, _, _, _, _ => none
  | f + 1, n, bs, bad, acc => if 0 < n then (if bad = true then some (acc, bs, true) else (rdText k bs false).bind fun t => if acc.length < 1099511627776 then getL k f (wrap64 (n - 1)) t.2.1 t.2.2 (acc ++ [t.1]) else none) else some (acc, bs, bad)
def wire_Get.f (k : Nat) (l0 : List Int) : Option (List ByteArray × Int) :=
  if l0.length ≤ 1099511627776 then (rdNum k l0 (decide (1048576 < (l0.length : Int)))).bind fun t => (getL k k t.1 t.2.1 t.2.2 []).bind fun u => some (if u.2.2 = true then ([], 1) else if 0 < u.2.1.length then ([], 1) else (u.1, 0)) else none
theorem rdNum_mono (k : Nat) (bs : List Int) (bad : Bool) : LeO (rdNum k bs bad) (rdNum (k + 1) bs bad) := LeO.bind (wire_GetNum.mono _ _) (fun _ => LeO.refl _)
theorem rdText_mono (k : Nat) (bs : List Int) (bad : Bool) : LeO (rdText k bs bad) (rdText (k + 1) bs bad) := LeO.bind (rdNum_mono _ _ _) (fun _ => LeO.refl _)
theorem getL_mono (k : Nat) : ∀ (f : Nat) (n : Int) (bs : List Int) (bad : Bool) (acc : List ByteArray), LeO (getL k f n bs bad acc) (getL (k + 1) (f + 1) n bs bad acc)
  | 0, _, _, _, _ => LeO.none _
  | f + 1, n, bs, bad, acc => by
    rw [getL, getL]
    refine LeO.ite (LeO.ite (LeO.refl _) (LeO.bind (rdText_mono _ _ _) (fun t => LeO.ite (getL_mono k f _ _ _ _) (LeO.refl _)))) (LeO.refl _)
theorem wire_Get.mono : ∀ a0 k, LeO (wire_Get.f k a0) (wire_Get.f (k + 1) a0) := by
  intro a0 k
  unfold wire_Get.f
  exact LeO.ite (LeO.bind (rdNum_mono _ _ _) (fun _ => LeO.bind (getL_mono _ _ _ _ _ _) (fun _ => LeO.refl _))) (LeO.refl _)
theorem rdText_len {k : Nat} {bs : List Int} {bad : Bool} {s : ByteArray} {bs' : List Int} {bad' : Bool} (h : rdText k bs bad = some (s, bs', bad')) : bs'.length ≤ bs.length := by
  unfold rdText at h
  obtain ⟨⟨n, b2, d2⟩, hn, hh⟩ := Option.bind_eq_some_iff.mp h
  dsimp only at hh
  have := rdNum_len hn
  split at hh
  · cases hh
    rw [List.length_drop]
    omega
  · cases hh
theorem below_grownG {w W W1 : World} {g : Nat} (h : Below w.heap.size w W) (hg : W.grownBy W1 (some g)) (hw : w.heap.size ≤ g) : Below w.heap.size w W1 :=
  pw_below_grown h _ h.size hg (fun k hk => by cases hk; exact hw)
theorem gt_facts (n : Int) : (0 < n → decide (0 < n) = true) ∧ (¬ 0 < n → decide (0 < n) = false) := ⟨decide_eq_true, decide_eq_false⟩
set_option maxHeartbeats 3200000 in
set_option maxRecDepth 100000 in
theorem wire_Get.calls (k : Nat) (A0 : Option Addr) (c0 : Nat) (l0 : List Int) (r1 : List ByteArray) (r2 : Int) (w : World) (hr0 : Kd.C (Kd.int .u8) w A0 l0.length l0) (hc0 : l0.length ≤ c0) (h : wire_Get.f k l0 = some (r1, r2)) :
    Calls Try.prog 13 #[.slice A0 l0.length c0] w fun e w' => ∃ v0_ : Value, e = .returned (.tuple #[v0_, .int .i64 r2]) ∧ Kd.R Kd.string 9 w' w.heap.size (fun _ => True) v0_ r1 ∧ Below w.heap.size w w' := by
  unfold wire_Get.f at h
  by_cases hlen : l0.length ≤ 1099511627776
  · rw [if_pos hlen] at h
    obtain ⟨⟨n0, b0, d0⟩, hnum, h1⟩ := Option.bind_eq_some_iff.mp h
    obtain ⟨⟨L, rb, rbad⟩, hget, h2⟩ := Option.bind_eq_some_iff.mp h1
    have h2 := Option.some.inj h2
    dsimp only at hget h2
    have HNUM := Aside0.mk hnum
    have HGET := Aside0.mk hget
    have HRES := Aside0.mk h2
    have HR0 := Aside0.mk hr0
    have HC0 := Aside0.mk hc0
    have HLEN := Aside0.mk hlen
    have hu68 := Try.underlying68
    clear h h1 h2 hnum hget hr0 hc0 hlen
    go_enter Try.func13, Try.ntmps13
    go_wp2_with fail
    have hbx := heap_alloc_new w (.cells #[.slice A0 l0.length c0, .bool (decide (1048576 < (l0.length : Int)))] 68)
    have hbl : Below w.heap.size w (w.alloc (.cells #[.slice A0 l0.length c0, .bool (decide (1048576 < (l0.length : Int)))] 68)) := below_alloc (Below.refl _ _) _
    have HB0 := Aside0.mk hbl
    have HRD0 : Aside0 (RdAt 68 (Kd.int .u8) w.heap.size (w.alloc (.cells #[.slice A0 l0.length c0, .bool (decide (1048576 < (l0.length : Int)))] 68)) w.heap.size A0 c0 l0 (decide (1048576 < (l0.length : Int)))) := ⟨hbx, fun W hW => C_of_heap (0 : Int) HR0.out (fun i hi => (hW i hi).trans (hbl.block i hi)), HC0.out, Nat.le_refl _⟩
    clear hbx hbl
    obtain ⟨g, hgg⟩ : ∃ g, g = w.heap.size := ⟨_, rfl⟩
    rw [← hgg] at HRD0 ⊢
    have HG := Aside0.mk hgg
    clear hgg
    generalize decide (1048576 < (l0.length : Int)) = bad0 at *
    generalize w.alloc (.cells #[.slice A0 l0.length c0, .bool bad0] 68) = w0 at *
    refine (wnum_calls k g g A0 c0 l0 bad0 n0 b0 d0 w0 (by have := HLEN.out; omega) HRD0.out HNUM.out).mono ?_
    rintro e w1 ⟨rfl, ⟨A1, c1, hR⟩, hgr⟩
    have HRD1 := Aside0.mk hR
    have HB1 : Aside0 (Below w.heap.size w w1) := ⟨below_grownG HB0.out hgr (by rw [HG.out]; exact Nat.le_refl _)⟩
    have HLB : Aside0 (b0.length ≤ 1099511627776) := ⟨Nat.le_trans (rdNum_len HNUM.out) HLEN.out⟩
    clear hR hgr HRD0 HB0 HNUM
    go_wp2_with fail
    go_loopg [2, 5] k (fun kq v2 v5 w' => ∃ (n : Int) (bs : List Int) (bad : Bool) (acc : List ByteArray) (A : Option Addr) (c : Nat), v5 = .int .i64 n ∧ Aside0 (getL k kq n bs bad acc = some (L, rb, rbad)) ∧ Aside0 (RdAt 68 (Kd.int .u8) g w' g A c bs bad) ∧ Aside0 (Kd.R Kd.string 9 w' w.heap.size (fun q => q ≠ g) v2 acc) ∧ Aside0 (Below w.heap.size w w') ∧ Aside0 (bs.length ≤ 1099511627776))
    case atStart => exact ⟨n0, b0, d0, [], A1, c1, rfl, HGET, HRD1, ⟨Kd.R_nil _ _ _ _ _⟩, HB1, HLB⟩
    case round =>
      clear HGET HRD1 HB1 HLB
      obtain ⟨n, bs, bad, acc, A, c, rfl, HGL, HRD, HO, HB, HLB⟩ := hrel
      cases gk with
      | zero => exact absurd HGL.out (by simp [getL])
      | succ k1 =>
        have hgl := HGL.out
        rw [getL] at hgl
        have x1 : wr.cell? ⟨g, 1, none⟩ = some (.bool bad) := (blk_cell HRD.out.1 1).trans rfl
        have x0 : wr.cell? ⟨g, 0, none⟩ = some (.slice A bs.length c) := (blk_cell HRD.out.1 0).trans rfl
        by_cases hgo : 0 < n ∧ bad = false
        · obtain ⟨hn, hbad⟩ := hgo
          subst hbad
          rw [if_pos hn, if_neg (by decide)] at hgl
          obtain ⟨⟨tx, b2, d2⟩, htx, hgl2⟩ := Option.bind_eq_some_iff.mp hgl
          dsimp only at hgl2
          by_cases hac : acc.length < 1099511627776
          · rw [if_pos hac] at hgl2
            have HTX := Aside0.mk htx
            have HGL2 := Aside0.mk hgl2
            have HAC := Aside0.mk hac
            have d1 : decide (0 < n) = true := decide_eq_true hn
            clear hgl htx hgl2 hac hn HGL x0
            go_wp2_with fail
            refine (wtext_calls k g g A c bs false tx b2 d2 wr (by have := HLB.out; omega) HRD.out HTX.out).mono ?_
            rintro e w2 ⟨rfl, ⟨A2, c2, hR⟩, hgr⟩
            have HRD2 := Aside0.mk hR
            have HO2 : Aside0 (Kd.R Kd.string 9 w2 w.heap.size (fun q => q ≠ g) u2 acc) := ⟨Kd.R_grown HO.out hgr (fun q hq e => hq (Option.some.inj e))⟩
            have HB2 : Aside0 (Below w.heap.size w w2) := ⟨below_grownG HB.out hgr (by rw [HG.out]; exact Nat.le_refl _)⟩
            have HLB2 : Aside0 (b2.length ≤ 1099511627776) := ⟨Nat.le_trans (rdText_len HTX.out) HLB.out⟩
            have HGL3 : Aside0 (g < w2.heap.size) := ⟨blk_lt HRD2.out.1⟩
            clear hR hgr HRD HO HB HLB HTX x1
            go_wp2_with ((with_reducible refine gate_builtin (b := .append) (xs := #[.tmp 25, .tmp 28]) rfl ?_); at_builtin; refine Kd.R_append Kd.string (w0 := w) w.heap.size rfl (.tmp 25) (.tmp 28) 49 9 (.string ⟨#[]⟩) 16 rfl Try.underlying49 info9 rfl (by decide) (by omega) u2 acc tx [.string tx] (fun q => q ≠ g) (fun _ => False) rfl rfl ?aP (fun _ hk => hk.elim) ?aF HO2.out HB2.out HB2.out.size ?aL ?_; (case aP => exact rfl); (case aF => exact (fun q hq => by have := HGL3.out; omega)); (case aL => have := HAC.out; omega); intro v9 w9 ho hb hg hat; have HO9 := Aside0.mk ho; have HB9 := Aside0.mk hb; have HRD9 : Aside0 (RdAt 68 (Kd.int .u8) g w9 g A2 c2 b2 d2) := ⟨HRD2.out.keep (fun i hi => hg.block i (by have := HGL3.out; omega) (fun e => by have := Kd.R_base HO2.out i e.symm; have := HG.out; omega)) (hg.block g HGL3.out (fun e => HO2.out.1 g e.symm rfl))⟩; clear ho hb hg hat)
            go_roundg k1
            case measure => exact Nat.lt_succ_self _
            case rel => exact ⟨wrap64 (n - 1), b2, d2, acc ++ [tx], A2, c2, by first | rfl | simp, HGL2, HRD9, HO9, HB9, HLB2⟩
          · rw [if_neg hac] at hgl2
            cases hgl2
        · have hpair : acc = L ∧ bs = rb ∧ bad = rbad := by
            by_cases hn : 0 < n
            · have hb : bad = true := by
                cases bad with
                | true => rfl
                | false => exact absurd ⟨hn, rfl⟩ hgo
              rw [if_pos hn, if_pos hb] at hgl
              cases hgl
              exact ⟨rfl, rfl, hb⟩
            · rw [if_neg hn] at hgl
              cases hgl
              exact ⟨rfl, rfl, rfl⟩
          obtain ⟨rfl, rfl, rfl⟩ := hpair
          clear hgl HGL
          have HRES2 := HRES
          have hfin : ∀ (rr : List ByteArray × Int), rr = (r1, r2) → rr.1 = r1 ∧ rr.2 = r2 := fun rr e => by rw [e]; exact ⟨rfl, rfl⟩
          cases bad with
          | true =>
            have hres := HRES.out
            rw [if_pos rfl] at hres
            cases hres
            by_cases hn : 0 < n
            · have d1 : decide (0 < n) = true := decide_eq_true hn
              clear hn hgo hfin
              go_wp2_with fail
              go_ret2
              exact ⟨_, rfl, Kd.R_nil _ _ _ _ _, HB.out⟩
            · have d1 : decide (0 < n) = false := decide_eq_false hn
              clear hn hgo hfin
              go_wp2_with fail
              go_ret2
              exact ⟨_, rfl, Kd.R_nil _ _ _ _ _, HB.out⟩
          | false =>
            have hn : ¬ 0 < n := fun hn => hgo ⟨hn, rfl⟩
            have d1 : decide (0 < n) = false := decide_eq_false hn
            have hres := HRES.out
            rw [if_neg (by decide)] at hres
            by_cases hb : 0 < bs.length
            · rw [if_pos hb] at hres
              cases hres
              have d2 : decide (0 < (bs.length : Int)) = true := decide_eq_true (by omega)
              have d3 : decide (0 < bs.length) = true := decide_eq_true hb
              clear hn hgo hfin hb
              go_wp2_with fail
              go_ret2
              exact ⟨_, rfl, Kd.R_nil _ _ _ _ _, HB.out⟩
            · rw [if_neg hb] at hres
              cases hres
              have d2 : decide (0 < (bs.length : Int)) = false := decide_eq_false (by omega)
              have d3 : decide (0 < bs.length) = false := decide_eq_false hb
              clear hn hgo hfin hb
              go_wp2_with fail
              go_ret2
              exact ⟨_, rfl, Kd.R_mono HO.out (fun _ _ => trivial), HB.out⟩
  · rw [if_neg hlen] at h
    cases h
end Go.Proofs.Yticlghbdapbdnaa.I
/-! IStr -/
namespace Go.Proofs.Yticlghbdapbdnaa.I
open Go.RowKit Go.Proofs.YticlghbdapbdnaaW.PrintWords Go.Proofs.YticlghbdapbdnaaW.PrintLast Go.Proofs.YticlghbdapbdnaaW.PrintMore Go.Proofs.Yticlghbdapbdnaa.Base
set_option linter.unusedVariables false
set_option linter.unusedSimpArgs false
def wire_Read.f (k : Nat) (s : ByteArray) : Option (Int × Bool) :=
  if s.size ≤ 1099511627776 then (wire_GetNum.f k (bytesOf s)).bind fun t => some (t.1, (t.2.2 == 0 && t.2.1 == (s.size : Int))) else none
theorem wire_Read.mono : ∀ a0 k, LeO (wire_Read.f k a0) (wire_Read.f (k + 1) a0) := by
  intro a0 k
  unfold wire_Read.f
  exact LeO.ite (LeO.bind (wire_GetNum.mono _ _) (fun _ => LeO.refl _)) (LeO.refl _)
set_option maxHeartbeats 1600000 in
set_option maxRecDepth 100000 in
theorem wire_Read.calls (k : Nat) (s : ByteArray) (r1 : Int) (r2 : Bool) (w : World) (h : wire_Read.f k s = some (r1, r2)) :
    Calls Try.prog 40 #[.string s] w fun e w' => e = .returned (.tuple #[.int .i64 r1, .bool r2]) ∧ Below w.heap.size w w' := by
  unfold wire_Read.f at h
  by_cases hs : s.size ≤ 1099511627776
  · rw [if_pos hs] at h
    obtain ⟨⟨n, z, e⟩, h39, hh⟩ := Option.bind_eq_some_iff.mp h
    have hh := Option.some.inj hh
    dsimp only at hh
    obtain ⟨rfl, rfl⟩ := Prod.mk.inj hh
    have kb := fun W => print_bytes (P := Try.prog) 9 23 5 Try.underlying9 Try.underlying23 Try.underlying5 s W
    have H39 : Aside0 (∀ W, Calls Try.prog 39 #[.slice (some ⟨W.heap.size, 0, none⟩) s.size (grownCap W s.size 0 5)] (Lib.bytesWorld W 5 s) fun e' w' => e' = .returned (.tuple #[.int .i64 n, .int .i64 z, .int .i64 e]) ∧ Drawn0 (Lib.bytesWorld W 5 s) w') := ⟨fun W => by
      have hr := bytes_reads W 5 s (by omega)
      have h := wire_GetNum.calls k (some ⟨W.heap.size, 0, none⟩) (grownCap W s.size 0 5) (bytesOf s) n z e (Lib.bytesWorld W 5 s) (by rw [bytesOf_length]; exact Kd.C_of_reads (d := (0 : Int)) hr) (by rw [bytesOf_length]; exact grownCap_ge _ _ _ _) h39
      rw [bytesOf_length] at h
      exact h⟩
    have hbw := bytes_below (Below.refl w.heap.size w) (Nat.le_refl _) 5 s
    have HBW := Aside0.mk hbw
    clear h hh h39 hbw hs
    by_cases he : e = 0
    · subst he
      have d1 : ((0 : Int) == 0) = true := rfl
      by_cases hz : z = (s.size : Int)
      · have d2 : (z == (s.size : Int)) = true := beq_iff_eq.mpr hz
        clear hz
        go_enter Try.func40, Try.ntmps40
        go_wp2_with (go_at_call 39; refine (H39.out _).mono ?_; rintro e' w1 ⟨rfl, ⟨m, rfl⟩⟩)
        go_ret2
        exact ⟨by rw [d2]; rfl, pw_below_drewN HBW.out m⟩
      · have d2 : (z == (s.size : Int)) = false := beq_eq_false_iff_ne.mpr hz
        clear hz
        go_enter Try.func40, Try.ntmps40
        go_wp2_with (go_at_call 39; refine (H39.out _).mono ?_; rintro e' w1 ⟨rfl, ⟨m, rfl⟩⟩)
        go_ret2
        exact ⟨by rw [d2]; rfl, pw_below_drewN HBW.out m⟩
    · have d1 : (e == 0) = false := beq_eq_false_iff_ne.mpr he
      clear he
      go_enter Try.func40, Try.ntmps40
      go_wp2_with (go_at_call 39; refine (H39.out _).mono ?_; rintro e' w1 ⟨rfl, ⟨m, rfl⟩⟩)
      go_ret2
      exact ⟨by rw [d1]; rfl, pw_below_drewN HBW.out m⟩
  · rw [if_neg hs] at h
    cases h
theorem C_of_heap_block {α : Type} {enc : α → Value} {h1 : ∀ x : α, (enc x).oneCell' = true} [Inhabited α] {w : World} {A : Option Addr} {B g : Nat} {o : Obj} {xs : List α} (h : ∀ W : World, (∀ i, i < B → W.heap[i]? = w.heap[i]?) → (Kd.scalar enc h1).C W A xs.length xs) (hg : w.heap[g]? = some o) (hB : B ≤ g) : ∀ ad, A = some ad → 0 < xs.length → ad.block ≠ g := by
  intro ad e hl he
  -- a world in which block g holds nothing
  have hW := h { w with heap := w.heap.take B } (fun i hi => by
    show (w.heap.extract 0 B)[i]? = _
    rw [Array.getElem?_extract]
    split
    · rw [Nat.zero_add]
    · rw [eq_comm, Array.getElem?_eq_none_iff]
      omega)
  obtain ⟨ad', e', hc⟩ := (Kd.reads_of_C (d := (default : α)) hW).2.2 hl
  have hc0 := hc 0 hl
  have hb := World.block_lt_of_cell? _ _ hc0
  rw [e] at e'
  cases e'
  have hbl : (ad.add 0).block = ad.block := by unfold Addr.add; split <;> rfl
  rw [hbl, he] at hb
  simp at hb
  omega
theorem cell_farI (w : World) (p : Addr) (v : Value) (a : Addr) (h : a.block ≠ p.block) : (w.setCell p v).cell? a = w.cell? a := by
  unfold World.cell?
  rw [Below.heap_setCell w p v a.block h]
def imText (l : List ByteArray) (bad : Bool) : ByteArray × List ByteArray × Bool :=
  if bad = true then (⟨#[]⟩, l, true) else match l with
    | [] => (⟨#[]⟩, [], true)
    | s :: r => (s, r, false)
set_option maxHeartbeats 1600000 in
set_option maxRecDepth 100000 in
theorem itext_calls (g B : Nat) (A : Option Addr) (c : Nat) (l : List ByteArray) (bad : Bool) (w : World) (H : RdAt 54 Kd.string B w g A c l bad) :
    Calls Try.prog 28 #[.pointer (some ⟨g, 0, none⟩)] w fun e w' => e = .returned (.string (imText l bad).1) ∧ (∃ A' c', RdAt 54 Kd.string B w' g A' c' (imText l bad).2.1 (imText l bad).2.2) ∧ w.grownBy w' (some g) := by
  obtain ⟨hg, hCA, hc, hBg⟩ := H
  have HG := Aside0.mk hg
  have HCA := Aside0.mk hCA
  have HC := Aside0.mk hc
  have HBG := Aside0.mk hBg
  have hu54 := Try.underlying54
  have c0 : w.cell? ⟨g, 0, none⟩ = some (.slice A l.length c) := (blk_cell hg 0).trans rfl
  have c1 : w.cell? ⟨g, 1, none⟩ = some (.bool bad) := (blk_cell hg 1).trans rfl
  have f0 := blk_frozen hg 0
  have f1 := blk_frozen hg 1
  cases bad with
  | true =>
    clear hg hCA hc hBg
    go_enter Try.func28, Try.ntmps28
    go_wp2_with fail
    go_ret
    exact ⟨rfl, ⟨A, c, blk_set HG.out 1 (.bool true), fun W hW => HCA.out W (fun i hi => (hW i hi).trans (keepB (grown_set w ⟨g, 1, none⟩ _) HG.out HBG.out i hi)), HC.out, HBG.out⟩, grown_set w ⟨g, 1, none⟩ _⟩
  | false =>
    cases l with
    | nil =>
      clear hg hCA hc hBg
      have d1 : (((([] : List ByteArray).length : Nat) : Int) == 0) = true := rfl
      go_enter Try.func28, Try.ntmps28
      go_wp2_with fail
      go_ret
      exact ⟨rfl, ⟨A, c, blk_set HG.out 1 (.bool true), fun W hW => HCA.out W (fun i hi => (hW i hi).trans (keepB (grown_set w ⟨g, 1, none⟩ _) HG.out HBG.out i hi)), HC.out, HBG.out⟩, grown_set w ⟨g, 1, none⟩ _⟩
    | cons s r =>
      have hR := Kd.reads_of_C (d := ByteArray.empty) (hCA w (fun _ _ => rfl))
      obtain ⟨ad9, hA9, hc9⟩ := hR.2.2 (Nat.succ_pos _)
      subst hA9
      have ha0 : ad9.add 0 = ad9 := by simp [Addr.add]
      have kq0 : w.cell? ad9 = some (.string s) := by rw [← ha0]; exact (hc9 0 (Nat.succ_pos _)).trans rfl
      have hne : ad9.block ≠ g := by
        have h1 := C_of_heap_block (g := g) hCA hg hBg
        exact h1 ad9 rfl (Nat.succ_pos _)
      obtain ⟨i9, hi9, _, hsz9, _⟩ := info_parts info9'
      have hcut := cut_from (P := Try.prog) 49 9 .i64 Try.underlying49 hi9 1 hsz9 (some ad9) (s :: r).length c 1 (by omega) (by simp only [List.length_cons]; omega)
      obtain ⟨A9, hA9⟩ : ∃ A9, A9 = (if c = 1 then some ad9 else (some ad9).map (·.add (1 * 1))) := ⟨_, rfl⟩
      obtain ⟨c9, hc9e⟩ : ∃ c9, c9 = c - 1 := ⟨_, rfl⟩
      have HQ9 : Aside0 (r.length ≤ c9) := ⟨by rw [List.length_cons] at hc; omega⟩
      have HC9 : Aside0 (∀ W : World, (∀ i, i < B → W.heap[i]? = w.heap[i]?) → Kd.string.C W A9 r.length r) := ⟨fun W hW => by
        rw [hA9]
        exact Kd.C_drop (m := 1) (c := c) (HCA.out W hW) (by simp) hc⟩
      replace hcut : ∀ W : World, (Instr.slice 49 (.slice (some ad9) (s :: r).length c) (some (.int .i64 1)) none none).run Try.prog W = .ok (.slice A9 r.length c9) W := fun W => by rw [hA9, hc9e]; exact hcut W
      have d1 : ((((s :: r).length : Nat) : Int) == 0) = false := beq_eq_false_iff_ne.mpr (by simp only [List.length_cons]; omega)
      obtain ⟨ln, hln⟩ : ∃ ln, ln = (s :: r).length := ⟨_, rfl⟩
      rw [← hln] at hcut d1 c0
      have HG2 : Aside0 (w.heap[g]? = some (.cells #[.slice (some ad9) ln c, .bool false] 54 (0, 0))) := ⟨by rw [hln]; exact HG.out⟩
      have q00 : ((0 : Int) < (ln : Int)) = True := eq_true (by rw [hln, List.length_cons]; omega)
      have q01 : (0 < ln) = True := eq_true (by rw [hln]; exact Nat.succ_pos _)
      have q02 : (ln = 0) = False := eq_false (by rw [hln]; exact Nat.succ_ne_zero _)
      have q03 : (ad9.block = g) = False := eq_false hne
      clear hg hCA hc hBg hln hR hc9 ha0 hA9 hc9e hi9 hsz9 hne HC
      go_enter Try.func28, Try.ntmps28
      go_upto_region 4 with (fail)
      have hg2 : (w.setCell ⟨g, 1, none⟩ (.bool false)).heap[g]? = some (.cells #[.slice (some ad9) ln c, .bool false] 54 (0, 0)) := blk_set HG2.out 1 _
      have x0 : (w.setCell ⟨g, 1, none⟩ (.bool false)).cell? ⟨g, 0, none⟩ = some (.slice (some ad9) ln c) := (blk_cell hg2 0).trans rfl
      have x1 := blk_frozen hg2 0
      have x2 : (w.setCell ⟨g, 1, none⟩ (.bool false)).cell? ad9 = some (.string s) := by
        rw [← kq0]
        exact cell_farI w ⟨g, 1, none⟩ (.bool false) ad9 (fun e => by have := of_eq_false q03; exact this e)
      have HG3 := Aside0.mk hg2
      have HGR : Aside0 (w.grownBy (w.setCell ⟨g, 1, none⟩ (.bool false)) (some g)) := ⟨grown_set w ⟨g, 1, none⟩ _⟩
      clear hg2 c0 c1 f0 f1 kq0
      generalize w.setCell ⟨g, 1, none⟩ (.bool false) = w2 at *
      go_region
      go_wp2_with fail
      go_ret
      exact ⟨rfl, ⟨A9, c9, blk_set HG3.out 0 (.slice A9 r.length c9), fun W hW => HC9.out W (fun i hi => (hW i hi).trans (keepB (HGR.out.trans (grown_set w2 ⟨g, 0, none⟩ _)) HG.out HBG.out i hi)), HQ9.out, HBG.out⟩, (HGR.out.trans (grown_set w2 ⟨g, 0, none⟩ _)).trans (grown_drew _ _)⟩
def imNum (k : Nat) (l : List ByteArray) (bad : Bool) : Option (Int × List ByteArray × Bool) :=
  (wire_Read.f k (imText l bad).1).bind fun u => some (u.1, (imText l bad).2.1, ((imText l bad).2.2 || !u.2))
theorem imNum_mono (k : Nat) (l : List ByteArray) (bad : Bool) : LeO (imNum k l bad) (imNum (k + 1) l bad) := LeO.bind (wire_Read.mono _ _) (fun _ => LeO.refl _)
set_option maxHeartbeats 1600000 in
set_option maxRecDepth 100000 in
theorem inum_calls (k g B : Nat) (A : Option Addr) (c : Nat) (l : List ByteArray) (bad : Bool) (n : Int) (l' : List ByteArray) (bad' : Bool) (w : World) (H : RdAt 54 Kd.string B w g A c l bad) (h : imNum k l bad = some (n, l', bad')) :
    Calls Try.prog 27 #[.pointer (some ⟨g, 0, none⟩)] w fun e w' => e = .returned (.int .i64 n) ∧ (∃ A' c', RdAt 54 Kd.string B w' g A' c' l' bad') ∧ w.grownBy w' (some g) := by
  unfold imNum at h
  obtain ⟨⟨u1, u2⟩, h40, hh⟩ := Option.bind_eq_some_iff.mp h
  have hh := Option.some.inj hh
  simp only [Prod.mk.injEq] at hh
  obtain ⟨rfl, rfl, rfl⟩ := hh
  have HH := Aside0.mk H
  have H40 := Aside0.mk h40
  have hu54 := Try.underlying54
  obtain ⟨b2, hb2⟩ : ∃ b2, b2 = (imText l bad).2.2 := ⟨_, rfl⟩
  rw [← hb2]
  have HB2 := Aside0.mk hb2
  clear H h h40 hb2
  go_enter Try.func27, Try.ntmps27
  go_wp2_with fail
  refine (itext_calls g B A c l bad w HH.out).mono ?_
  rintro e w1 ⟨rfl, ⟨A1, c1, hR⟩, hgr⟩
  rw [← HB2.out] at hR
  have HR := Aside0.mk hR
  have HGR := Aside0.mk hgr
  clear hR hgr
  go_wp2_with fail
  refine (wire_Read.calls k _ u1 u2 w1 H40.out).mono ?_
  rintro e w2 ⟨rfl, hb⟩
  have HR2 : Aside0 (RdAt 54 Kd.string B w2 g A1 c1 (imText l bad).2.1 b2) := ⟨HR.out.below hb⟩
  have HGR2 : Aside0 (w.grownBy w2 (some g)) := ⟨HGR.out.trans (grown_of_below hb _)⟩
  have x1 : w2.cell? ⟨g, 1, none⟩ = some (.bool b2) := (blk_cell HR2.out.1 1).trans rfl
  have f1 := blk_frozen HR2.out.1 1
  clear hb HR HGR
  have fin : ∀ v : Bool, RdAt 54 Kd.string B (w2.setCell ⟨g, 1, none⟩ (.bool v)) g A1 c1 (imText l bad).2.1 v := fun v =>
    ⟨blk_set HR2.out.1 1 (.bool v), fun W hW => HR2.out.2.1 W (fun i hi => (hW i hi).trans (keepB (grown_set w2 ⟨g, 1, none⟩ _) HR2.out.1 HR2.out.2.2.2 i hi)), HR2.out.2.2.1, HR2.out.2.2.2⟩
  have FIN := Aside0.mk fin
  clear fin
  cases b2 with
  | true =>
    go_wp2_with fail
    go_ret
    exact ⟨rfl, ⟨A1, c1, FIN.out true⟩, HGR2.out.trans (grown_set w2 ⟨g, 1, none⟩ _)⟩
  | false =>
    cases u2 with
    | true =>
      go_wp2_with fail
      go_ret
      exact ⟨rfl, ⟨A1, c1, FIN.out false⟩, HGR2.out.trans (grown_set w2 ⟨g, 1, none⟩ _)⟩
    | false =>
      go_wp2_with fail
      go_ret
      exact ⟨rfl, ⟨A1, c1, FIN.out true⟩, HGR2.out.trans (grown_set w2 ⟨g, 1, none⟩ _)⟩
end Go.Proofs.Yticlghbdapbdnaa.I
/-! ISta -/
namespace Go.Proofs.Yticlghbdapbdnaa.I
open Go.RowKit Go.Proofs.YticlghbdapbdnaaW.PrintWords Go.Proofs.YticlghbdapbdnaaW.PrintLast Go.Proofs.YticlghbdapbdnaaW.PrintMore Go.Proofs.Yticlghbdapbdnaa.Base
set_option linter.unusedVariables false
set_option linter.unusedSimpArgs false
def stDocs : Nat → Int → List ByteArray → Bool → List S42 → Option (List S42 × List ByteArray × Bool)
  | 0, _, _, _, _ => none
  | f + 1, n, l, bad, acc => if 0 < n then (if bad = true then some (acc, l, true) else (if acc.length < 1099511627776 then stDocs f (wrap64 (n - 1)) (imText (imText l false).2.1 (imText l false).2.2).2.1 (imText (imText l false).2.1 (imText l false).2.2).2.2 (acc ++ [(⟨(imText l false).1, (imText (imText l false).2.1 (imText l false).2.2).1⟩ : S42)]) else none)) else some (acc, l, bad)
def stSess (k : Nat) : Nat → List ByteArray → Bool → List S47 → Option (List S47 × List ByteArray × Bool)
  | 0, _, _, _ => none
  | f + 1, l, bad, acc => if 0 < l.length then (if bad = true then some (acc, l, true) else (imNum k l false).bind fun t1 => (imNum k t1.2.1 t1.2.2).bind fun t2 => (imNum k t2.2.1 t2.2.2).bind fun t3 => (imNum k t3.2.1 t3.2.2).bind fun t4 => (imNum k t4.2.1 t4.2.2).bind fun t5 => if acc.length < 1099511627776 then stSess k f t5.2.1 t5.2.2 (acc ++ [(⟨t1.1, t2.1, ⟨t3.1, t4.1, []⟩, t5.1⟩ : S47)]) else none) else some (acc, l, bad)
def image_state (k : Nat) (l : List ByteArray) (bad : Bool) : Option (Int × List S42 × List S47 × Bool) :=
  (imNum k l bad).bind fun a => (imNum k a.2.1 a.2.2).bind fun b => (stDocs k b.1 b.2.1 b.2.2 []).bind fun d => (stSess k k d.2.1 d.2.2 []).bind fun s => some (a.1, d.1, s.1, s.2.2)
theorem stDocs_mono : ∀ (f : Nat) (n : Int) (l : List ByteArray) (bad : Bool) (acc : List S42), LeO (stDocs f n l bad acc) (stDocs (f + 1) n l bad acc)
  | 0, _, _, _, _ => LeO.none _
  | f + 1, n, l, bad, acc => by
    rw [stDocs, stDocs]
    exact LeO.ite (LeO.ite (LeO.refl _) (LeO.ite (stDocs_mono f _ _ _ _) (LeO.refl _))) (LeO.refl _)
theorem stSess_mono (k : Nat) : ∀ (f : Nat) (l : List ByteArray) (bad : Bool) (acc : List S47), LeO (stSess k f l bad acc) (stSess (k + 1) (f + 1) l bad acc)
  | 0, _, _, _ => LeO.none _
  | f + 1, l, bad, acc => by
    rw [stSess, stSess]
    exact LeO.ite (LeO.ite (LeO.refl _) (LeO.bind (imNum_mono _ _ _) (fun _ => LeO.bind (imNum_mono _ _ _) (fun _ => LeO.bind (imNum_mono _ _ _) (fun _ => LeO.bind (imNum_mono _ _ _) (fun _ => LeO.bind (imNum_mono _ _ _) (fun _ => LeO.ite (stSess_mono k f _ _ _) (LeO.refl _)))))))) (LeO.refl _)
theorem image_state_mono (k : Nat) (l : List ByteArray) (bad : Bool) : LeO (image_state k l bad) (image_state (k + 1) l bad) :=
  LeO.bind (imNum_mono _ _ _) (fun _ => LeO.bind (imNum_mono _ _ _) (fun _ => LeO.bind (stDocs_mono _ _ _ _ _) (fun _ => LeO.bind (stSess_mono _ _ _ _ _) (fun _ => LeO.refl _))))
theorem R_grownG {α : Type} {d : Kd α} {e base g : Nat} {W W1 : World} {v : Value} {xs : List α} (h : d.R e W base (fun _ => True) v xs) (hg : W.grownBy W1 (some g)) (hlt : g < base) : d.R e W1 base (fun _ => True) v xs :=
  Kd.R_mono (Kd.R_step (Kd.R_bound h) (fun k hk hl => hg.block k hl (fun e => by have := Option.some.inj e; have := hk.2.1; omega))) (fun _ _ => trivial)
theorem S_grownG {α : Type} {d : Kd α} {e base g : Nat} {W W1 : World} {v : Value} {xs : List α} (h : Kd.S d e W base (fun _ => True) v xs) (hg : W.grownBy W1 (some g)) (hlt : g < base) : Kd.S d e W1 base (fun _ => True) v xs :=
  Kd.S_mono (Kd.S_step (Kd.S_bound h) (fun k hk hl => hg.block k hl (fun e => by have := Option.some.inj e; have := hk.2.1; omega))) (fun _ _ => trivial)
/-- Inside state: the reader, the state's block s0, its rows. -/
structure StAt (w W : World) (B g s0 : Nat) (A : Option Addr) (c : Nat) (l : List ByteArray) (bad : Bool) (idx : Int) (v1 : Value) (docs : List S42) (v2 : Value) (sess : List S47) : Prop where
  rd : RdAt 54 Kd.string B W g A c l bad
  cell : W.heap[s0]? = some (.cells #[.int .i64 idx, v1, v2] 28 (0, 0))
  docs : k42.R 42 W w.heap.size (fun _ => True) v1 docs
  sess : Kd.S k47 47 W w.heap.size (fun _ => True) v2 sess
  grown : w.grownBy W (some g)
  at_ : s0 = w.heap.size
  lt : g < w.heap.size
section
variable {w W W1 : World} {B g s0 : Nat} {A : Option Addr} {c : Nat} {l : List ByteArray} {bad : Bool} {idx : Int} {v1 : Value} {docs : List S42} {v2 : Value} {sess : List S47}
theorem StAt.call (h : StAt w W B g s0 A c l bad idx v1 docs v2 sess) {A' : Option Addr} {c' : Nat} {l' : List ByteArray} {bad' : Bool} (hr : RdAt 54 Kd.string B W1 g A' c' l' bad') (hg : W.grownBy W1 (some g)) : StAt w W1 B g s0 A' c' l' bad' idx v1 docs v2 sess :=
  ⟨hr, (hg.block s0 (blk_lt h.cell) (fun e => by have := Option.some.inj e; have := h.at_; have := h.lt; omega)).trans h.cell, R_grownG h.docs hg h.lt, S_grownG h.sess hg h.lt, h.grown.trans hg, h.at_, h.lt⟩
theorem StAt.below (h : StAt w W B g s0 A c l bad idx v1 docs v2 sess) (hb : Below W.heap.size W W1) : StAt w W1 B g s0 A c l bad idx v1 docs v2 sess :=
  ⟨h.rd.below hb, blk_below h.cell hb, Kd.R_below h.docs hb, Kd.S_below h.sess hb, h.grown.trans (grown_of_below hb _), h.at_, h.lt⟩
theorem StAt.ne {v : Value} {α : Type} {d : Kd α} {e : Nat} {xs : List α} (h : StAt w W B g s0 A c l bad idx v1 docs v2 sess) (hr : d.R e W w.heap.size (fun _ => True) v xs) (he : e ≠ 28) : some s0 ≠ v.ownBlock ∧ (∀ i, i < w.heap.size → some i ≠ v.ownBlock) :=
  ⟨Kd.R_ne hr h.cell he, fun i hi e => by have := Kd.R_base hr i e.symm; omega⟩
/-- The state's block is written. -/
theorem StAt.put (h : StAt w W B g s0 A c l bad idx v1 docs v2 sess) (j : Nat) (u : Value) : RdAt 54 Kd.string B (W.setCell ⟨s0, j, none⟩ u) g A c l bad ∧ k42.R 42 (W.setCell ⟨s0, j, none⟩ u) w.heap.size (fun _ => True) v1 docs ∧ Kd.S k47 47 (W.setCell ⟨s0, j, none⟩ u) w.heap.size (fun _ => True) v2 sess ∧ w.grownBy (W.setCell ⟨s0, j, none⟩ u) (some g) := by
  have hs : ∀ i, i ≠ s0 → (W.setCell ⟨s0, j, none⟩ u).heap[i]? = W.heap[i]? := fun i hi => Below.heap_setCell W ⟨s0, j, none⟩ u i hi
  have h1 := h.at_
  have h2 := h.lt
  have h3 := h.rd.2.2.2
  refine ⟨h.rd.keep (fun i hi => hs i (by omega)) (hs g (by omega)), Kd.R_set h.docs h.cell (by decide) j u, Kd.S_set h.sess h.cell (by decide) j u, ?_⟩
  have hg := h.grown
  exact ⟨hg.os, hg.tape, hg.output, by have := (grown_set W ⟨s0, j, none⟩ u).size; have := hg.size; omega, fun i hi hne => (hs i (by omega)).trans (hg.block i hi hne)⟩
theorem StAt.over (h : StAt w W B g s0 A c l bad idx v1 docs v2 sess) {row : Option Nat} (hg : W.grownBy W1 row) (h0 : some s0 ≠ row) (hl : ∀ i, i < w.heap.size → some i ≠ row) : RdAt 54 Kd.string B W1 g A c l bad ∧ W1.heap[s0]? = some (.cells #[.int .i64 idx, v1, v2] 28 (0, 0)) ∧ w.grownBy W1 (some g) := by
  have h1 := h.at_
  have h2 := h.lt
  have h3 := h.rd.2.2.2
  have h4 := h.grown
  have h5 := h4.size
  refine ⟨h.rd.keep (fun i hi => hg.block i (by omega) (hl i (by omega))) (hg.block g (by omega) (hl g h2)), (hg.block s0 (blk_lt h.cell) h0).trans h.cell, ?_⟩
  exact ⟨hg.os.trans h4.os, hg.tape.trans h4.tape, hg.output.trans h4.output, by have := hg.size; omega, fun i hi hne => (hg.block i (by omega) (hl i hi)).trans (h4.block i hi hne)⟩
/-- A document is put to the others. -/
theorem StAt.addDoc (h : StAt w W B g s0 A c l bad idx v1 docs v2 sess) {v9 : Value} {docs9 : List S42} (hr : k42.R 42 W1 w.heap.size (fun _ => True) v9 docs9) (hg : W.grownBy W1 v1.ownBlock) : StAt w (W1.setCell ⟨s0, 1, none⟩ v9) B g s0 A c l bad idx v9 docs9 v2 sess := by
  obtain ⟨n0, nl⟩ := h.ne h.docs (by decide)
  obtain ⟨a1, a2, a3⟩ := h.over hg n0 nl
  have hs := Kd.S_over' h.sess (Kd.R_typed h.docs) (by decide) hg
  have hset : ∀ i, i ≠ s0 → (W1.setCell ⟨s0, 1, none⟩ v9).heap[i]? = W1.heap[i]? := fun i hi => Below.heap_setCell W1 ⟨s0, 1, none⟩ v9 i hi
  have h1 := h.at_
  have h2 := h.lt
  have h3 := h.rd.2.2.2
  exact ⟨a1.keep (fun i hi => hset i (by omega)) (hset g (by omega)), blk_set a2 1 v9, Kd.R_set hr a2 (by decide) 1 v9, Kd.S_set hs a2 (by decide) 1 v9, ⟨a3.os, a3.tape, a3.output, by have := (grown_set W1 ⟨s0, 1, none⟩ v9).size; have := a3.size; omega, fun i hi hne => (hset i (by omega)).trans (a3.block i hi hne)⟩, h.at_, h.lt⟩
/-- A session is put to the others. -/
theorem StAt.addSess (h : StAt w W B g s0 A c l bad idx v1 docs v2 sess) {v9 : Value} {sess9 : List S47} (hr : Kd.S k47 47 W1 w.heap.size (fun _ => True) v9 sess9) (hg : W.grownBy W1 v2.ownBlock) : StAt w (W1.setCell ⟨s0, 2, none⟩ v9) B g s0 A c l bad idx v1 docs v9 sess9 := by
  obtain ⟨n0, nl⟩ := h.ne (Kd.S_R h.sess) (by decide)
  obtain ⟨a1, a2, a3⟩ := h.over hg n0 nl
  have hs := Kd.R_over' h.docs (Kd.S_typed h.sess) (by decide) hg
  have hset : ∀ i, i ≠ s0 → (W1.setCell ⟨s0, 2, none⟩ v9).heap[i]? = W1.heap[i]? := fun i hi => Below.heap_setCell W1 ⟨s0, 2, none⟩ v9 i hi
  have h1 := h.at_
  have h2 := h.lt
  have h3 := h.rd.2.2.2
  exact ⟨a1.keep (fun i hi => hset i (by omega)) (hset g (by omega)), blk_set a2 2 v9, Kd.R_set hs a2 (by decide) 2 v9, Kd.S_set hr a2 (by decide) 2 v9, ⟨a3.os, a3.tape, a3.output, by have := (grown_set W1 ⟨s0, 2, none⟩ v9).size; have := a3.size; omega, fun i hi hne => (hset i (by omega)).trans (a3.block i hi hne)⟩, h.at_, h.lt⟩
theorem StAt.back (h : StAt w W B g s0 A c l bad idx v1 docs v2 sess) : StAt w (((W.setCell ⟨s0, 0, none⟩ (.int .i64 idx)).setCell ⟨s0, 1, none⟩ v1).setCell ⟨s0, 2, none⟩ v2) B g s0 A c l bad idx v1 docs v2 sess := by
  have step : ∀ (V : World), StAt w V B g s0 A c l bad idx v1 docs v2 sess → ∀ (j : Nat) (u : Value), (#[.int .i64 idx, v1, v2] : Array Value).setIfInBounds j u = #[.int .i64 idx, v1, v2] → StAt w (V.setCell ⟨s0, j, none⟩ u) B g s0 A c l bad idx v1 docs v2 sess := fun V hV j u e => by
    obtain ⟨a1, a2, a3, a4⟩ := hV.put j u
    exact ⟨a1, by rw [blk_set hV.cell j u, e], a2, a3, a4, hV.at_, hV.lt⟩
  exact step _ (step _ (step _ h 0 _ rfl) 1 _ rfl) 2 _ rfl
/-- The same, and a session that is being made at block xb. -/
structure StX (w W : World) (B g s0 xb : Nat) (A : Option Addr) (c : Nat) (l : List ByteArray) (bad : Bool) (idx : Int) (v1 : Value) (docs : List S42) (v2 : Value) (sess : List S47) (cx : Array Value) : Prop where
  st : StAt w W B g s0 A c l bad idx v1 docs v2 sess
  box : W.heap[xb]? = some (.cells cx 47 (0, 0))
  apart : Kd.S k47 47 W w.heap.size (fun q => q ≠ xb) v2 sess
  gx : g < xb
  sx : s0 < xb
variable {xb : Nat} {cx : Array Value}
theorem StX.mk_ (h : StAt w W B g s0 A c l bad idx v1 docs v2 sess) (cx : Array Value) : StX w (W.alloc (.cells cx 47)) B g s0 W.heap.size A c l bad idx v1 docs v2 sess cx :=
  ⟨h.below (below_alloc (Below.refl _ _) _), heap_alloc_new W _, Kd.S_mono (Kd.S_below (Kd.S_elderB h.sess W.heap.size (Nat.le_refl _)) (below_alloc (Below.refl _ _) _)) (fun _ hk => hk.2), blk_lt h.rd.1, blk_lt h.cell⟩
theorem StX.call (h : StX w W B g s0 xb A c l bad idx v1 docs v2 sess cx) {A' : Option Addr} {c' : Nat} {l' : List ByteArray} {bad' : Bool} (hr : RdAt 54 Kd.string B W1 g A' c' l' bad') (hg : W.grownBy W1 (some g)) : StX w W1 B g s0 xb A' c' l' bad' idx v1 docs v2 sess cx :=
  ⟨h.st.call hr hg, (hg.block xb (blk_lt h.box) (fun e => by have := Option.some.inj e; have := h.gx; omega)).trans h.box, Kd.S_mono (Kd.S_step (Kd.S_bound h.apart) (fun k hk hl => hg.block k hl (fun e => by have := Option.some.inj e; have := hk.2.1; have := h.st.lt; omega))) (fun _ hk => hk.1), h.gx, h.sx⟩
theorem StX.put (h : StX w W B g s0 xb A c l bad idx v1 docs v2 sess cx) (j : Nat) (u : Value) : StX w (W.setCell ⟨xb, j, none⟩ u) B g s0 xb A c l bad idx v1 docs v2 sess (cx.setIfInBounds j u) := by
  have hs : ∀ i, i ≠ xb → (W.setCell ⟨xb, j, none⟩ u).heap[i]? = W.heap[i]? := fun i hi => Below.heap_setCell W ⟨xb, j, none⟩ u i hi
  have h1 := h.st.at_
  have h2 := h.st.lt
  have h3 := h.st.rd.2.2.2
  have h4 := h.gx
  have h5 := h.sx
  have hg := h.st.grown
  have ha := Kd.S_far (p := ⟨xb, j, none⟩) h.apart (fun k hk => hk) u
  exact ⟨⟨h.st.rd.keep (fun i hi => hs i (by omega)) (hs g (by omega)), (hs s0 (by omega)).trans h.st.cell, Kd.R_set h.st.docs h.box (by decide) j u, Kd.S_mono ha (fun _ _ => trivial), ⟨hg.os, hg.tape, hg.output, by have := (grown_set W ⟨xb, j, none⟩ u).size; have := hg.size; omega, fun i hi hne => (hs i (by omega)).trans (hg.block i hi hne)⟩, h1, h2⟩, blk_set h.box j u, ha, h4, h5⟩
end
set_option maxHeartbeats 6400000 in
set_option maxRecDepth 100000 in
theorem state_calls (k g B : Nat) (A : Option Addr) (c : Nat) (l : List ByteArray) (bad : Bool) (idx : Int) (docs : List S42) (sess : List S47) (bad' : Bool) (w : World) (H : RdAt 54 Kd.string B w g A c l bad) (h : image_state k l bad = some (idx, docs, sess, bad')) :
    Calls Try.prog 14 #[.pointer (some ⟨g, 0, none⟩)] w fun e w' => ∃ v1 v2, e = .returned (.agg #[.int .i64 idx, v1, v2]) ∧ k42.R 42 w' w.heap.size (fun _ => True) v1 docs ∧ Kd.S k47 47 w' w.heap.size (fun _ => True) v2 sess ∧ (∃ A' c' l', RdAt 54 Kd.string B w' g A' c' l' bad') ∧ w.grownBy w' (some g) := by
  unfold image_state at h
  obtain ⟨⟨n0, l0, d0⟩, hn0, h1⟩ := Option.bind_eq_some_iff.mp h
  obtain ⟨⟨n1, l1, d1⟩, hn1, h2⟩ := Option.bind_eq_some_iff.mp h1
  obtain ⟨⟨D2, l2, d2⟩, hD2, h3⟩ := Option.bind_eq_some_iff.mp h2
  obtain ⟨⟨S3, l3, d3⟩, hS3, h4⟩ := Option.bind_eq_some_iff.mp h3
  have h5 := Option.some.inj h4
  clear h h1 h2 h3 h4
  dsimp only at h5 hn1 hD2 hS3
  simp only [Prod.mk.injEq] at h5
  obtain ⟨rfl, rfl, rfl, rfl⟩ := h5
  have HN0 := Aside0.mk hn0
  have HN1 := Aside0.mk hn1
  have HD := Aside0.mk hD2
  have HS := Aside0.mk hS3
  have HH := Aside0.mk H
  have HLT : Aside0 (g < w.heap.size) := ⟨blk_lt H.1⟩
  have hu54 := Try.underlying54
  have hu28 := Try.underlying28
  clear H hn0 hn1 hD2 hS3
  go_enter Try.func14, Try.ntmps14
  go_wp2_with fail
  have hbx := heap_alloc_new w (.cells #[.int .i64 0, .slice none 0 0, .slice none 0 0] 28)
  have hbl : Below w.heap.size w (w.alloc (.cells #[.int .i64 0, .slice none 0 0, .slice none 0 0] 28)) := below_alloc (Below.refl _ _) _
  obtain ⟨s0, hs0⟩ : ∃ s0, s0 = w.heap.size := ⟨_, rfl⟩
  rw [← hs0] at hbx ⊢
  have HST : Aside0 (StAt w (w.alloc (.cells #[.int .i64 0, .slice none 0 0, .slice none 0 0] 28)) B g s0 A c l bad 0 (.slice none 0 0) [] (.slice none 0 0) []) := ⟨⟨HH.out.below hbl, hbx, Kd.R_nil _ _ _ _ _, Kd.S_nil _ _ _ _ _, grown_of_below hbl _, hs0, HLT.out⟩⟩
  clear hbx hbl hs0 HH
  generalize w.alloc (.cells #[.int .i64 0, .slice none 0 0, .slice none 0 0] 28) = w0 at *
  refine (inum_calls k g B A c l bad n0 l0 d0 w0 HST.out.rd HN0.out).mono ?_
  rintro e w1 ⟨rfl, ⟨A1, c1, hR⟩, hgr⟩
  have HST1 := Aside0.mk (HST.out.call hR hgr)
  have z0 : w1.cell? ⟨s0, 0, none⟩ = some (.int .i64 0) := (blk_cell HST1.out.cell 0).trans rfl
  have z1 := blk_frozen HST1.out.cell 0
  clear hR hgr HST
  go_upto_region 2 with (fail)
  have HST2 : Aside0 (StAt w (w1.setCell ⟨s0, 0, none⟩ (.int .i64 n0)) B g s0 A1 c1 l0 d0 n0 (.slice none 0 0) [] (.slice none 0 0) []) := ⟨by
    obtain ⟨a1, a2, a3, a4⟩ := HST1.out.put 0 (.int .i64 n0)
    exact ⟨a1, blk_set HST1.out.cell 0 _, a2, a3, a4, HST1.out.at_, HST1.out.lt⟩⟩
  clear z0 z1 HST1
  generalize w1.setCell ⟨s0, 0, none⟩ (.int .i64 n0) = w2 at *
  go_wp2_with fail
  refine (inum_calls k g B A1 c1 l0 d0 n1 l1 d1 w2 HST2.out.rd HN1.out).mono ?_
  rintro e w3 ⟨rfl, ⟨A3, c3, hR⟩, hgr⟩
  have HST3 := Aside0.mk (HST2.out.call hR hgr)
  clear hR hgr HST2
  go_wp2_with fail
  go_loopg [3] k (fun kq v3 w' => ∃ (n : Int) (l : List ByteArray) (bad : Bool) (acc : List S42) (A : Option Addr) (c : Nat) (v1 : Value), v3 = .int .i64 n ∧ Aside0 (stDocs kq n l bad acc = some (D2, l2, d2)) ∧ Aside0 (StAt w w' B g s0 A c l bad n0 v1 acc (.slice none 0 0) []))
  case atStart => exact ⟨n1, l1, d1, [], A3, c3, _, rfl, HD, HST3⟩
  case round =>
    clear HD HST3
    obtain ⟨n, l, bad, acc, A, c, v1, rfl, HGL, HST⟩ := hrel
    cases gk with
    | zero => exact absurd HGL.out (by simp [stDocs])
    | succ k1 =>
      have hgl := HGL.out
      rw [stDocs] at hgl
      have x1 : wr.cell? ⟨g, 1, none⟩ = some (.bool bad) := (blk_cell HST.out.rd.1 1).trans rfl
      by_cases hgo : 0 < n ∧ bad = false
      · obtain ⟨hn, hbad⟩ := hgo
        subst hbad
        rw [if_pos hn, if_neg (by decide)] at hgl
        by_cases hac : acc.length < 1099511627776
        · rw [if_pos hac] at hgl
          obtain ⟨acc9, hacc9⟩ : ∃ z, z = acc ++ [(⟨(imText l false).1, (imText (imText l false).2.1 (imText l false).2.2).1⟩ : S42)] := ⟨_, rfl⟩
          rw [← hacc9] at hgl
          have HACC := Aside0.mk hacc9
          have HGL2 := Aside0.mk hgl
          have HAC := Aside0.mk hac
          have d1 : decide (0 < n) = true := decide_eq_true hn
          clear hgl hac hn HGL hacc9
          go_upto_region 5 with (fail)
          have HST5 : Aside0 (StAt w wr.drew B g s0 A c l false n0 v1 acc (.slice none 0 0) []) := ⟨HST.out.below (below_drew (Below.refl _ _))⟩
          clear x1 HST
          refine start_ (n := 11) (S := fun w' => w'.cell? ⟨s0, 1, none⟩ = some v1) (ds := [10]) #[false, false, false, false, false, false, false, false, false, false, false] (by kernel_rfl) rfl rfl (((blk_cell HST5.out.cell 1).trans rfl)) (fun hHeld => ?_)
          generalize wr.drew = w5 at HST5 hHeld ⊢
          refine pure_ (i := 0) (N := some 21) (v := ?_) (a' := ?_) #[true, false, false, false, false, false, false, false, false, false, false] rfl rfl (by kernel_rfl) (fun _ _ _ h => h) (Or.inl ⟨by rfl, ?_⟩) ?_ ?_
          rotate_left
          · intro w'
            go_simp
            with_reducible rfl
          rotate_left
          · simp only [Act.put, List.setIfInBounds_toArray, List.set_cons_zero, List.set_cons_succ, i64_w, i32_w]
            rfl
          refine pure_ (i := 2) (N := some 23) (v := ?_) (a' := ?_) #[true, false, true, false, false, false, false, false, false, false, false] rfl rfl (by kernel_rfl) (fun _ _ _ h => h) (Or.inl ⟨by rfl, ?_⟩) ?_ ?_
          rotate_left
          · intro w'
            go_simp
            with_reducible rfl
          rotate_left
          · simp only [Act.put, List.setIfInBounds_toArray, List.set_cons_zero, List.set_cons_succ, i64_w, i32_w]
            rfl
          refine pure_ (i := 4) (N := some 25) (v := ?_) (a' := ?_) #[true, false, true, false, true, false, false, false, false, false, false] rfl rfl (by kernel_rfl) (fun _ _ _ h => h) (Or.inl ⟨by rfl, ?_⟩) ?_ ?_
          rotate_left
          · intro w'
            go_simp
            with_reducible rfl
          rotate_left
          · simp only [Act.put, List.setIfInBounds_toArray, List.set_cons_zero, List.set_cons_succ, i64_w, i32_w]
            rfl
          refine take_ (i := 1) (N := some 22) (v := ?_) (a' := ?_) #[true, true, true, false, true, false, false, false, false, false, false] rfl rfl (by kernel_rfl) (fun _ _ _ h => h) (Or.inl ⟨by rfl, ?_⟩) hHeld ?_ ?_
          rotate_left
          · intro w' s0
            go_simp
            with_reducible rfl
          rotate_left
          · simp only [Act.put, List.setIfInBounds_toArray, List.set_cons_zero, List.set_cons_succ, i64_w, i32_w]
            rfl
          refine one_ (i := 3) (N := some 24) #[true, true, true, true, true, false, false, false, false, false, false] rfl rfl (by kernel_rfl) (by decide) (fun K hK => ?_)
          refine goes_ Try.func28 (by kernel_rfl) rfl #[.pointer (some ⟨g, 0, none⟩)] (by rfl) rfl rfl (by simp only [List.map_toArray, List.map_cons, List.map_nil]; rfl) ?_
          with_reducible refine (itext_calls g B A c l false _ HST5.out.rd).mono ?_
          rintro e w6 ⟨rfl, ⟨A6, c6, hR6⟩, hgr6⟩
          refine ⟨_, rfl, ?_⟩
          have HST6 := Aside0.mk (HST5.out.call hR6 hgr6)
          clear hR6 hgr6
          refine hK.out _ _ (((blk_cell HST6.out.cell 1).trans rfl)) (fun hHeld => ?_)
          clear hK K
          refine norm_ (a' := ?_) ?_ ?_
          rotate_left
          · show Act.put _ (some 24) _ = _
            simp only [Act.put, List.setIfInBounds_toArray, List.set_cons_zero, List.set_cons_succ, i64_w, i32_w]
            rfl
          refine one_ (i := 5) (N := some 26) #[true, true, true, true, true, true, false, false, false, false, false] rfl rfl (by kernel_rfl) (by decide) (fun K hK => ?_)
          refine goes_ Try.func28 (by kernel_rfl) rfl #[.pointer (some ⟨g, 0, none⟩)] (by rfl) rfl rfl (by simp only [List.map_toArray, List.map_cons, List.map_nil]; rfl) ?_
          with_reducible refine (itext_calls g B A6 c6 (imText l false).2.1 (imText l false).2.2 _ HST6.out.rd).mono ?_
          rintro e w7 ⟨rfl, ⟨A7, c7, hR7⟩, hgr7⟩
          refine ⟨_, rfl, ?_⟩
          have HST7 := Aside0.mk (HST6.out.call hR7 hgr7)
          clear hR7 hgr7
          refine hK.out _ _ (((blk_cell HST7.out.cell 1).trans rfl)) (fun hHeld => ?_)
          clear hK K
          refine norm_ (a' := ?_) ?_ ?_
          rotate_left
          · show Act.put _ (some 26) _ = _
            simp only [Act.put, List.setIfInBounds_toArray, List.set_cons_zero, List.set_cons_succ, i64_w, i32_w]
            rfl
          refine pure_ (i := 6) (N := some 27) (v := ?_) (a' := ?_) #[true, true, true, true, true, true, true, false, false, false, false] rfl rfl (by kernel_rfl) (fun _ _ _ h => h) (Or.inl ⟨by rfl, ?_⟩) ?_ ?_
          rotate_left
          · intro w'
            go_simp
            with_reducible rfl
          rotate_left
          · simp only [Act.put, List.setIfInBounds_toArray, List.set_cons_zero, List.set_cons_succ, i64_w, i32_w]
            rfl
          refine one_ (i := 7) (N := some 28) #[true, true, true, true, true, true, true, true, false, false, false] rfl rfl (by kernel_rfl) (by decide) (fun K hK => ?_)
          refine value_ (w1 := ?_) (v := ?_) (by rfl) rfl ?_ ?_
          rotate_left 2
          · go_simp
            constructor
            · rfl
            · rfl
          refine hK.out _ _ (((blk_cell (blk_alloc HST7.out.cell _) 1).trans rfl)) (fun hHeld => ?_)
          clear hK K
          refine norm_ (a' := ?_) ?_ ?_
          rotate_left
          · show Act.put _ (some 28) _ = _
            simp only [Act.put, List.setIfInBounds_toArray, List.set_cons_zero, List.set_cons_succ, i64_w, i32_w]
            rfl
          refine one_ (i := 8) (N := some 29) #[true, true, true, true, true, true, true, true, true, false, false] rfl rfl (by kernel_rfl) (by decide) (fun K hK => ?_)
          refine Kd.R_append_step k42 (w0 := w7) w.heap.size (by rfl) (.tmp 22) (.tmp 28) 25 42 (.agg #[.string ⟨#[]⟩, .string ⟨#[]⟩]) 32 rfl Try.underlying25 info42 rfl (by decide) (by omega) v1 acc (⟨(imText l false).1, (imText (imText l false).2.1 (imText l false).2.2).1⟩ : S42) [.string (imText l false).1, .string (imText (imText l false).2.1 (imText l false).2.2).1] (fun _ => True) (fun _ => False) rfl rfl (k42_mkM _ _ _ (⟨(imText l false).1, (imText (imText l false).2.1 (imText l false).2.2).1⟩ : S42)) (fun _ hk => hk.elim) (fun _ _ => trivial) HST7.out.docs (Below.refl _ _) HST7.out.grown.size (by have := HAC.out; omega) ?_
          intro v9 w9 ho hb hg hat
          rw [← HACC.out] at ho
          obtain ⟨A9, c9, rfl⟩ := Kd.R_slice ho
          have HST10 := Aside0.mk (HST7.out.addDoc ho hg)
          have hc9 := (HST7.out.over hg (HST7.out.ne HST7.out.docs (by decide)).1 (HST7.out.ne HST7.out.docs (by decide)).2).2.1
          clear ho hb hg hat
          refine hK.out _ _ (((blk_cell hc9 1).trans rfl)) (fun hHeld => ?_)
          clear hK K
          refine norm_ (a' := ?_) ?_ ?_
          rotate_left
          · show Act.put _ (some 29) _ = _
            simp only [Act.put, List.setIfInBounds_toArray, List.set_cons_zero, List.set_cons_succ, i64_w, i32_w]
            rfl
          refine pure_ (i := 9) (N := some 30) (v := ?_) (a' := ?_) #[true, true, true, true, true, true, true, true, true, true, false] rfl rfl (by kernel_rfl) (fun _ _ _ h => h) (Or.inl ⟨by rfl, ?_⟩) ?_ ?_
          rotate_left
          · intro w'
            go_simp
            with_reducible rfl
          rotate_left
          · simp only [Act.put, List.setIfInBounds_toArray, List.set_cons_zero, List.set_cons_succ, i64_w, i32_w]
            rfl
          refine last_ (i := 10) (N := none) #[true, true, true, true, true, true, true, true, true, true, true] rfl rfl (by kernel_rfl) (by decide) (fun K hK => ?_)
          have hf9 := blk_frozen hc9 1
          have hc91 : w9.cell? ⟨s0, 1, none⟩ = some v1 := (blk_cell hc9 1).trans rfl
          refine skip_ (w1 := ?_) (by rfl) rfl ?_ ?_
          rotate_left
          · go_simp
            rfl
          refine hK.out _ _ ?_
          clear hK K
          refine done_ (by kernel_rfl) ?_
          go_wp2_with fail
          go_roundg k1
          case measure => exact Nat.lt_succ_self _
          case rel => exact ⟨wrap64 (n - 1), _, _, _, A7, c7, _, by first | rfl | simp, HGL2, HST10⟩
        · rw [if_neg hac] at hgl
          cases hgl
      · have hpair : acc = D2 ∧ l = l2 ∧ bad = d2 := by
          by_cases hn : 0 < n
          · have hb : bad = true := by
              cases bad with
              | true => rfl
              | false => exact absurd ⟨hn, rfl⟩ hgo
            rw [if_pos hn, if_pos hb] at hgl
            cases hgl
            exact ⟨rfl, rfl, hb⟩
          · rw [if_neg hn] at hgl
            cases hgl
            exact ⟨rfl, rfl, rfl⟩
        obtain ⟨rfl, rfl, rfl⟩ := hpair
        have hgo2 : decide (0 < n) = false ∨ (decide (0 < n) = true ∧ bad = true) := by
          by_cases hn : 0 < n
          · refine .inr ⟨decide_eq_true hn, ?_⟩
            cases bad with
            | true => rfl
            | false => exact absurd ⟨hn, rfl⟩ hgo
          · exact .inl (decide_eq_false hn)
        clear hgl HGL hgo
        rcases hgo2 with hd1 | ⟨hd1, rfl⟩
        · have HST0 := HST
          go_wp2_with fail
          clear HST x1
          go_loopg [4] k (fun kq v4 w' => ∃ (l : List ByteArray) (bad : Bool) (acc2 : List S47) (A : Option Addr) (c : Nat) (v2 : Value), Aside0 (stSess k kq l bad acc2 = some (S3, l3, d3)) ∧ Aside0 (StAt w w' B g s0 A c l bad n0 v1 acc v2 acc2))
          case atStart => exact ⟨_, _, [], _, _, _, HS, HST0⟩
          case round =>
            clear HS HST0
            obtain ⟨l, bad, acc2, A, c, v2, HGL, HST⟩ := hrel
            cases gk with
            | zero => exact absurd HGL.out (by simp [stSess])
            | succ k1 =>
              have hgl := HGL.out
              rw [stSess] at hgl
              have x0 : wr.cell? ⟨g, 0, none⟩ = some (.slice A l.length c) := (blk_cell HST.out.rd.1 0).trans rfl
              have x1 : wr.cell? ⟨g, 1, none⟩ = some (.bool bad) := (blk_cell HST.out.rd.1 1).trans rfl
              by_cases hgo : 0 < l.length ∧ bad = false
              · obtain ⟨hn, hbad⟩ := hgo
                subst hbad
                rw [if_pos hn, if_neg (by decide)] at hgl
                obtain ⟨⟨m1, q1, b1⟩, h1, hgl⟩ := Option.bind_eq_some_iff.mp hgl
                obtain ⟨⟨m2, q2, b2⟩, h2, hgl⟩ := Option.bind_eq_some_iff.mp hgl
                obtain ⟨⟨m3, q3, b3⟩, h3, hgl⟩ := Option.bind_eq_some_iff.mp hgl
                obtain ⟨⟨m4, q4, b4⟩, h4, hgl⟩ := Option.bind_eq_some_iff.mp hgl
                obtain ⟨⟨m5, q5, b5⟩, h5, hgl⟩ := Option.bind_eq_some_iff.mp hgl
                by_cases hac : acc2.length < 1099511627776
                · rw [if_pos hac] at hgl
                  dsimp only at h1 h2 h3 h4 h5
                  obtain ⟨acc9, hacc9⟩ : ∃ z, z = acc2 ++ [(⟨m1, m2, ⟨m3, m4, []⟩, m5⟩ : S47)] := ⟨_, rfl⟩
                  have hgl2 : stSess k k1 q5 b5 acc9 = some (S3, l3, d3) := by rw [hacc9]; exact hgl
                  have HACC := Aside0.mk hacc9
                  have HGL2 := Aside0.mk hgl2
                  have HAC := Aside0.mk hac
                  have H1 := Aside0.mk h1
                  have H2 := Aside0.mk h2
                  have H3 := Aside0.mk h3
                  have H4 := Aside0.mk h4
                  have H5 := Aside0.mk h5
                  have e1 : decide (0 < (l.length : Int)) = true := decide_eq_true (by omega)
                  have e2 : decide (0 < l.length) = true := decide_eq_true hn
                  clear hgl hgl2 hac hn HGL hacc9 h1 h2 h3 h4 h5
                  go_wp2_with fail
                  refine (inum_calls k g B A c l false m1 q1 b1 wr HST.out.rd H1.out).mono ?_
                  rintro e w5 ⟨rfl, ⟨A5, c5, hR⟩, hgr⟩
                  have HST5 := Aside0.mk (HST.out.call hR hgr)
                  clear hR hgr HST x0 x1
                  go_wp2_with fail
                  refine (inum_calls k g B A5 c5 q1 b1 m2 q2 b2 w5 HST5.out.rd H2.out).mono ?_
                  rintro e w6 ⟨rfl, ⟨A6, c6, hR⟩, hgr⟩
                  have HST6 := Aside0.mk (HST5.out.call hR hgr)
                  clear hR hgr HST5
                  go_wp2_with fail
                  have HX7 := Aside0.mk (StX.mk_ HST6.out #[.int .i64 m1, .int .i64 m2, .int .i64 0, .int .i64 0, .slice none 0 0, .int .i64 0])
                  obtain ⟨xb, hxbe⟩ : ∃ xb, xb = w6.heap.size := ⟨_, rfl⟩
                  rw [← hxbe] at HX7 ⊢
                  clear hxbe HST6
                  generalize w6.alloc (.cells #[.int .i64 m1, .int .i64 m2, .int .i64 0, .int .i64 0, .slice none 0 0, .int .i64 0] 47) = w7 at *
                  refine (inum_calls k g B A6 c6 q2 b2 m3 q3 b3 w7 HX7.out.st.rd H3.out).mono ?_
                  rintro e w8 ⟨rfl, ⟨A8, c8, hR⟩, hgr⟩
                  have HX8 := Aside0.mk (HX7.out.call hR hgr)
                  clear hR hgr HX7
                  go_wp2_with fail
                  refine (inum_calls k g B A8 c8 q3 b3 m4 q4 b4 w8 HX8.out.st.rd H4.out).mono ?_
                  rintro e w9 ⟨rfl, ⟨A9, c9, hR⟩, hgr⟩
                  have HX9 := Aside0.mk (HX8.out.call hR hgr)
                  have z2 : w9.cell? ⟨xb, 2, none⟩ = some (.int .i64 0) := (blk_cell HX9.out.box 2).trans rfl
                  have z3 : w9.cell? ⟨xb, 3, none⟩ = some (.int .i64 0) := (blk_cell HX9.out.box 3).trans rfl
                  have z4 : w9.cell? ⟨xb, 4, none⟩ = some (.slice none 0 0) := (blk_cell HX9.out.box 4).trans rfl
                  have f2 := blk_frozen HX9.out.box 2
                  have f3 := blk_frozen HX9.out.box 3
                  have f4 := blk_frozen HX9.out.box 4
                  clear hR hgr HX8
                  go_upto_region 9 with (fail)
                  have HX10 := Aside0.mk (((HX9.out.put 2 (.int .i64 m3)).put 3 (.int .i64 m4)).put 4 (.slice none 0 0))
                  clear HX9 z2 z3 z4 f2 f3 f4
                  generalize ((w9.setCell ⟨xb, 2, none⟩ (.int .i64 m3)).setCell ⟨xb, 3, none⟩ (.int .i64 m4)).setCell ⟨xb, 4, none⟩ (.slice none 0 0) = w10 at *
                  go_wp2_with fail
                  refine (inum_calls k g B A9 c9 q4 b4 m5 q5 b5 w10 HX10.out.st.rd H5.out).mono ?_
                  rintro e w11 ⟨rfl, ⟨A11, c11, hR⟩, hgr⟩
                  have HX11 := Aside0.mk (HX10.out.call hR hgr)
                  have z5 : w11.cell? ⟨xb, 5, none⟩ = some (.int .i64 0) := (blk_cell HX11.out.box 5).trans rfl
                  have f5 := blk_frozen HX11.out.box 5
                  clear hR hgr HX10
                  go_upto_region 10 with (fail)
                  have HX12 := Aside0.mk (HX11.out.put 5 (.int .i64 m5))
                  clear HX11 z5 f5
                  generalize w11.setCell ⟨xb, 5, none⟩ (.int .i64 m5) = w12 at *
                  have z0 : w12.cell? ⟨xb, 0, none⟩ = some (.int .i64 m1) := (blk_cell HX12.out.box 0).trans rfl
                  have z1 : w12.cell? ⟨xb, 1, none⟩ = some (.int .i64 m2) := (blk_cell HX12.out.box 1).trans rfl
                  have z2 : w12.cell? ⟨xb, 2, none⟩ = some (.int .i64 m3) := (blk_cell HX12.out.box 2).trans rfl
                  have z3 : w12.cell? ⟨xb, 3, none⟩ = some (.int .i64 m4) := (blk_cell HX12.out.box 3).trans rfl
                  have z4 : w12.cell? ⟨xb, 4, none⟩ = some (.slice none 0 0) := (blk_cell HX12.out.box 4).trans rfl
                  have z5 : w12.cell? ⟨xb, 5, none⟩ = some (.int .i64 m5) := (blk_cell HX12.out.box 5).trans rfl
                  have y2 : w12.cell? ⟨s0, 2, none⟩ = some v2 := (blk_cell HX12.out.st.cell 2).trans rfl
                  have HST12 := Aside0.mk HX12.out.st
                  clear HX12
                  go_wp2_with ((with_reducible refine gate_builtin (b := .append) (xs := #[.tmp 59, .tmp 61]) rfl ?_); at_builtin; refine Kd.S_append k47 (w0 := w12) w.heap.size rfl (.tmp 59) (.tmp 61) 26 47 (.agg #[.int .i64 0, .int .i64 0, .int .i64 0, .int .i64 0, .slice none 0 0, .int .i64 0]) 64 rfl Try.underlying26 info47 rfl (by decide) (by omega) v2 acc2 (⟨m1, m2, ⟨m3, m4, []⟩, m5⟩ : S47) [.int .i64 m1, .int .i64 m2, .int .i64 m3, .int .i64 m4, .slice none 0 0, .int .i64 m5] (fun _ => True) (fun _ => False) rfl rfl (k47_mkM _ _ _ (⟨m1, m2, ⟨m3, m4, []⟩, m5⟩ : S47) (Kd.R_nil _ _ _ _ _)) (fun _ hk => hk.elim) (fun _ _ => trivial) (Kd.S_mono HST12.out.sess (fun _ _ => ⟨trivial, id⟩)) (Below.refl _ _) HST12.out.grown.size (by have := HAC.out; omega) ?_; intro v13 w13 ho hb hg hat; rw [← HACC.out] at ho; obtain ⟨A13, c13, rfl⟩ := Kd.S_slice ho; have HST14 := Aside0.mk (HST12.out.addSess ho hg); have hc13 := (HST12.out.over hg (HST12.out.ne (Kd.S_R HST12.out.sess) (by decide)).1 (HST12.out.ne (Kd.S_R HST12.out.sess) (by decide)).2).2.1; have y13 : w13.cell? ⟨s0, 2, none⟩ = some v2 := (blk_cell hc13 2).trans rfl; have f13 := blk_frozen hc13 2; clear ho hb hg hat hc13)
                  go_roundg k1
                  case measure => exact Nat.lt_succ_self _
                  case rel => exact ⟨_, _, _, A11, c11, _, HGL2, HST14⟩
                · rw [if_neg hac] at hgl
                  cases hgl
              · have hpair : acc2 = S3 ∧ l = l3 ∧ bad = d3 := by
                  by_cases hn : 0 < l.length
                  · have hb : bad = true := by
                      cases bad with
                      | true => rfl
                      | false => exact absurd ⟨hn, rfl⟩ hgo
                    rw [if_pos hn, if_pos hb] at hgl
                    cases hgl
                    exact ⟨rfl, rfl, hb⟩
                  · rw [if_neg hn] at hgl
                    cases hgl
                    exact ⟨rfl, rfl, rfl⟩
                obtain ⟨rfl, rfl, rfl⟩ := hpair
                have y0 : wr.cell? ⟨s0, 0, none⟩ = some (.int .i64 n0) := (blk_cell HST.out.cell 0).trans rfl
                obtain ⟨Ad, cd, rfl⟩ := Kd.R_slice HST.out.docs
                obtain ⟨As, cs, rfl⟩ := Kd.S_slice HST.out.sess
                have y1 : wr.cell? ⟨s0, 1, none⟩ = some (.slice Ad acc.length cd) := (blk_cell HST.out.cell 1).trans rfl
                have y2 : wr.cell? ⟨s0, 2, none⟩ = some (.slice As acc2.length cs) := (blk_cell HST.out.cell 2).trans rfl
                have g0 := blk_frozen HST.out.cell 0
                have g1 := blk_frozen HST.out.cell 1
                have g2 := blk_frozen HST.out.cell 2
                have hx : decide (0 < (l.length : Int)) = false ∨ (decide (0 < (l.length : Int)) = true ∧ bad = true) := by
                  by_cases hn : 0 < l.length
                  · refine .inr ⟨decide_eq_true (by omega), ?_⟩
                    cases bad with
                    | true => rfl
                    | false => exact absurd ⟨hn, rfl⟩ hgo
                  · exact .inl (decide_eq_false (by omega))
                clear hgl HGL hgo
                rcases hx with hd2 | ⟨hd2, rfl⟩
                · have hd3 : decide (0 < l.length) = false := by rw [← hd2]; simp
                  go_wp2_with fail
                  refine bodyPost_ret (results_cell_row rfl _ _ s0 28 #[.int .i64 n0, .slice Ad acc.length cd, .slice As acc2.length cs] (0, 0) _ rfl HST.out.back.cell Try.underlying28 rfl (by kernel_rfl)) rfl ?_
                  exact ⟨_, _, rfl, HST.out.back.docs, HST.out.back.sess, ⟨A, c, _, HST.out.back.rd⟩, HST.out.back.grown⟩
                · have hd3 : decide (0 < l.length) = true := by rw [← hd2]; simp
                  go_wp2_with fail
                  refine bodyPost_ret (results_cell_row rfl _ _ s0 28 #[.int .i64 n0, .slice Ad acc.length cd, .slice As acc2.length cs] (0, 0) _ rfl HST.out.back.cell Try.underlying28 rfl (by kernel_rfl)) rfl ?_
                  exact ⟨_, _, rfl, HST.out.back.docs, HST.out.back.sess, ⟨A, c, _, HST.out.back.rd⟩, HST.out.back.grown⟩
        · have HST0 := HST
          go_wp2_with fail
          clear HST x1
          go_loopg [4] k (fun kq v4 w' => ∃ (l : List ByteArray) (bad : Bool) (acc2 : List S47) (A : Option Addr) (c : Nat) (v2 : Value), Aside0 (stSess k kq l bad acc2 = some (S3, l3, d3)) ∧ Aside0 (StAt w w' B g s0 A c l bad n0 v1 acc v2 acc2))
          case atStart => exact ⟨_, _, [], _, _, _, HS, HST0⟩
          case round =>
            clear HS HST0
            obtain ⟨l, bad, acc2, A, c, v2, HGL, HST⟩ := hrel
            cases gk with
            | zero => exact absurd HGL.out (by simp [stSess])
            | succ k1 =>
              have hgl := HGL.out
              rw [stSess] at hgl
              have x0 : wr.cell? ⟨g, 0, none⟩ = some (.slice A l.length c) := (blk_cell HST.out.rd.1 0).trans rfl
              have x1 : wr.cell? ⟨g, 1, none⟩ = some (.bool bad) := (blk_cell HST.out.rd.1 1).trans rfl
              by_cases hgo : 0 < l.length ∧ bad = false
              · obtain ⟨hn, hbad⟩ := hgo
                subst hbad
                rw [if_pos hn, if_neg (by decide)] at hgl
                obtain ⟨⟨m1, q1, b1⟩, h1, hgl⟩ := Option.bind_eq_some_iff.mp hgl
                obtain ⟨⟨m2, q2, b2⟩, h2, hgl⟩ := Option.bind_eq_some_iff.mp hgl
                obtain ⟨⟨m3, q3, b3⟩, h3, hgl⟩ := Option.bind_eq_some_iff.mp hgl
                obtain ⟨⟨m4, q4, b4⟩, h4, hgl⟩ := Option.bind_eq_some_iff.mp hgl
                obtain ⟨⟨m5, q5, b5⟩, h5, hgl⟩ := Option.bind_eq_some_iff.mp hgl
                by_cases hac : acc2.length < 1099511627776
                · rw [if_pos hac] at hgl
                  dsimp only at h1 h2 h3 h4 h5
                  obtain ⟨acc9, hacc9⟩ : ∃ z, z = acc2 ++ [(⟨m1, m2, ⟨m3, m4, []⟩, m5⟩ : S47)] := ⟨_, rfl⟩
                  have hgl2 : stSess k k1 q5 b5 acc9 = some (S3, l3, d3) := by rw [hacc9]; exact hgl
                  have HACC := Aside0.mk hacc9
                  have HGL2 := Aside0.mk hgl2
                  have HAC := Aside0.mk hac
                  have H1 := Aside0.mk h1
                  have H2 := Aside0.mk h2
                  have H3 := Aside0.mk h3
                  have H4 := Aside0.mk h4
                  have H5 := Aside0.mk h5
                  have e1 : decide (0 < (l.length : Int)) = true := decide_eq_true (by omega)
                  have e2 : decide (0 < l.length) = true := decide_eq_true hn
                  clear hgl hgl2 hac hn HGL hacc9 h1 h2 h3 h4 h5
                  go_wp2_with fail
                  refine (inum_calls k g B A c l false m1 q1 b1 wr HST.out.rd H1.out).mono ?_
                  rintro e w5 ⟨rfl, ⟨A5, c5, hR⟩, hgr⟩
                  have HST5 := Aside0.mk (HST.out.call hR hgr)
                  clear hR hgr HST x0 x1
                  go_wp2_with fail
                  refine (inum_calls k g B A5 c5 q1 b1 m2 q2 b2 w5 HST5.out.rd H2.out).mono ?_
                  rintro e w6 ⟨rfl, ⟨A6, c6, hR⟩, hgr⟩
                  have HST6 := Aside0.mk (HST5.out.call hR hgr)
                  clear hR hgr HST5
                  go_wp2_with fail
                  have HX7 := Aside0.mk (StX.mk_ HST6.out #[.int .i64 m1, .int .i64 m2, .int .i64 0, .int .i64 0, .slice none 0 0, .int .i64 0])
                  obtain ⟨xb, hxbe⟩ : ∃ xb, xb = w6.heap.size := ⟨_, rfl⟩
                  rw [← hxbe] at HX7 ⊢
                  clear hxbe HST6
                  generalize w6.alloc (.cells #[.int .i64 m1, .int .i64 m2, .int .i64 0, .int .i64 0, .slice none 0 0, .int .i64 0] 47) = w7 at *
                  refine (inum_calls k g B A6 c6 q2 b2 m3 q3 b3 w7 HX7.out.st.rd H3.out).mono ?_
                  rintro e w8 ⟨rfl, ⟨A8, c8, hR⟩, hgr⟩
                  have HX8 := Aside0.mk (HX7.out.call hR hgr)
                  clear hR hgr HX7
                  go_wp2_with fail
                  refine (inum_calls k g B A8 c8 q3 b3 m4 q4 b4 w8 HX8.out.st.rd H4.out).mono ?_
                  rintro e w9 ⟨rfl, ⟨A9, c9, hR⟩, hgr⟩
                  have HX9 := Aside0.mk (HX8.out.call hR hgr)
                  have z2 : w9.cell? ⟨xb, 2, none⟩ = some (.int .i64 0) := (blk_cell HX9.out.box 2).trans rfl
                  have z3 : w9.cell? ⟨xb, 3, none⟩ = some (.int .i64 0) := (blk_cell HX9.out.box 3).trans rfl
                  have z4 : w9.cell? ⟨xb, 4, none⟩ = some (.slice none 0 0) := (blk_cell HX9.out.box 4).trans rfl
                  have f2 := blk_frozen HX9.out.box 2
                  have f3 := blk_frozen HX9.out.box 3
                  have f4 := blk_frozen HX9.out.box 4
                  clear hR hgr HX8
                  go_upto_region 9 with (fail)
                  have HX10 := Aside0.mk (((HX9.out.put 2 (.int .i64 m3)).put 3 (.int .i64 m4)).put 4 (.slice none 0 0))
                  clear HX9 z2 z3 z4 f2 f3 f4
                  generalize ((w9.setCell ⟨xb, 2, none⟩ (.int .i64 m3)).setCell ⟨xb, 3, none⟩ (.int .i64 m4)).setCell ⟨xb, 4, none⟩ (.slice none 0 0) = w10 at *
                  go_wp2_with fail
                  refine (inum_calls k g B A9 c9 q4 b4 m5 q5 b5 w10 HX10.out.st.rd H5.out).mono ?_
                  rintro e w11 ⟨rfl, ⟨A11, c11, hR⟩, hgr⟩
                  have HX11 := Aside0.mk (HX10.out.call hR hgr)
                  have z5 : w11.cell? ⟨xb, 5, none⟩ = some (.int .i64 0) := (blk_cell HX11.out.box 5).trans rfl
                  have f5 := blk_frozen HX11.out.box 5
                  clear hR hgr HX10
                  go_upto_region 10 with (fail)
                  have HX12 := Aside0.mk (HX11.out.put 5 (.int .i64 m5))
                  clear HX11 z5 f5
                  generalize w11.setCell ⟨xb, 5, none⟩ (.int .i64 m5) = w12 at *
                  have z0 : w12.cell? ⟨xb, 0, none⟩ = some (.int .i64 m1) := (blk_cell HX12.out.box 0).trans rfl
                  have z1 : w12.cell? ⟨xb, 1, none⟩ = some (.int .i64 m2) := (blk_cell HX12.out.box 1).trans rfl
                  have z2 : w12.cell? ⟨xb, 2, none⟩ = some (.int .i64 m3) := (blk_cell HX12.out.box 2).trans rfl
                  have z3 : w12.cell? ⟨xb, 3, none⟩ = some (.int .i64 m4) := (blk_cell HX12.out.box 3).trans rfl
                  have z4 : w12.cell? ⟨xb, 4, none⟩ = some (.slice none 0 0) := (blk_cell HX12.out.box 4).trans rfl
                  have z5 : w12.cell? ⟨xb, 5, none⟩ = some (.int .i64 m5) := (blk_cell HX12.out.box 5).trans rfl
                  have y2 : w12.cell? ⟨s0, 2, none⟩ = some v2 := (blk_cell HX12.out.st.cell 2).trans rfl
                  have HST12 := Aside0.mk HX12.out.st
                  clear HX12
                  go_wp2_with ((with_reducible refine gate_builtin (b := .append) (xs := #[.tmp 59, .tmp 61]) rfl ?_); at_builtin; refine Kd.S_append k47 (w0 := w12) w.heap.size rfl (.tmp 59) (.tmp 61) 26 47 (.agg #[.int .i64 0, .int .i64 0, .int .i64 0, .int .i64 0, .slice none 0 0, .int .i64 0]) 64 rfl Try.underlying26 info47 rfl (by decide) (by omega) v2 acc2 (⟨m1, m2, ⟨m3, m4, []⟩, m5⟩ : S47) [.int .i64 m1, .int .i64 m2, .int .i64 m3, .int .i64 m4, .slice none 0 0, .int .i64 m5] (fun _ => True) (fun _ => False) rfl rfl (k47_mkM _ _ _ (⟨m1, m2, ⟨m3, m4, []⟩, m5⟩ : S47) (Kd.R_nil _ _ _ _ _)) (fun _ hk => hk.elim) (fun _ _ => trivial) (Kd.S_mono HST12.out.sess (fun _ _ => ⟨trivial, id⟩)) (Below.refl _ _) HST12.out.grown.size (by have := HAC.out; omega) ?_; intro v13 w13 ho hb hg hat; rw [← HACC.out] at ho; obtain ⟨A13, c13, rfl⟩ := Kd.S_slice ho; have HST14 := Aside0.mk (HST12.out.addSess ho hg); have hc13 := (HST12.out.over hg (HST12.out.ne (Kd.S_R HST12.out.sess) (by decide)).1 (HST12.out.ne (Kd.S_R HST12.out.sess) (by decide)).2).2.1; have y13 : w13.cell? ⟨s0, 2, none⟩ = some v2 := (blk_cell hc13 2).trans rfl; have f13 := blk_frozen hc13 2; clear ho hb hg hat hc13)
                  go_roundg k1
                  case measure => exact Nat.lt_succ_self _
                  case rel => exact ⟨_, _, _, A11, c11, _, HGL2, HST14⟩
                · rw [if_neg hac] at hgl
                  cases hgl
              · have hpair : acc2 = S3 ∧ l = l3 ∧ bad = d3 := by
                  by_cases hn : 0 < l.length
                  · have hb : bad = true := by
                      cases bad with
                      | true => rfl
                      | false => exact absurd ⟨hn, rfl⟩ hgo
                    rw [if_pos hn, if_pos hb] at hgl
                    cases hgl
                    exact ⟨rfl, rfl, hb⟩
                  · rw [if_neg hn] at hgl
                    cases hgl
                    exact ⟨rfl, rfl, rfl⟩
                obtain ⟨rfl, rfl, rfl⟩ := hpair
                have y0 : wr.cell? ⟨s0, 0, none⟩ = some (.int .i64 n0) := (blk_cell HST.out.cell 0).trans rfl
                obtain ⟨Ad, cd, rfl⟩ := Kd.R_slice HST.out.docs
                obtain ⟨As, cs, rfl⟩ := Kd.S_slice HST.out.sess
                have y1 : wr.cell? ⟨s0, 1, none⟩ = some (.slice Ad acc.length cd) := (blk_cell HST.out.cell 1).trans rfl
                have y2 : wr.cell? ⟨s0, 2, none⟩ = some (.slice As acc2.length cs) := (blk_cell HST.out.cell 2).trans rfl
                have g0 := blk_frozen HST.out.cell 0
                have g1 := blk_frozen HST.out.cell 1
                have g2 := blk_frozen HST.out.cell 2
                have hx : decide (0 < (l.length : Int)) = false ∨ (decide (0 < (l.length : Int)) = true ∧ bad = true) := by
                  by_cases hn : 0 < l.length
                  · refine .inr ⟨decide_eq_true (by omega), ?_⟩
                    cases bad with
                    | true => rfl
                    | false => exact absurd ⟨hn, rfl⟩ hgo
                  · exact .inl (decide_eq_false (by omega))
                clear hgl HGL hgo
                rcases hx with hd2 | ⟨hd2, rfl⟩
                · have hd3 : decide (0 < l.length) = false := by rw [← hd2]; simp
                  go_wp2_with fail
                  refine bodyPost_ret (results_cell_row rfl _ _ s0 28 #[.int .i64 n0, .slice Ad acc.length cd, .slice As acc2.length cs] (0, 0) _ rfl HST.out.back.cell Try.underlying28 rfl (by kernel_rfl)) rfl ?_
                  exact ⟨_, _, rfl, HST.out.back.docs, HST.out.back.sess, ⟨A, c, _, HST.out.back.rd⟩, HST.out.back.grown⟩
                · have hd3 : decide (0 < l.length) = true := by rw [← hd2]; simp
                  go_wp2_with fail
                  refine bodyPost_ret (results_cell_row rfl _ _ s0 28 #[.int .i64 n0, .slice Ad acc.length cd, .slice As acc2.length cs] (0, 0) _ rfl HST.out.back.cell Try.underlying28 rfl (by kernel_rfl)) rfl ?_
                  exact ⟨_, _, rfl, HST.out.back.docs, HST.out.back.sess, ⟨A, c, _, HST.out.back.rd⟩, HST.out.back.grown⟩
end Go.Proofs.Yticlghbdapbdnaa.I
/-! IPar -/
namespace Go.Proofs.Yticlghbdapbdnaa.I
open Go.RowKit Go.Proofs.YticlghbdapbdnaaW.PrintWords Go.Proofs.YticlghbdapbdnaaW.PrintLast Go.Proofs.YticlghbdapbdnaaW.PrintMore Go.Proofs.Yticlghbdapbdnaa.Base
set_option linter.unusedVariables false
set_option linter.unusedSimpArgs false
def image_Parse.f (k : Nat) (l0 : List Int) : Option (Int × List S42 × List S47 × Int) :=
  if l0.length ≤ 1099511627776 then (if l0.length < 4 then some (0, [], [], 1) else
    (wire_Get.f k (l0.take (l0.length - 4))).bind fun u => (image_state k u.1 (u.2 != 0)).bind fun s => (image_Bytes.f k s.1 s.2.1 s.2.2.1).bind fun b =>
      some (if s.2.2.2 = true then (0, [], [], 1) else if b.2 ≠ 0 then (0, [], [], 1) else if (strOfNums b.1).toList = (strOfNums l0).toList then (s.1, s.2.1, s.2.2.1, 0) else (0, [], [], 1))) else none
theorem image_Parse.mono : ∀ a0 k, LeO (image_Parse.f k a0) (image_Parse.f (k + 1) a0) := by
  intro a0 k
  unfold image_Parse.f
  exact LeO.ite (LeO.ite (LeO.refl _) (LeO.bind (wire_Get.mono _ _) (fun _ => LeO.bind (image_state_mono _ _ _) (fun _ => LeO.bind (image_Bytes.mono _ _ _ _) (fun _ => LeO.refl _))))) (LeO.refl _)
theorem len_facts (n : Nat) (h4 : ¬ n < 4) (h : n ≤ 1099511627776) : wrap64 ((n : Int) - 4) = ((n - 4 : Nat) : Int) ∧ 0 ≤ ((n - 4 : Nat) : Int) ∧ ((n - 4 : Nat) : Int) ≤ n := by
  refine ⟨?_, by omega, by omega⟩
  rw [wrap64_in _ (by omega) (by omega)]
  omega
set_option maxHeartbeats 3200000 in
set_option maxRecDepth 100000 in
theorem image_Parse.calls (k : Nat) (A0 : Option Addr) (c0 : Nat) (l0 : List Int) (r1_0 : Int) (r1_1 : List S42) (r1_2 : List S47) (r2 : Int) (w : World) (hr0 : Kd.C (Kd.int .u8) w A0 l0.length l0) (hc0 : l0.length ≤ c0) (h : image_Parse.f k l0 = some (r1_0, r1_1, r1_2, r2)) :
    Calls Try.prog 6 #[.slice A0 l0.length c0] w fun e w' => ∃ v1 v2, e = .returned (.tuple #[.agg #[.int .i64 r1_0, v1, v2], .int .i64 r2]) ∧ k42.R 42 w' w.heap.size (fun _ => True) v1 r1_1 ∧ Kd.S k47 47 w' w.heap.size (fun _ => True) v2 r1_2 ∧ Below w.heap.size w w' := by
  unfold image_Parse.f at h
  have hu28 := Try.underlying28
  have hu54 := Try.underlying54
  by_cases hlen : l0.length ≤ 1099511627776
  · rw [if_pos hlen] at h
    by_cases h4 : l0.length < 4
    · rw [if_pos h4] at h
      cases h
      have d1 : decide ((l0.length : Int) < 4) = true := decide_eq_true (by omega)
      have d2 : decide (l0.length < 4) = true := decide_eq_true h4
      clear hr0 hc0 hlen h4
      go_enter Try.func6, Try.ntmps6
      go_upto_region 2 with (fail)
      have hbx := heap_alloc_new w (.cells #[.int .i64 0, .slice none 0 0, .slice none 0 0] 28)
      have hbl : Below w.heap.size w (w.alloc (.cells #[.int .i64 0, .slice none 0 0, .slice none 0 0] 28)) := below_alloc (Below.refl _ _) _
      obtain ⟨s0, hs0⟩ : ∃ s0, s0 = w.heap.size := ⟨_, rfl⟩
      rw [← hs0] at hbx ⊢
      generalize w.alloc (.cells #[.int .i64 0, .slice none 0 0, .slice none 0 0] 28) = w0 at *
      have y0 : w0.cell? ⟨s0, 0, none⟩ = some (.int .i64 0) := (blk_cell hbx 0).trans rfl
      have y1 : w0.cell? ⟨s0, 1, none⟩ = some (.slice none 0 0) := (blk_cell hbx 1).trans rfl
      have y2 : w0.cell? ⟨s0, 2, none⟩ = some (.slice none 0 0) := (blk_cell hbx 2).trans rfl
      have g0 := blk_frozen hbx 0
      have g1 := blk_frozen hbx 1
      have g2 := blk_frozen hbx 2
      have HBX := Aside0.mk hbx
      have HBL := Aside0.mk hbl
      have HS0 := Aside0.mk hs0
      clear hbx hbl hs0
      go_wp2_with fail
      refine bodyPost_ret (results_ct rfl _ _ s0 28 #[.int .i64 0, .slice none 0 0, .slice none 0 0] (0, 0) _ rfl (blk_set (blk_set (blk_set HBX.out 0 _) 1 _) 2 _) Try.underlying28 rfl (by kernel_rfl)) rfl ?_
      exact ⟨_, _, rfl, Kd.R_nil _ _ _ _ _, Kd.S_nil _ _ _ _ _, below_set (below_set (below_set HBL.out (by rw [HS0.out]; exact Nat.le_refl _)) (by rw [HS0.out]; exact Nat.le_refl _)) (by rw [HS0.out]; exact Nat.le_refl _)⟩
    · rw [if_neg h4] at h
      obtain ⟨⟨L, e1⟩, hget, h1⟩ := Option.bind_eq_some_iff.mp h
      obtain ⟨⟨idx, docs, sess, sb⟩, hst, h2⟩ := Option.bind_eq_some_iff.mp h1
      obtain ⟨⟨bs, be⟩, hby, h3⟩ := Option.bind_eq_some_iff.mp h2
      have hres := Option.some.inj h3
      clear h h1 h2 h3
      dsimp only at hst hby hres
      have d1 : decide ((l0.length : Int) < 4) = false := decide_eq_false (by omega)
      have d2 : decide (l0.length < 4) = false := decide_eq_false h4
      obtain ⟨hw, hw0, hw1⟩ := len_facts l0.length h4 hlen
      obtain ⟨m, hm⟩ : ∃ m, m = l0.length - 4 := ⟨_, rfl⟩
      rw [← hm] at hget hw hw0 hw1
      have hml : m ≤ l0.length := by omega
      obtain ⟨i5, hi5, _, hsz5, _⟩ := info_parts info5'
      have hcut := cut_to (P := Try.prog) 23 5 .i64 Try.underlying23 hi5 A0 l0.length c0 (m : Int) hw0 hw1 hc0
      rw [Int.toNat_natCast] at hcut
      have htl : (l0.take m).length = m := by rw [List.length_take]; omega
      have hC1 := Kd.C_take (m := m) hr0 hml
      obtain ⟨lt, hlt⟩ : ∃ lt, lt = l0.take m := ⟨_, rfl⟩
      rw [← hlt] at hget htl hC1
      have HC1 : Aside0 (Kd.C (Kd.int .u8) w A0 m lt) := ⟨by have := hC1; rwa [htl] at this⟩
      have HTL := Aside0.mk htl
      have HGET := Aside0.mk hget
      have HSTA := Aside0.mk hst
      have HBY := Aside0.mk hby
      have HRES := Aside0.mk hres
      have HR0 := Aside0.mk hr0
      have HC0 := Aside0.mk hc0
      have HM : Aside0 (m ≤ c0) := ⟨by omega⟩
      clear hget hst hby hres hr0 hc0 hlen h4 hw0 hw1 hm hml hi5 hsz5 htl hC1 hlt
      go_enter Try.func6, Try.ntmps6
      go_wp2_with fail
      have hbx := heap_alloc_new w (.cells #[.int .i64 0, .slice none 0 0, .slice none 0 0] 28)
      have hbl : Below w.heap.size w (w.alloc (.cells #[.int .i64 0, .slice none 0 0, .slice none 0 0] 28)) := below_alloc (Below.refl _ _) _
      obtain ⟨s0, hs0⟩ : ∃ s0, s0 = w.heap.size := ⟨_, rfl⟩
      rw [← hs0] at hbx ⊢
      generalize w.alloc (.cells #[.int .i64 0, .slice none 0 0, .slice none 0 0] 28) = w0 at *
      have HBX := Aside0.mk hbx
      have HBL := Aside0.mk hbl
      have HS0 := Aside0.mk hs0
      clear hbx hbl hs0
      have hg := wire_Get.calls k A0 c0 lt L e1 w0 (by rw [HTL.out]; exact Kd.C_below HC1.out HBL.out) (by rw [HTL.out]; exact HM.out) HGET.out
      rw [HTL.out] at hg
      refine hg.mono ?_
      rintro e w1 ⟨v, rfl, hrv, hb1⟩
      obtain ⟨Al, cl, rfl⟩ := Kd.R_slice hrv
      obtain ⟨_, hcl, hCl⟩ := Kd.R_reads' hrv
      have HCl := Aside0.mk hCl
      have HCL := Aside0.mk hcl
      have HB1 : Aside0 (Below w.heap.size w w1) := ⟨below_step HBL.out hb1⟩
      have HBX1 : Aside0 (w1.heap[s0]? = some (.cells #[.int .i64 0, .slice none 0 0, .slice none 0 0] 28 (0, 0))) := ⟨blk_below HBX.out hb1⟩
      clear hg hrv hcl hCl hb1 HBX HBL
      obtain ⟨e1b, he1b⟩ : ∃ e1b, e1b = (e1 != 0) := ⟨_, rfl⟩
      have he1c : (e1 != 0) = e1b := he1b.symm
      rw [← he1b] at HSTA
      clear he1b
      go_wp2_with fail
      have hrx := heap_alloc_new w1 (.cells #[.slice Al L.length cl, .bool e1b] 54)
      have hbl : Below w1.heap.size w1 (w1.alloc (.cells #[.slice Al L.length cl, .bool e1b] 54)) := below_alloc (Below.refl _ _) _
      obtain ⟨g, hg⟩ : ∃ g, g = w1.heap.size := ⟨_, rfl⟩
      rw [← hg] at hrx ⊢
      have HRD : Aside0 (RdAt 54 Kd.string g (w1.alloc (.cells #[.slice Al L.length cl, .bool e1b] 54)) g Al cl L e1b) := ⟨⟨hrx, fun W hW => C_of_heap (ByteArray.empty) HCl.out (fun i hi => (hW i (by omega)).trans (hbl.block i hi)), HCL.out, Nat.le_refl _⟩⟩
      have HB2 : Aside0 (Below w.heap.size w (w1.alloc (.cells #[.slice Al L.length cl, .bool e1b] 54))) := ⟨below_step HB1.out hbl⟩
      have HBX2 := Aside0.mk (blk_below HBX1.out hbl)
      have HG : Aside0 (w.heap.size ≤ g ∧ s0 < g) := ⟨by have := HB1.out.size; have := blk_lt HBX1.out; omega⟩
      clear hrx hbl hg HB1 HBX1 HCl HCL
      generalize w1.alloc (.cells #[.slice Al L.length cl, .bool e1b] 54) = w2 at *
      refine (state_calls k g g Al cl L e1b idx docs sess sb w2 HRD.out HSTA.out).mono ?_
      rintro e w3 ⟨v1, v2, rfl, hR1, hS2, ⟨A3, c3, l3, hR⟩, hgr⟩
      obtain ⟨A1, c1, rfl⟩ := Kd.R_slice hR1
      obtain ⟨A2, c2, rfl⟩ := Kd.S_slice hS2
      have HB3 : Aside0 (Below w.heap.size w w3) := ⟨below_grownG HB2.out hgr HG.out.1⟩
      have HBX3 : Aside0 (w3.heap[s0]? = some (.cells #[.int .i64 0, .slice none 0 0, .slice none 0 0] 28 (0, 0))) := ⟨(hgr.block s0 (blk_lt HBX2.out) (fun e => by have := Option.some.inj e; have := HG.out.2; omega)).trans HBX2.out⟩
      have HR1 : Aside0 (k42.R 42 w3 w.heap.size (fun _ => True) (.slice A1 docs.length c1) docs) := ⟨Kd.R_lower hR1 HB2.out.size⟩
      have HS2 : Aside0 (Kd.S k47 47 w3 w.heap.size (fun _ => True) (.slice A2 sess.length c2) sess) := ⟨Kd.S_lower hS2 HB2.out.size⟩
      have HRD3 := Aside0.mk hR
      clear hR1 hS2 hR hgr HB2 HBX2 HRD
      go_wp2_with fail
      have hsx := heap_alloc_new w3 (.cells #[.int .i64 idx, .slice A1 docs.length c1, .slice A2 sess.length c2] 28)
      have hbl : Below w3.heap.size w3 (w3.alloc (.cells #[.int .i64 idx, .slice A1 docs.length c1, .slice A2 sess.length c2] 28)) := below_alloc (Below.refl _ _) _
      obtain ⟨s7, hs7⟩ : ∃ s7, s7 = w3.heap.size := ⟨_, rfl⟩
      rw [← hs7] at hsx ⊢
      have HSX := Aside0.mk hsx
      have HB4 : Aside0 (Below w.heap.size w (w3.alloc (.cells #[.int .i64 idx, .slice A1 docs.length c1, .slice A2 sess.length c2] 28))) := ⟨below_step HB3.out hbl⟩
      have HBX4 := Aside0.mk (blk_below HBX3.out hbl)
      have HR4 := Aside0.mk (Kd.R_below HR1.out hbl)
      have HS4 := Aside0.mk (Kd.S_below HS2.out hbl)
      have HRD4 := Aside0.mk (HRD3.out.below hbl)
      clear hsx hbl hs7 HB3 HBX3 HR1 HS2 HRD3
      generalize w3.alloc (.cells #[.int .i64 idx, .slice A1 docs.length c1, .slice A2 sess.length c2] 28) = w4 at *
      refine (image_Bytes.calls k idx A1 c1 docs A2 c2 sess bs be w4 (Kd.R_reads' HR4.out).2.2 (Kd.R_reads' HR4.out).2.1 (Kd.S_reads' HS4.out).2.2 (Kd.S_reads' HS4.out).2.1 HBY.out).mono ?_
      rintro e w5 ⟨v3, rfl, hRb, hb5⟩
      obtain ⟨A5, c5, rfl⟩ := Kd.R_slice hRb
      have HB5 : Aside0 (Below w.heap.size w w5) := ⟨below_step HB4.out hb5⟩
      have HBX5 : Aside0 (w5.heap[s0]? = some (.cells #[.int .i64 0, .slice none 0 0, .slice none 0 0] 28 (0, 0))) := ⟨blk_below HBX4.out hb5⟩
      have HSX5 : Aside0 (w5.heap[s7]? = some (.cells #[.int .i64 idx, .slice A1 docs.length c1, .slice A2 sess.length c2] 28 (0, 0))) := ⟨blk_below HSX.out hb5⟩
      have HR5 := Aside0.mk (Kd.R_below HR4.out hb5)
      have HS5 := Aside0.mk (Kd.S_below HS4.out hb5)
      have hcv1 := Kd.C_string (P := Try.prog) (c := c5) Try.underlying23 Try.underlying5 Try.underlying9 (Kd.R_reads' hRb).2.2
      have hcv2 := Kd.C_string (P := Try.prog) (c := c0) Try.underlying23 Try.underlying5 Try.underlying9 (Kd.C_below HR0.out HB5.out)
      have x1 : w5.cell? ⟨g, 1, none⟩ = some (.bool sb) := (blk_cell (HRD4.out.below hb5).1 1).trans rfl
      obtain ⟨sa, hsa⟩ : ∃ sa, sa = strOfNums bs := ⟨_, rfl⟩
      obtain ⟨sl, hsl⟩ : ∃ sl, sl = strOfNums l0 := ⟨_, rfl⟩
      have hres := HRES.out
      rw [← hsa] at hcv1 hres
      rw [← hsl] at hcv2 hres
      have y0 : w5.cell? ⟨s0, 0, none⟩ = some (.int .i64 0) := (blk_cell HBX5.out 0).trans rfl
      have y1 : w5.cell? ⟨s0, 1, none⟩ = some (.slice none 0 0) := (blk_cell HBX5.out 1).trans rfl
      have y2 : w5.cell? ⟨s0, 2, none⟩ = some (.slice none 0 0) := (blk_cell HBX5.out 2).trans rfl
      have g0 := blk_frozen HBX5.out 0
      have g1 := blk_frozen HBX5.out 1
      have g2 := blk_frozen HBX5.out 2
      have t0 : w5.cell? ⟨s7, 0, none⟩ = some (.int .i64 idx) := (blk_cell HSX5.out 0).trans rfl
      have t1 : w5.cell? ⟨s7, 1, none⟩ = some (.slice A1 docs.length c1) := (blk_cell HSX5.out 1).trans rfl
      have t2 : w5.cell? ⟨s7, 2, none⟩ = some (.slice A2 sess.length c2) := (blk_cell HSX5.out 2).trans rfl
      have HLE : Aside0 (w.heap.size ≤ s0) := ⟨by have := HS0.out; omega⟩
      clear hRb hb5 HB4 HBX4 HSX HR4 HS4 HRD4 hsa hsl HRES
      by_cases hsb : sb = true
      · rw [if_pos hsb] at hres
        cases hres
        subst hsb
        go_wp2_with fail
        refine bodyPost_ret (results_ct rfl _ _ s0 28 #[.int .i64 0, .slice none 0 0, .slice none 0 0] (0, 0) _ rfl (blk_set (blk_set (blk_set HBX5.out 0 _) 1 _) 2 _) Try.underlying28 rfl (by kernel_rfl)) rfl ?_
        exact ⟨_, _, rfl, Kd.R_nil _ _ _ _ _, Kd.S_nil _ _ _ _ _, below_set (below_set (below_set HB5.out HLE.out) HLE.out) HLE.out⟩
      · rw [if_neg hsb] at hres
        have hsb' : sb = false := by simpa using hsb
        subst hsb'
        by_cases hbe : be ≠ 0
        · rw [if_pos hbe] at hres
          cases hres
          have q1 : (be != 0) = true := bne_iff_ne.mpr hbe
          clear hbe hsb
          go_wp2_with fail
          refine bodyPost_ret (results_ct rfl _ _ s0 28 #[.int .i64 0, .slice none 0 0, .slice none 0 0] (0, 0) _ rfl (blk_set (blk_set (blk_set HBX5.out 0 _) 1 _) 2 _) Try.underlying28 rfl (by kernel_rfl)) rfl ?_
          exact ⟨_, _, rfl, Kd.R_nil _ _ _ _ _, Kd.S_nil _ _ _ _ _, below_set (below_set (below_set HB5.out HLE.out) HLE.out) HLE.out⟩
        · rw [if_neg hbe] at hres
          have hbe' : be = 0 := by omega
          have q1 : (be != 0) = false := by rw [hbe']; rfl
          by_cases hss : sa.toList = sl.toList
          · rw [if_pos hss] at hres
            cases hres
            have q2 : (sa.toList != sl.toList) = false := bne_eq_false_iff_eq.mpr hss
            have q4 : (sa.toList == sl.toList) = true := beq_iff_eq.mpr hss
            clear hbe hbe' hsb hss
            go_wp2_with fail
            refine bodyPost_ret (results_ct rfl _ _ s0 28 #[.int .i64 r1_0, .slice A1 r1_1.length c1, .slice A2 r1_2.length c2] (0, 0) _ rfl (blk_set (blk_set (blk_set HBX5.out 0 _) 1 _) 2 _) Try.underlying28 rfl (by kernel_rfl)) rfl ?_
            exact ⟨_, _, rfl, Kd.R_set (Kd.R_set (Kd.R_set HR5.out HBX5.out (by decide) 0 _) (blk_set HBX5.out 0 _) (by decide) 1 _) (blk_set (blk_set HBX5.out 0 _) 1 _) (by decide) 2 _, Kd.S_set (Kd.S_set (Kd.S_set HS5.out HBX5.out (by decide) 0 _) (blk_set HBX5.out 0 _) (by decide) 1 _) (blk_set (blk_set HBX5.out 0 _) 1 _) (by decide) 2 _, below_set (below_set (below_set HB5.out HLE.out) HLE.out) HLE.out⟩
          · rw [if_neg hss] at hres
            cases hres
            have q2 : (sa.toList != sl.toList) = true := bne_iff_ne.mpr hss
            have q4 : (sa.toList == sl.toList) = false := beq_eq_false_iff_ne.mpr hss
            clear hbe hbe' hsb hss
            go_wp2_with fail
            refine bodyPost_ret (results_ct rfl _ _ s0 28 #[.int .i64 0, .slice none 0 0, .slice none 0 0] (0, 0) _ rfl (blk_set (blk_set (blk_set HBX5.out 0 _) 1 _) 2 _) Try.underlying28 rfl (by kernel_rfl)) rfl ?_
            exact ⟨_, _, rfl, Kd.R_nil _ _ _ _ _, Kd.S_nil _ _ _ _ _, below_set (below_set (below_set HB5.out HLE.out) HLE.out) HLE.out⟩
  · rw [if_neg hlen] at h
    cases h
end Go.Proofs.Yticlghbdapbdnaa.I
