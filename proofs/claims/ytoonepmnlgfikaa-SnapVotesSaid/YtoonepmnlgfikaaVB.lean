/- Snap (merged). -/
import Derived.Test.YtoonepmnlgfikaaVA
import Derived.Test.YtoonepmnlgfikaaDMPure
import Derived.Test.YtoonepmnlgfikaaVxM
import Derived.BigRegion
import Derived.Deep.RegionHeld3
import Derived.BigQuiet
import Derived.Test.YtoonepmnlgfikaaDSPure
/-! VStore -/
namespace Go.Proofs.Ytoonepmnlgfikaa.D
open Go.RowKit Go.Proofs.YtoonepmnlgfikaaW.PrintWords Go.Proofs.YtoonepmnlgfikaaW.PrintLast Go.Proofs.YtoonepmnlgfikaaW.PrintMore Go.Proofs.Ytoonepmnlgfikaa.Base Go.Maps Go.Sort Go.Shelf
set_option linter.unusedVariables false
set_option linter.unusedSimpArgs false
section
variable {w : World} {B g b cnt : Nat} {n : Int} {D : DataW Unit} {F : Model}
theorem dsk_append_new' (h : Dsk w B g b cnt n D F) (h0 : 0 ≤ n) (h1 : n ≤ 1000000) (hcnt : cnt < 1000) (name : ByteArray) (hs : name.size ≤ maxLen) (l : List Int) (A : Option Addr) (c : Nat) (hl : l.length ≤ 10000) (hA : ArgOk B w A l) (hn : nameB name = true) (hF : F name.data.toList = none) (hlt : Maps.size D < 16) :
    Calls Try.prog 11 #[.pointer (some ⟨g, 0, none⟩), .string name, .slice A l.length c] w fun e w' => e = .returned (.int .i64 0) ∧ ∃ D', Dsk w' B g b (cnt + 1) (n + 1) D' (F.put name.data.toList (some ([], l))) ∧ Maps.size D' = Maps.size D + 1 ∧ Calm B w w' ∧ Below B w w' := by
  have hp := h.at_none hF
  refine (append_new g b cnt hcnt n h0 h1 D name hs l A c (by omega) w (fun W hW => hA W (fun i hi hc => hW i hi ?_ ?_)) hn h.pow h.files h.gb hp hlt).mono ?_
  · rintro rfl
    rcases hc with hc | ⟨c, z, hc⟩
    · have := h.lowg; omega
    · have := h.pow
      unfold PowAt at this
      rw [hc] at this
      injection this with this
      injection this with _ this _
      exact absurd this (by decide)
  · rintro rfl
    rcases hc with hc | ⟨c, z, hc⟩
    · have := h.lowb; omega
    · obtain ⟨es, clock, hb, _⟩ := h.files
      rw [hc] at hb
      injection hb with hb
      cases hb
  · rintro e w' ⟨rfl, hg', f, v, hm', hfl, hf', hr', hk', hs', hbel⟩
    have hc := h.calm_of hs' hk'
    have hR : FileR w' B f [] l := ⟨⟨_, v, hf', Kd.R_nil _ _ _ _ _, Kd.R_lower (Kd.R_mono hr' (fun _ _ => trivial)) h.base⟩, Nat.le_trans h.base hfl, by simp, by omega⟩
    have hmore := h.more name.data.toList [] l f hF (by rw [arr_name]; exact hn) hlt hg' hm' hc (fun i c hi => hk' i (blk_lt hi) (h.ne82 hi).1 (h.ne82 hi).2) hfl hR
    exact ⟨rfl, _, hmore, by rw [Maps.size_put h.tidy, h.none_ _ hF]; rfl, hc, hbel B h.lowg h.lowb h.base⟩
theorem dsk_sync_hit' (h : Dsk w B g b cnt n D F) (h0 : 0 ≤ n) (h1 : n ≤ 1000000) (name : ByteArray) (hs : name.size ≤ maxLen) (s q : List Int) (hF : F name.data.toList = some (s, q)) :
    Calls Try.prog 12 #[.pointer (some ⟨g, 0, none⟩), .string name] w fun e w' => e = .returned (.int .i64 0) ∧ Dsk w' B g b cnt (n + 1) D (F.put name.data.toList (some (q, q))) ∧ Calm B w w' ∧ Below B w w' := by
  have hn := h.good name.data.toList (by rw [hF]; exact Option.some_ne_none _)
  rw [arr_name] at hn
  obtain ⟨f, hp, hR⟩ := h.some_ _ s q hF
  obtain ⟨⟨v0, v1, hf, hr0, hr1⟩, hfB, hls, hll⟩ := hR
  obtain ⟨A1, c1, rfl⟩ := Kd.R_slice hr1
  have hne := h.ne82 hf
  refine (sync_hit g b cnt f v0 A1 q.length c1 n h0 h1 D name hs w hn h.pow h.files h.gb (hp _) hf).mono ?_
  rintro e w' ⟨rfl, hg', hf', hk', hs', hbel⟩
  have hc := h.calm_file hf hfB hs' (fun i h1 h2 h3 h4 => hk' i h1 h2 h4)
  have hR' : FileR w' B f q q := ⟨⟨_, _, hf', hc.row hr1, hc.row hr1⟩, hfB, hll, hll⟩
  have hb' : w'.heap[b]? = w.heap[b]? := hk' b (World.ownsMap.lt h.files) h.gb (Ne.symm hne.2)
  have ht := h.turn name.data.toList s q q q f hF (hp _) hg' hb' hc (fun i c hif hi => hk' i (blk_lt hi) (h.ne82 hi).1 hif) hR'
  exact ⟨rfl, ht, hc, hbel B h.lowg hfB h.base⟩

set_option maxHeartbeats 1600000 in
set_option maxRecDepth 100000 in
theorem sweep_none (h : Dsk w B g b cnt n D F) (name : ByteArray) (hs : name.size ≤ maxLen) (hn : nameB name = true) (hF : F name.data.toList = none) :
    Calls Try.prog 49 #[.pointer (some ⟨g, 0, none⟩), .string name] w fun e w' => e = .returned (.int .i64 0) ∧ Drawn0 w w' := by
  go_enter Try.func49, Try.ntmps49
  go_wp2_with fail
  refine (read_none g b cnt n D name hs w hn h.pow h.files (h.at_none hF)).mono ?_
  rintro e w' ⟨rfl, ⟨n1, rfl⟩⟩
  go_wp2_with fail
  go_ret
  exact ⟨rfl, n1, rfl⟩
set_option maxHeartbeats 3200000 in
set_option maxRecDepth 100000 in
theorem replace_calls (h : Dsk w B g b cnt n D F) (h0 : 0 ≤ n) (h1 : n ≤ 900000) (hcnt : cnt < 900) (name fresh : ByteArray) (hs : name.size ≤ maxLen) (hs2 : fresh.size ≤ maxLen) (hn : nameB name = true) (hf : nameB fresh = true) (hne : name.data.toList ≠ fresh.data.toList) (hF : F fresh.data.toList = none) (hlt : Maps.size D < 16) (A : Option Addr) (c : Nat) (p : List Int) (hp : p.length ≤ 280) (hC : Kd.C (Kd.int .u8) w A p.length p) :
    Calls Try.prog 66 #[.pointer (some ⟨g, 0, none⟩), .string name, .string fresh, .slice A p.length c] w fun e w' => e = .returned (.int .i64 0) ∧ ∃ n', 0 ≤ n' ∧ n' ≤ n + 3 ∧ Step w B g b n' (cnt + 2) (F.put name.data.toList (some (layB p, layB p))) w' := by
  have H := Aside0.mk h
  have HC := Aside0.mk hC
  have HLL : Aside0 ((layB p).length ≤ 10000) := ⟨by rw [layB_len]; omega⟩
  clear hC
  go_enter Try.func66, Try.ntmps66
  go_wp2_with fail
  refine (sweep_none H.out fresh hs2 hf hF).mono ?_
  rintro e w1 ⟨rfl, ⟨n1, rfl⟩⟩
  go_wp2_with fail
  refine (lay_calls A c p hp _ (Kd.C_drewN HC.out n1)).mono ?_
  rintro e w2 ⟨v2, rfl, hr2, hb2⟩
  obtain ⟨A2, c2, rfl⟩ := Kd.R_slice hr2
  have HD2 := Aside0.mk ((H.out.drewN n1).below hb2)
  have HR2 := Aside0.mk hr2
  have HB2 : Aside0 (Calm B w w2 ∧ Below B w w2) := ⟨(Calm.drewN n1).trans (Calm.below hb2), (pw_below_drewN (Below.refl _ _) n1).trans (hb2.mono H.out.base)⟩
  clear hr2 hb2
  go_wp2_with fail
  refine (dsk_append_new' HD2.out h0 (by omega) (by omega) fresh hs2 (layB p) A2 c2 HLL.out (ArgOk.of_row HR2.out) hf hF hlt).mono ?_
  rintro e w3 ⟨rfl, D3, hD3, hz3, hc3, hb3⟩
  have HD3 := Aside0.mk hD3
  have HB3 : Aside0 (Calm B w w3 ∧ Below B w w3) := ⟨HB2.out.1.trans hc3, HB2.out.2.trans hb3⟩
  clear hD3 hz3 hc3 hb3 HD2 HR2 HB2
  go_wp2_with fail
  refine (dsk_sync_hit' HD3.out (by omega) (by omega) fresh hs2 [] (layB p) (Model.put_same _ _ _)).mono ?_
  rintro e w4 ⟨rfl, hD4, hc4, hb4⟩
  have HD4 := Aside0.mk hD4
  have HB4 : Aside0 (Calm B w w4 ∧ Below B w w4) := ⟨HB3.out.1.trans hc4, HB3.out.2.trans hb4⟩
  clear hD4 hc4 hb4 HD3 HB3
  go_wp2_with fail
  refine (dsk_rename HD4.out (by omega) (by omega) (by omega) fresh name hs2 hs).mono ?_
  rintro e w5 ⟨e5, F5, n5, rfl, hn0, hn1, hst, hrl⟩
  have hrl' : e5 = 0 ∧ F5 = F.put name.data.toList (some (layB p, layB p)) := by
    rcases hrl with ⟨_, _, h | ⟨s, q, h, h3, h4⟩⟩ | ⟨h, _⟩
    · rw [Model.put_same] at h; cases h.1
    · rw [Model.put_same] at h
      injection h with h
      injection h with h1 h2
      subst h1 h2
      refine ⟨h3, h4.trans ?_⟩
      funext k
      unfold Model.put
      by_cases hk : k = name.data.toList
      · rw [if_pos hk, if_pos hk]
      · rw [if_neg hk, if_neg hk]
        by_cases hk2 : k = fresh.data.toList
        · rw [if_pos hk2, hk2, hF]
        · rw [if_neg hk2, if_neg hk2, if_neg hk2]
    · rw [hn, hf] at h; rcases h with h | h <;> cases h
  obtain ⟨rfl, rfl⟩ := hrl'
  obtain ⟨⟨c5, D5, hD5, hcn5⟩, hc5, hb5⟩ := hst
  have HST : Aside0 (Step w B g b n5 (cnt + 2) (F.put name.data.toList (some (layB p, layB p))) w5) := ⟨⟨⟨c5, D5, hD5, by omega⟩, HB4.out.1.trans hc5, HB4.out.2.trans hb5⟩⟩
  have HNN : Aside0 (0 ≤ n5 ∧ n5 ≤ n + 3) := ⟨by omega⟩
  clear hrl hD5 hc5 hb5 hn0 hn1 HD4 HB4
  go_wp2_with fail
  go_ret
  exact ⟨rfl, n5, HNN.out.1, HNN.out.2, HST.out⟩
set_option maxHeartbeats 1600000 in
set_option maxRecDepth 100000 in
theorem only_none (h : Dsk w B g b cnt n D F) (name : ByteArray) (hs : name.size ≤ maxLen) (hn : nameB name = true) (hF : F name.data.toList = none) :
    Calls Try.prog 63 #[.pointer (some ⟨g, 0, none⟩), .string name] w fun e w' => e = .returned (.tuple #[.slice none 0 0, .bool false, .int .i64 0]) ∧ Drawn0 w w' := by
  go_enter Try.func63, Try.ntmps63
  go_wp2_with fail
  refine (read_none g b cnt n D name hs w hn h.pow h.files (h.at_none hF)).mono ?_
  rintro e w' ⟨rfl, ⟨n1, rfl⟩⟩
  go_wp2_with fail
  refine bodyPost_ret (results_tmp3 rfl _ _ _) rfl ?_
  exact ⟨rfl, n1, rfl⟩
set_option maxHeartbeats 1600000 in
set_option maxRecDepth 100000 in
theorem only_hit (h : Dsk w B g b cnt n D F) (name : ByteArray) (hs : name.size ≤ maxLen) (p : List Int) (hp : p.length ≤ 280) (s : List Int) (hF : F name.data.toList = some (s, layB p)) :
    Calls Try.prog 63 #[.pointer (some ⟨g, 0, none⟩), .string name] w fun e w' => ∃ A c, e = .returned (.tuple #[.slice A p.length c, .bool true, .int .i64 0]) ∧ p.length ≤ c ∧ Kd.C (Kd.int .u8) w' A p.length p ∧ Below w.heap.size w w' := by
  go_enter Try.func63, Try.ntmps63
  go_wp2_with fail
  refine (dsk_read h name hs s (layB p) hF).mono ?_
  rintro e w1 ⟨v1, rfl, hr1, hb1⟩
  obtain ⟨A1, c1, rfl⟩ := Kd.R_slice hr1
  have HR1 := Aside0.mk (Kd.R_reads' hr1)
  have HB1 := Aside0.mk hb1
  clear hr1 hb1
  go_wp2_with fail
  refine (next_calls A1 c1 p hp w1 HR1.out.2.1 HR1.out.2.2).mono ?_
  rintro e w2 ⟨A2, c2, rfl, hl2, hC2, hb2⟩
  have HC2 := Aside0.mk hC2
  have HB2 := Aside0.mk (below_step HB1.out hb2)
  have HL2 := Aside0.mk hl2
  have hbs : (((layB p).length : Int) != ((layB p).length : Int)) = false := bne_self_eq_false _
  clear hC2 hb2 hl2
  go_wp2_with fail
  refine bodyPost_ret (results_tmp3 rfl _ _ _) rfl ?_
  exact ⟨A2, c2, rfl, HL2.out, HC2.out, HB2.out⟩
end
end Go.Proofs.Ytoonepmnlgfikaa.D
/-! VSnap -/
namespace Go.Proofs.Ytoonepmnlgfikaa.D
open Go.RowKit Go.Proofs.YtoonepmnlgfikaaW.PrintWords Go.Proofs.YtoonepmnlgfikaaW.PrintLast Go.Proofs.YtoonepmnlgfikaaW.PrintMore Go.Proofs.Ytoonepmnlgfikaa.Base Go.Maps Go.Sort Go.Shelf
set_option linter.unusedVariables false
set_option linter.unusedSimpArgs false
def nVote : ByteArray := ⟨#[115, 110, 97, 112, 45, 118, 111, 116, 101]⟩
def nData : ByteArray := ⟨#[115, 110, 97, 112, 45, 100, 97, 116, 97]⟩
def nFresh : ByteArray := ⟨#[115, 110, 97, 112, 45, 110, 101, 119]⟩
theorem name_vote : nameB nVote = true := by decide +kernel
theorem name_data : nameB nData = true := by decide +kernel
theorem name_fresh : nameB nFresh = true := by decide +kernel
/-- What a store keeps. -/
structure Kept where
  term : Int
  vote : Int
  index : Int
  last : Int
  data : ByteArray
def StoreAt (w : World) (s g : Nat) (k : Kept) : Prop := w.heap[s]? = some (.cells #[.int .i64 k.term, .int .i64 k.vote, .int .i64 k.index, .int .i64 k.last, .string k.data, .pointer (some ⟨g, 0, none⟩), .bool false] 99 (0, 0))
theorem add_flat (q o j : Nat) : (⟨q, o, none⟩ : Addr).add j = ⟨q, o + j, none⟩ := by
  unfold Addr.add
  split
  · next h => subst h; rfl
  · rfl
theorem StoreAt.cells {w : World} {s g : Nat} {k : Kept} (h : StoreAt w s g k) : w.cell? ⟨s, 0, none⟩ = some (.int .i64 k.term) ∧ w.cell? ⟨s, 1, none⟩ = some (.int .i64 k.vote) ∧ w.cell? ⟨s, 2, none⟩ = some (.int .i64 k.index) ∧ w.cell? ⟨s, 3, none⟩ = some (.int .i64 k.last) ∧ w.cell? ⟨s, 4, none⟩ = some (.string k.data) ∧ w.cell? ⟨s, 5, none⟩ = some (.pointer (some ⟨g, 0, none⟩)) ∧ w.cell? ⟨s, 6, none⟩ = some (.bool false) :=
  ⟨(blk_cell h 0).trans rfl, (blk_cell h 1).trans rfl, (blk_cell h 2).trans rfl, (blk_cell h 3).trans rfl, (blk_cell h 4).trans rfl, (blk_cell h 5).trans rfl, (blk_cell h 6).trans rfl⟩
section
variable {w : World} {B g b cnt : Nat} {n : Int} {D : DataW Unit} {F : Model}
set_option maxHeartbeats 1600000 in
set_option maxRecDepth 100000 in
theorem votes_none (s : Nat) (k : Kept) (h : Dsk w B g b cnt n D F) (hs : StoreAt w s g k) (hF : F nVote.data.toList = none) :
    Calls Try.prog 50 #[.pointer (some ⟨s, 0, none⟩)] w fun e w' => e = .returned (.int .i64 0) ∧ Drawn0 w w' := by
  obtain ⟨k0, k1, k2, k3, k4, k5, k6⟩ := hs.cells
  have hu99 := Try.underlying99
  go_enter Try.func50, Try.ntmps50
  go_wp2_with fail
  refine (only_none h nVote (by decide) name_vote hF).mono ?_
  rintro e w' ⟨rfl, ⟨n1, rfl⟩⟩
  go_wp2_with fail
  go_ret
  exact ⟨rfl, n1, rfl⟩
set_option maxHeartbeats 1600000 in
set_option maxRecDepth 100000 in
theorem snapshot_none (s : Nat) (k : Kept) (h : Dsk w B g b cnt n D F) (hs : StoreAt w s g k) (hF : F nData.data.toList = none) :
    Calls Try.prog 51 #[.pointer (some ⟨s, 0, none⟩)] w fun e w' => e = .returned (.int .i64 0) ∧ Drawn0 w w' := by
  obtain ⟨k0, k1, k2, k3, k4, k5, k6⟩ := hs.cells
  have hu99 := Try.underlying99
  go_enter Try.func51, Try.ntmps51
  go_wp2_with fail
  refine (only_none h nData (by decide) name_data hF).mono ?_
  rintro e w' ⟨rfl, ⟨n1, rfl⟩⟩
  go_wp2_with fail
  go_ret
  exact ⟨rfl, n1, rfl⟩
set_option maxHeartbeats 3200000 in
set_option maxRecDepth 100000 in
theorem votes_hit (s : Nat) (k : Kept) (h : Dsk w B g b cnt n D F) (hs : StoreAt w s g k) (t v : Int) (ht0 : 0 ≤ t) (ht1 : t < 1099511627776) (hv0 : 0 ≤ v) (hv1 : v < 1099511627776) (q : List Int) (hF : F nVote.data.toList = some (q, layB (be t 8 ++ be v 8))) :
    Calls Try.prog 50 #[.pointer (some ⟨s, 0, none⟩)] w fun e w' => e = .returned (.int .i64 0) ∧ StoreAt w' s g { k with term := t, vote := v } ∧ w.grownBy w' (some s) := by
  obtain ⟨k0, k1, k2, k3, k4, k5, k6⟩ := hs.cells
  have HS := Aside0.mk hs
  have hu99 := Try.underlying99
  have hu97 := Try.underlying97
  obtain ⟨p, hp⟩ : ∃ p, p = be t 8 ++ be v 8 := ⟨_, rfl⟩
  rw [← hp] at hF
  have hpl : p.length = 16 := by rw [hp, List.length_append, be_len, be_len]
  have hp1 : p.take 8 = be t 8 := by rw [hp]; rfl
  have hp2 : p.drop 8 = be v 8 := by rw [hp]; rfl
  clear hs
  go_enter Try.func50, Try.ntmps50
  go_wp2_with fail
  refine (only_hit h nVote (by decide) p (by omega) q hF).mono ?_
  rintro e w1 ⟨A, c, rfl, hcl, hC, hb⟩
  rw [hpl] at hcl hC ⊢
  obtain ⟨i5, hi5, _, hsz5, _⟩ := info_parts info5
  have hcut1 : ∀ W : World, (Instr.slice 27 (.slice A 16 c) none (some (.int .i64 8)) none).run Try.prog W = .ok (.slice A 8 c) W := cut_to 27 5 .i64 Try.underlying27 hi5 A 16 c 8 (by decide) (by decide) hcl
  have hc8 : (c = 8) = False := eq_false (by omega)
  have hC1 : Kd.C (Kd.int .u8) w1 A 8 (be t 8) := by
    have h1 := Kd.C_take (m := 8) (by rw [hpl]; exact hC) (by omega)
    rw [hp1] at h1
    exact h1
  have hC2 : Kd.C (Kd.int .u8) w1 (if c = 8 then A else A.map (·.add (8 * 1))) 8 (be v 8) := by
    have h1 := Kd.C_drop (m := 8) (c := c) (by rw [hpl]; exact hC) (by omega) (by omega)
    rw [hp2] at h1
    exact h1
  obtain ⟨ad, eA, _⟩ := hC.2.2 (by decide)
  subst eA
  rw [if_neg (by rw [hc8]; exact id)] at hC2
  obtain ⟨A2, hA2⟩ : ∃ A2, A2 = (some ⟨ad.block, ad.off + 8, none⟩ : Option Addr) := ⟨_, rfl⟩
  have hC2 : Kd.C (Kd.int .u8) w1 A2 8 (be v 8) := by rw [hA2]; exact hC2
  have HCL : Aside0 (8 ≤ c ∧ 8 ≤ c - 8) := ⟨by omega⟩
  have HA2 := Aside0.mk hA2
  have HC1 := Aside0.mk hC1
  have HC2 := Aside0.mk hC2
  have HS1 : Aside0 (StoreAt w1 s g k) := ⟨(hb.block s (blk_lt HS.out)).trans HS.out⟩
  have HB := Aside0.mk hb
  have hf0 : ∀ n, (w1.drewN n).frozen? ⟨s, 0, none⟩ = false := fun n => blk_frozen (show (w1.drewN n).heap[s]? = _ from HS1.out) 0
  have hf1 : ∀ n, (w1.drewN n).frozen? ⟨s, 1, none⟩ = false := fun n => blk_frozen (show (w1.drewN n).heap[s]? = _ from HS1.out) 1
  clear hC hC1 hC2 hb hA2 k0 k1 k2 k3 k4 k5 k6 hp1 hp2 hi5 hsz5 hcl hF hp
  go_wp2_with fail
  have H1 : Aside0 (∀ W, Drawn0 w1 W → Calls Try.prog 64 #[.slice (some ad) 8 c] W fun e w' => e = .returned (.int .i64 t) ∧ Drawn0 w1 w') := ⟨fun W ⟨m, hm⟩ => by
    subst hm
    refine (V.frames_Read.calls 20 (some ad) c (be t 8) t _ (Kd.C_drewN HC1.out m) HCL.out.1 (read8_is t ht0 ht1)).mono ?_
    rintro e w2 ⟨rfl, ⟨n2, rfl⟩⟩
    exact ⟨rfl, _, World.drewN_drewN _ _ _⟩⟩
  have H2 : Aside0 (∀ W, Drawn0 w1 W → Calls Try.prog 64 #[.slice (some ⟨ad.block, ad.off + 8, none⟩) 8 (c - 8)] W fun e w' => e = .returned (.int .i64 v) ∧ Drawn0 w1 w') := ⟨fun W ⟨m, hm⟩ => by
    subst hm
    rw [← HA2.out]
    refine (V.frames_Read.calls 20 A2 (c - 8) (be v 8) v _ (Kd.C_drewN HC2.out m) HCL.out.2 (read8_is v hv0 hv1)).mono ?_
    rintro e w2 ⟨rfl, ⟨n2, rfl⟩⟩
    exact ⟨rfl, _, World.drewN_drewN _ _ _⟩⟩
  have HFZ : Aside0 (∀ W, Drawn0 w1 W → StoreAt W s g k) := ⟨fun W ⟨m, hm⟩ => by subst hm; exact HS1.out⟩
  go_region_held3 (fun w' => True) (trivial)
    (first
    | (go_at_call 64; have hx := HD3.out; refine (H2.out _ (by first | exact hx | exact hx.step _)).mono ?_; rintro e w4 ⟨rfl, hd⟩; have HD4 := Aside0.mk hd; have HS4 := Aside0.mk (HFZ.out _ hd); have hf40 := blk_frozen HS4.out 0; have hf41 := blk_frozen HS4.out 1; have kc40 := HS4.out.cells.1; have kc41 := HS4.out.cells.2.1; clear hd hx)
    | (go_at_call 64; refine (H1.out _ (by first | exact ⟨1, rfl⟩ | exact ⟨0, rfl⟩ | exact ⟨_, rfl⟩)).mono ?_; rintro e w3 ⟨rfl, hd⟩; have HD3 := Aside0.mk hd; clear hd))
  go_wp2_with fail
  go_ret
  have hb1 : Below w.heap.size w w4 := below_step HB.out HD4.out.below
  exact ⟨rfl, blk_set (blk_set HS4.out 0 _) 1 _, ((grown_of_below hb1 (some s)).trans (grown_set w4 ⟨s, 0, none⟩ _)).trans (grown_set _ ⟨s, 1, none⟩ _)⟩
set_option maxHeartbeats 3200000 in
set_option maxRecDepth 100000 in
theorem snapshot_hit (s : Nat) (k : Kept) (h : Dsk w B g b cnt n D F) (hs : StoreAt w s g k) (t v : Int) (ht0 : 0 ≤ t) (ht1 : t < 1099511627776) (hv0 : 0 ≤ v) (hv1 : v < 1099511627776) (x : List Int) (hx : x.length ≤ 200) (hx0 : 0 < x.length) (q : List Int) (hF : F nData.data.toList = some (q, layB (be t 8 ++ be v 8 ++ x))) :
    Calls Try.prog 51 #[.pointer (some ⟨s, 0, none⟩)] w fun e w' => e = .returned (.int .i64 0) ∧ StoreAt w' s g { k with index := t, last := v, data := strOfNums x } ∧ w.grownBy w' (some s) := by
  obtain ⟨k0, k1, k2, k3, k4, k5, k6⟩ := hs.cells
  have HS := Aside0.mk hs
  have hu99 := Try.underlying99
  have hu97 := Try.underlying97
  obtain ⟨p, hp⟩ : ∃ p, p = be t 8 ++ be v 8 ++ x := ⟨_, rfl⟩
  rw [← hp] at hF
  have hpl : p.length = 16 + x.length := by rw [hp, List.length_append, List.length_append, be_len, be_len]
  have hp1 : p.take 8 = be t 8 := by rw [hp]; rfl
  have hp2 : (p.take 16).drop 8 = be v 8 := by rw [hp]; rfl
  have hp3 : p.drop 16 = x := by rw [hp]; rfl
  have HX := Aside0.mk hx
  clear hs hx
  go_enter Try.func51, Try.ntmps51
  go_wp2_with fail
  refine (only_hit h nData (by decide) p (by have := HX.out; omega) q hF).mono ?_
  rintro e w1 ⟨A, c, rfl, hcl, hC, hb⟩
  obtain ⟨m, hm⟩ : ∃ m, m = p.length := ⟨_, rfl⟩
  have hm16 : 16 ≤ m := by omega
  have hcm : m ≤ c := by omega
  obtain ⟨i5, hi5, _, hsz5, _⟩ := info_parts info5
  have hcut1 : ∀ W : World, (Instr.slice 27 (.slice A m c) none (some (.int .i64 8)) none).run Try.prog W = .ok (.slice A 8 c) W := cut_to 27 5 .i64 Try.underlying27 hi5 A m c 8 (by decide) (by omega) hcm
  have hC1 : Kd.C (Kd.int .u8) w1 A 8 (be t 8) := by
    have h1 := Kd.C_take (m := 8) hC (by omega)
    rw [hp1] at h1
    exact h1
  have hC2 : Kd.C (Kd.int .u8) w1 (if c = 8 then A else A.map (·.add (8 * 1))) 8 (be v 8) := by
    have h0 := Kd.C_take (m := 16) hC (by omega)
    have hl : (p.take 16).length = 16 := by rw [List.length_take]; omega
    have h1 := Kd.C_drop (m := 8) (c := c) h0 (by omega) (by omega)
    rw [hp2] at h1
    exact h1
  have hC3 : Kd.C (Kd.int .u8) w1 (if c = 16 then A else A.map (·.add (16 * 1))) x.length x := by
    have h1 := Kd.C_drop (m := 16) (c := c) hC (by omega) (by omega)
    rw [hp3] at h1
    exact h1
  have hcut2 := cut_mid (P := Try.prog) 27 5 .i64 .i64 Try.underlying27 hi5 1 hsz5 A m c 8 16 (by decide) (by decide) (by omega) hcm
  have hcut3 := cut_from (P := Try.prog) 27 5 .i64 Try.underlying27 hi5 1 hsz5 A m c 16 (by decide) (by omega)
  obtain ⟨ad, eA, _⟩ := hC.2.2 (by omega)
  subst eA
  have hc8 : (c = 8) = False := eq_false (by omega)
  rw [if_neg (by rw [hc8]; exact id)] at hC2
  have hc16 : (c = 16) = False := eq_false (by omega)
  rw [if_neg (by rw [hc16]; exact id)] at hC3
  have hcut3 : ∀ W : World, (Instr.slice 27 (.slice (some ad) m c) (some (.int .i64 16)) none none).run Try.prog W = .ok (.slice (some ⟨ad.block, ad.off + 16, none⟩) (m - 16) (c - 16)) W := fun W => by
    have h1 := hcut3 W
    rw [if_neg (by show ¬ c = 16; rw [hc16]; exact id)] at h1
    exact h1
  have hcut2 : ∀ W : World, (Instr.slice 27 (.slice (some ad) m c) (some (.int .i64 8)) (some (.int .i64 16)) none).run Try.prog W = .ok (.slice (some ⟨ad.block, ad.off + 8, none⟩) 8 (c - 8)) W := fun W => by
    have h1 := hcut2 W
    rw [if_neg (by show ¬ c = 8; rw [hc8]; exact id)] at h1
    exact h1
  have hmx : m - 16 = x.length := by omega
  have HCL : Aside0 (8 ≤ c ∧ 8 ≤ c - 8) := ⟨by omega⟩
  have HC1 := Aside0.mk hC1
  have HC2 : Aside0 (Kd.C (Kd.int .u8) w1 (some ⟨ad.block, ad.off + 8, none⟩) 8 (be v 8)) := ⟨hC2⟩
  have HC3 : Aside0 (Kd.C (Kd.int .u8) w1 (some ⟨ad.block, ad.off + 16, none⟩) x.length x) := ⟨hC3⟩
  have HS1 : Aside0 (StoreAt w1 s g k) := ⟨(hb.block s (blk_lt HS.out)).trans HS.out⟩
  have HB := Aside0.mk hb
  have hd16 : decide ((m : Int) < 16) = false := decide_eq_false (by omega)
  have hd16n : decide (m < 16) = false := decide_eq_false (by omega)
  have hR3 := Kd.reads_of_C (enc := Value.int .u8) (d := (0 : Int)) HC3.out
  obtain ⟨ad3, e3, hc3⟩ := hR3.2.2 hx0
  injection e3 with e3
  subst e3
  have hne : ad.block ≠ s := by
    intro e
    have h1 : w1.cell? ⟨ad.block, ad.off + 16 + 0, none⟩ = some (.int .u8 (x.getD 0 0)) := hc3 0 hx0
    rw [e, cell_of_row w1 s _ _ 99 (0, 0) HS1.out, Array.getElem?_eq_none (by show 7 ≤ ad.off + 16 + 0; omega)] at h1
    cases h1
  have HST : Aside0 (∀ W : World, (∀ i, i ≠ s → W.heap[i]? = w1.heap[i]?) → Sem.run Try.prog (convert 27 9 (.slice (some ⟨ad.block, ad.off + 16, none⟩) (m - 16) (c - 16))) W = .ok (.string (strOfNums x)) W) := ⟨fun W hW => by
    rw [hmx]
    refine Kd.C_string (P := Try.prog) Try.underlying27 Try.underlying5 Try.underlying9 (Kd.C_of_reads (enc := Value.int .u8) (d := (0 : Int)) ⟨hR3.1, hR3.2.1, fun hn => ⟨_, rfl, fun j hj => ?_⟩⟩)
    have h1 : w1.cell? ⟨ad.block, ad.off + 16 + j, none⟩ = some (.int .u8 (x.getD j 0)) := by rw [← add_flat]; exact hc3 j hj
    rw [add_flat]
    unfold World.cell? at h1 ⊢
    rw [hW _ hne]
    exact h1⟩
  have HE : Aside0 (∀ W, Drawn0 w1 W → ∀ i, i ≠ s → W.heap[i]? = w1.heap[i]?) := ⟨fun W ⟨m, hm⟩ i hi => by subst hm; rfl⟩
  rw [← hm]
  clear hC hC1 hC2 hC3 hb hR3 hc3 k0 k1 k2 k3 k4 k5 k6 hp1 hp2 hp3 hi5 hsz5 hcl hF hp hpl hm hcm hmx hx0
  go_wp2_with fail
  have H1 : Aside0 (∀ W, Drawn0 w1 W → Calls Try.prog 64 #[.slice (some ad) 8 c] W fun e w' => e = .returned (.int .i64 t) ∧ Drawn0 w1 w') := ⟨fun W ⟨m, hm⟩ => by
    subst hm
    refine (V.frames_Read.calls 20 (some ad) c (be t 8) t _ (Kd.C_drewN HC1.out m) HCL.out.1 (read8_is t ht0 ht1)).mono ?_
    rintro e w2 ⟨rfl, ⟨n2, rfl⟩⟩
    exact ⟨rfl, _, World.drewN_drewN _ _ _⟩⟩
  have H2 : Aside0 (∀ W, Drawn0 w1 W → Calls Try.prog 64 #[.slice (some ⟨ad.block, ad.off + 8, none⟩) 8 (c - 8)] W fun e w' => e = .returned (.int .i64 v) ∧ Drawn0 w1 w') := ⟨fun W ⟨m, hm⟩ => by
    subst hm
    refine (V.frames_Read.calls 20 (some ⟨ad.block, ad.off + 8, none⟩) (c - 8) (be v 8) v _ (Kd.C_drewN HC2.out m) HCL.out.2 (read8_is v hv0 hv1)).mono ?_
    rintro e w2 ⟨rfl, ⟨n2, rfl⟩⟩
    exact ⟨rfl, _, World.drewN_drewN _ _ _⟩⟩
  have HFZ : Aside0 (∀ W, Drawn0 w1 W → StoreAt W s g k) := ⟨fun W ⟨m, hm⟩ => by subst hm; exact HS1.out⟩
  go_region_held3 (fun w' => Sem.run Try.prog (convert 27 9 (.slice (some ⟨ad.block, ad.off + 16, none⟩) (m - 16) (c - 16))) w' = .ok (.string (strOfNums x)) w')
    (first
    | exact HST.out _ (fun i hi => (Below.heap_setCell _ _ _ i hi).trans ((Below.heap_setCell _ _ _ i hi).trans ((Below.heap_setCell _ _ _ i hi).trans (HE.out _ HD4.out i hi))))
    | exact HST.out _ (fun i hi => (Below.heap_setCell _ _ _ i hi).trans ((Below.heap_setCell _ _ _ i hi).trans (HE.out _ HD4.out i hi)))
    | exact HST.out _ (fun i hi => (Below.heap_setCell _ _ _ i hi).trans (HE.out _ HD4.out i hi))
    | exact HST.out _ (HE.out _ HD4.out)
    | exact HST.out _ (HE.out _ HD3.out)
    | exact HST.out _ (HE.out _ ⟨1, rfl⟩)
    | exact HST.out _ (HE.out _ ⟨_, rfl⟩))
    (first
    | (go_at_call 64; have hx := HD3.out; refine (H2.out _ (by first | exact hx | exact hx.step _)).mono ?_; rintro e w4 ⟨rfl, hd⟩; have HD4 := Aside0.mk hd; have HS4 := Aside0.mk (HFZ.out _ hd); have hf40 := blk_frozen HS4.out 2; have hf41 := blk_frozen HS4.out 3; have hf42 := blk_frozen HS4.out 4; have kc40 := HS4.out.cells.2.2.1; have kc41 := HS4.out.cells.2.2.2.1; have kc42 := HS4.out.cells.2.2.2.2.1; clear hd hx)
    | (go_at_call 64; refine (H1.out _ (by first | exact ⟨1, rfl⟩ | exact ⟨0, rfl⟩ | exact ⟨_, rfl⟩)).mono ?_; rintro e w3 ⟨rfl, hd⟩; have HD3 := Aside0.mk hd; clear hd))
  go_wp2_with fail
  go_ret
  have hb1 : Below w.heap.size w w4 := below_step HB.out HD4.out.below
  exact ⟨rfl, blk_set (blk_set (blk_set HS4.out 2 _) 3 _) 4 _, (((grown_of_below hb1 (some s)).trans (grown_set w4 ⟨s, 2, none⟩ _)).trans (grown_set _ ⟨s, 3, none⟩ _)).trans (grown_set _ ⟨s, 4, none⟩ _)⟩
end
end Go.Proofs.Ytoonepmnlgfikaa.D
/-! VSet -/
namespace Go.Proofs.Ytoonepmnlgfikaa.D
open Go.RowKit Go.Proofs.YtoonepmnlgfikaaW.PrintWords Go.Proofs.YtoonepmnlgfikaaW.PrintLast Go.Proofs.YtoonepmnlgfikaaW.PrintMore Go.Proofs.Ytoonepmnlgfikaa.Base Go.Maps Go.Sort Go.Shelf
set_option linter.unusedVariables false
set_option linter.unusedSimpArgs false
def dup (x : List Int) : List Int × List Int := (layB x, layB x)
/-- The files of a store. -/
def snapF (vt : Option (Int × Int)) (sn : Option (Int × Int × ByteArray)) : Model := fun k => if k = nVote.data.toList then vt.map (fun x => dup (be x.1 8 ++ be x.2 8)) else if k = nData.data.toList then sn.map (fun x => dup (be x.1 8 ++ be x.2.1 8 ++ bytesOf x.2.2)) else none
theorem snapF_vote (vt : Option (Int × Int)) (sn : Option (Int × Int × ByteArray)) : snapF vt sn nVote.data.toList = vt.map (fun x => dup (be x.1 8 ++ be x.2 8)) := if_pos rfl
theorem snapF_data (vt : Option (Int × Int)) (sn : Option (Int × Int × ByteArray)) : snapF vt sn nData.data.toList = sn.map (fun x => dup (be x.1 8 ++ be x.2.1 8 ++ bytesOf x.2.2)) := by
  unfold snapF
  rw [if_neg (by decide), if_pos rfl]
theorem snapF_fresh (vt : Option (Int × Int)) (sn : Option (Int × Int × ByteArray)) : snapF vt sn nFresh.data.toList = none := by
  unfold snapF
  rw [if_neg (by decide), if_neg (by decide)]
theorem snapF_put_vote (vt : Option (Int × Int)) (sn : Option (Int × Int × ByteArray)) (t v : Int) : (snapF vt sn).put nVote.data.toList (some (layB (be t 8 ++ be v 8), layB (be t 8 ++ be v 8))) = snapF (some (t, v)) sn := by
  funext k
  unfold Model.put snapF
  by_cases h : k = nVote.data.toList
  · rw [if_pos h, if_pos h]; rfl
  · rw [if_neg h, if_neg h, if_neg h]
theorem snapF_put_data (vt : Option (Int × Int)) (sn : Option (Int × Int × ByteArray)) (i o : Int) (x : ByteArray) : (snapF vt sn).put nData.data.toList (some (layB (be i 8 ++ be o 8 ++ bytesOf x), layB (be i 8 ++ be o 8 ++ bytesOf x))) = snapF vt (some (i, o, x)) := by
  funext k
  unfold Model.put snapF
  by_cases h : k = nData.data.toList
  · rw [if_pos h, h, if_neg (by decide), if_pos rfl]; rfl
  · rw [if_neg h]
    by_cases h2 : k = nVote.data.toList
    · rw [if_pos h2, if_pos h2]
    · rw [if_neg h2, if_neg h2, if_neg h, if_neg h]
theorem two_of {l : List (List UInt8)} {a b : List UInt8} (hn : l.Nodup) (h : ∀ x ∈ l, x = a ∨ x = b) : l.length ≤ 2 := by
  match l, hn, h with
  | [], _, _ => simp
  | [x], _, _ => simp
  | [x, y], _, _ => simp
  | x :: y :: z :: t, hn, h =>
    exfalso
    simp only [List.nodup_cons, List.mem_cons, not_or] at hn
    have hx := h x (by simp)
    have hy := h y (by simp)
    have hz := h z (by simp)
    rcases hx with rfl | rfl <;> rcases hy with rfl | rfl <;> rcases hz with rfl | rfl <;> simp_all
section
variable {w : World} {B g b cnt : Nat} {n : Int} {D : DataW Unit} {F : Model}
theorem Dsk.small {vt : Option (Int × Int)} {sn : Option (Int × Int × ByteArray)} (h : Dsk w B g b cnt n D (snapF vt sn)) : Maps.size D < 16 := by
  have h1 := two_of (a := nVote.data.toList) (b := nData.data.toList) (Files.keys h.files).1 (fun x hx => by
    have h2 := (h.mem x).1 hx
    unfold snapF at h2
    by_cases h3 : x = nVote.data.toList
    · exact .inl h3
    · rw [if_neg h3] at h2
      by_cases h4 : x = nData.data.toList
      · exact .inr h4
      · rw [if_neg h4] at h2; exact absurd rfl h2)
  rw [h.keys_len] at h1
  omega
/-- A block that is no disk's was turned. -/
theorem Dsk.store (h : Dsk w B g b cnt n D F) {s : Nat} {c : Array Value} {z : Nat × Nat} (hs : w.heap[s]? = some (.cells c 99 z)) {W : World} (hk : ∀ i, i ≠ s → W.heap[i]? = w.heap[i]?) : Dsk W B g b cnt n D F := by
  have hne : ∀ {i : Nat} {o : Obj}, w.heap[i]? = some o → (∀ c z, o ≠ .cells c 99 z) → i ≠ s := fun {i o} hi ho => by
    rintro rfl
    rw [hs] at hi
    injection hi with hi
    exact ho _ _ hi.symm
  have hrow : ∀ {v : Value} {l : List Int}, Kd.R (Kd.int .u8) 5 w B (fun _ => True) v l → Kd.R (Kd.int .u8) 5 W B (fun _ => True) v l := fun {v l} hr =>
    Kd.R_mono (Kd.R_step (Kd.R_bound hr) (fun k hk2 hl => hk k (by
      obtain ⟨q, hq, c, hc⟩ := hk2.2.2.2
      obtain rfl : q = 5 := by
        rcases List.mem_cons.1 hq with h | h
        · exact h
        · cases h
      exact hne hc (fun c z e => by injection e with _ e _; exact absurd e (by decide))))) (fun _ _ => trivial)
  obtain ⟨es, clock, hb, _⟩ := h.files
  exact { h with
    pow := (hk g (hne h.pow (fun c z e => by injection e with _ e _; exact absurd e (by decide)))).trans h.pow
    files := Files.of_block h.files (hk b (hne hb (fun c z e => by cases e)))
    some_ := fun nm s1 l1 e => by
      obtain ⟨f, h1, ⟨⟨v0, v1, h3, h4, h5⟩, h6, h7, h8⟩⟩ := h.some_ nm s1 l1 e
      exact ⟨f, h1, ⟨⟨v0, v1, (hk f (hne h3 (fun c z e => by injection e with _ e _; exact absurd e (by decide)))).trans h3, hrow h4, hrow h5⟩, h6, h7, h8⟩⟩ }
theorem StoreAt.kept {s : Nat} {k : Kept} {W : World} (hs : StoreAt w s g k) (hc : Calm B w W) : StoreAt W s g k := (hc.kept s (blk_lt hs) (.inr ⟨_, _, _, hs, by decide, by decide⟩)).trans hs
end
/-- What a call of a store leaves. -/
structure SnapStep (w : World) (B g b s : Nat) (cmax : Nat) (nmax : Int) (F : Model) (k : Kept) (w' : World) : Prop where
  disk : ∃ n cnt D, Dsk w' B g b cnt n D F ∧ 0 ≤ n ∧ n ≤ nmax ∧ cnt ≤ cmax
  store : StoreAt w' s g k
  below : Below B w w'
theorem below_set {B : Nat} {w W : World} (h : Below B w W) {s : Nat} (hs : B ≤ s) (j : Nat) (v : Value) : Below B w (W.setCell ⟨s, j, none⟩ v) := h.setCell (by show B ≤ s; exact hs) _
set_option maxHeartbeats 3200000 in
set_option maxRecDepth 100000 in
theorem put_calls {w : World} {B g b cnt s : Nat} {n : Int} {D : DataW Unit} {F : Model} {k : Kept} (h : Dsk w B g b cnt n D F) (h0 : 0 ≤ n) (h1 : n ≤ 900000) (hcnt : cnt < 900) (hs : StoreAt w s g k) (hBs : B ≤ s) (name : ByteArray) (hnm : name.size ≤ maxLen) (hn : nameB name = true) (hne : name.data.toList ≠ nFresh.data.toList) (hF : F nFresh.data.toList = none) (hlt : Maps.size D < 16) (x y : Int) (data : ByteArray) (hd : data.size ≤ 200) :
    Calls Try.prog 55 #[.pointer (some ⟨s, 0, none⟩), .string name, .bool true, .int .i64 x, .int .i64 y, .string data] w fun e w' => e = .returned (.int .i64 0) ∧ SnapStep w B g b s (cnt + 2) (n + 3) (F.put name.data.toList (some (layB (be x 8 ++ be y 8 ++ bytesOf data), layB (be x 8 ++ be y 8 ++ bytesOf data)))) k w' := by
  obtain ⟨k0, k1, k2, k3, k4, k5, k6⟩ := hs.cells
  have HS := Aside0.mk hs
  have H := Aside0.mk h
  have hu99 := Try.underlying99
  have hu97 := Try.underlying97
  obtain ⟨p1, hp1⟩ : ∃ p1, p1 = be x 8 := ⟨_, rfl⟩
  obtain ⟨p2, hp2⟩ : ∃ p2, p2 = p1 ++ be y 8 := ⟨_, rfl⟩
  obtain ⟨p, hp⟩ : ∃ p, p = p2 ++ bytesOf data := ⟨_, rfl⟩
  have HL1 : Aside0 (p1.length = 8) := ⟨by rw [hp1, be_len]⟩
  have HL2 : Aside0 (p2.length = 16) := ⟨by rw [hp2, List.length_append, HL1.out, be_len]⟩
  have HL : Aside0 (p.length ≤ 280) := ⟨by rw [hp, List.length_append, HL2.out, bytesOf_length]; omega⟩
  have H1 : Aside0 (V.frames_Number.f 20 [] x 8 = some p1) := ⟨by rw [hp1]; exact number_is x 8 [] (by decide) (by decide)⟩
  have H2 : Aside0 (V.frames_Number.f 20 p1 y 8 = some p2) := ⟨by rw [hp2]; exact number_is y 8 p1 (by decide) (by rw [HL1.out]; decide)⟩
  have HE : Aside0 (be x 8 ++ be y 8 ++ bytesOf data = p) := ⟨by rw [hp, hp2, hp1]⟩
  have HP := Aside0.mk hp
  have HD := Aside0.mk hd
  rw [HE.out]
  clear hs h hp1 hp2 hp hd
  go_enter Try.func55, Try.ntmps55
  go_wp2_with (first
    | (go_at_call 65; have hR1 := HR1.out; refine (V.frames_Number.calls 20 (fun _ => True) _ p1 y 8 p2 w _ (by exact HBW1.out) hR1 H2.out).mono ?_; rintro e w2 ⟨v2, rfl, hr, hb, hk⟩; obtain ⟨A2, c2, rfl⟩ := Kd.R_slice hr; have HR2 := Aside0.mk (Kd.R_mono (ok' := fun _ => True) hr (fun _ _ => trivial)); have HBW2 := Aside0.mk hb; clear hr hb hk hR1 HR1)
    | (go_at_call 65; refine (V.frames_Number.calls 20 (fun _ => True) (.slice none 0 0) [] x 8 p1 w w (Below.refl _ _) (Kd.R_nil _ _ _ _ _) H1.out).mono ?_; rintro e w1 ⟨v1, rfl, hr, hb, hk⟩; obtain ⟨A1, c1, rfl⟩ := Kd.R_slice hr; have HR1 := Aside0.mk (Kd.R_mono (ok' := fun _ => True) hr (fun _ _ => trivial)); have HBW1 := Aside0.mk hb; clear hr hb hk)
    | ((with_reducible refine gate_builtin (b := .append) (xs := #[.tmp 26, .tmp 27]) rfl ?_); at_builtin; refine print_append_str (w0 := w) w.heap.size rfl (.tmp 26) (.tmp 27) 27 9 5 rfl Try.underlying27 Try.underlying9 info5 _ p2 data rfl rfl (Kd.own_of_R HR2.out) HBW2.out HBW2.out.size (by have := HL2.out; have := HD.out; omega) ?_; intro v3 w3 ho3 hb3 hg3; rw [← HP.out] at ho3; have hr3 := Kd.R_of_own (enc := Value.int .u8) (h1 := fun _ => rfl) (ok := fun _ => True) ho3 (fun _ _ => trivial); have hr3 : Kd.R (Kd.int .u8) 5 w3 w.heap.size (fun _ => True) v3 p := hr3; obtain ⟨A3, c3, rfl⟩ := Kd.R_slice hr3; have HR3 := Aside0.mk hr3; have HBW3 := Aside0.mk hb3; have k53 := ((HBW3.out.block s (blk_lt HS.out))); have k53 : w3.cell? ⟨s, 5, none⟩ = some (.pointer (some ⟨g, 0, none⟩)) := (blk_cell (k53.trans HS.out) 5).trans rfl; clear ho3 hb3 hg3 hr3 HR2 HBW2)
    | (go_at_call 66; refine (replace_calls (H.out.below HBW3.out) h0 h1 hcnt name nFresh hnm (by decide) hn name_fresh hne hF hlt A3 c3 p HL.out (Kd.R_reads' HR3.out).2.2).mono ?_; rintro e w4 ⟨rfl, n4, hn40, hn41, hst4⟩; obtain ⟨⟨cn4, D4, hD4, hcn4⟩, hc4, hb4⟩ := hst4; have HD4 := Aside0.mk hD4; have HCN4 := Aside0.mk hcn4; have HNN4 : Aside0 (0 ≤ n4 ∧ n4 ≤ n + 3) := ⟨⟨hn40, hn41⟩⟩; have hs3 : StoreAt w3 s g k := (HBW3.out.block s (blk_lt HS.out)).trans HS.out; have HS4 := Aside0.mk (StoreAt.kept hs3 hc4); have HB4 : Aside0 (Below B w w4) := ⟨(HBW3.out.mono H.out.base).trans hb4⟩; have f64 := blk_frozen HS4.out 6; have c64 := HS4.out.cells.2.2.2.2.2.2; clear hD4 hcn4 hc4 hb4 hn40 hn41 hs3 k53))
  go_ret
  refine ⟨rfl, ⟨n4, cn4, D4, HD4.out.store HS4.out (fun i hi => Below.heap_setCell _ _ _ i hi), HNN4.out.1, HNN4.out.2, HCN4.out⟩, blk_set HS4.out 6 _, below_set HB4.out hBs 6 _⟩
end Go.Proofs.Ytoonepmnlgfikaa.D
/-! VOps -/
namespace Go.Proofs.Ytoonepmnlgfikaa.D
open Go.RowKit Go.Proofs.YtoonepmnlgfikaaW.PrintWords Go.Proofs.YtoonepmnlgfikaaW.PrintLast Go.Proofs.YtoonepmnlgfikaaW.PrintMore Go.Proofs.Ytoonepmnlgfikaa.Base Go.Maps Go.Sort Go.Shelf
set_option linter.unusedVariables false
set_option linter.unusedSimpArgs false
theorem snumber_is (x : Int) (h0 : 0 ≤ x) (h1 : x < 1099511627776) : V.snap_number.f x = some true := by
  unfold V.snap_number.f
  rw [if_pos h0, decide_eq_true h1]
set_option maxHeartbeats 3200000 in
set_option maxRecDepth 100000 in
theorem setvote_calls {w : World} {B g b cnt s : Nat} {n : Int} {D : DataW Unit} {vt : Option (Int × Int)} {sn : Option (Int × Int × ByteArray)} {k : Kept} (h : Dsk w B g b cnt n D (snapF vt sn)) (h0 : 0 ≤ n) (h1 : n ≤ 900000) (hcnt : cnt < 900) (hs : StoreAt w s g k) (hBs : B ≤ s) (t v : Int) (ht0 : 0 ≤ t) (ht1 : t < 1099511627776) (hv0 : 0 ≤ v) (hv1 : v ≤ 7) :
    Calls Try.prog 35 #[.pointer (some ⟨s, 0, none⟩), .int .i64 t, .int .i64 v] w fun e w' => e = .returned (.int .i64 0) ∧ SnapStep w B g b s (cnt + 2) (n + 3) (snapF (some (t, v)) sn) { k with term := t, vote := v } w' := by
  have hu99 := Try.underlying99
  have hu97 := Try.underlying97
  have hd1 : decide (0 ≤ v) = true := decide_eq_true hv0
  have hd2 : decide (v ≤ 7) = true := decide_eq_true hv1
  go_enter Try.func35, Try.ntmps35
  go_wp2_with fail
  refine (V.snap_number.calls t true w (snumber_is t ht0 ht1)).mono ?_
  rintro e w1 ⟨rfl, ⟨n1, rfl⟩⟩
  go_wp2_with fail
  refine (put_calls (h.drewN n1) h0 h1 hcnt hs hBs nVote (by decide) name_vote (by decide) (snapF_fresh _ _) h.small t v ⟨#[]⟩ (by decide)).mono ?_
  rintro e w2 ⟨rfl, hst⟩
  have hst2 : SnapStep w B g b s (cnt + 2) (n + 3) (snapF (some (t, v)) sn) k w2 := by
    have e1 : be t 8 ++ be v 8 ++ bytesOf ⟨#[]⟩ = be t 8 ++ be v 8 := List.append_nil _
    have hd := hst.disk
    rw [e1, snapF_put_vote] at hd
    exact ⟨hd, hst.store, (pw_below_drewN (Below.refl _ _) n1).trans hst.below⟩
  have HST := Aside0.mk hst2
  have HS2 := Aside0.mk hst2.store
  have f0 := blk_frozen hst2.store 0
  have f1 := blk_frozen hst2.store 1
  have c0 := hst2.store.cells.1
  have c1 := hst2.store.cells.2.1
  clear hst hst2
  go_wp2_with fail
  go_ret
  obtain ⟨⟨n2, cn2, D2, hD2, ha, hb, hc⟩, hs2, hb2⟩ := HST.out
  have hs3 : StoreAt (w2.setCell ⟨s, 0, none⟩ (.int .i64 t)) s g { k with term := t } := blk_set hs2 0 _
  exact ⟨rfl, ⟨n2, cn2, D2, (hD2.store hs2 (fun i hi => Below.heap_setCell _ _ _ i hi)).store hs3 (fun i hi => Below.heap_setCell _ _ _ i hi), ha, hb, hc⟩, blk_set hs3 1 _, below_set (below_set hb2 hBs 0 _) hBs 1 _⟩
set_option maxHeartbeats 3200000 in
set_option maxRecDepth 100000 in
theorem setsnap_calls {w : World} {B g b cnt s : Nat} {n : Int} {D : DataW Unit} {vt : Option (Int × Int)} {sn : Option (Int × Int × ByteArray)} {k : Kept} (h : Dsk w B g b cnt n D (snapF vt sn)) (h0 : 0 ≤ n) (h1 : n ≤ 900000) (hcnt : cnt < 900) (hs : StoreAt w s g k) (hBs : B ≤ s) (t v : Int) (ht0 : 0 ≤ t) (ht1 : t < 1099511627776) (hv0 : 0 ≤ v) (hv1 : v < 1099511627776) (x : ByteArray) (hx : x.size ≤ 200) :
    Calls Try.prog 36 #[.pointer (some ⟨s, 0, none⟩), .int .i64 t, .int .i64 v, .string x] w fun e w' => e = .returned (.int .i64 0) ∧ SnapStep w B g b s (cnt + 2) (n + 3) (snapF vt (some (t, v, x))) { k with index := t, last := v, data := x } w' := by
  have hu99 := Try.underlying99
  have hu97 := Try.underlying97
  have hd1 : decide ((x.size : Int) ≤ 524288) = true := decide_eq_true (by omega)
  have hd2 : decide (x.size ≤ 524288) = true := decide_eq_true (by omega)
  have HX := Aside0.mk hx
  clear hx
  go_enter Try.func36, Try.ntmps36
  go_wp2_with fail
  refine (V.snap_number.calls t true w (snumber_is t ht0 ht1)).mono ?_
  rintro e w1 ⟨rfl, ⟨n1, rfl⟩⟩
  go_wp2_with fail
  refine (V.snap_number.calls v true _ (snumber_is v hv0 hv1)).mono ?_
  rintro e w1 ⟨rfl, ⟨n2, rfl⟩⟩
  go_wp2_with fail
  refine (put_calls (h.drewN (n1 + n2)) h0 h1 hcnt hs hBs nData (by decide) name_data (by decide) (snapF_fresh _ _) h.small t v x HX.out).mono ?_
  rintro e w2 ⟨rfl, hst⟩
  have hst2 : SnapStep w B g b s (cnt + 2) (n + 3) (snapF vt (some (t, v, x))) k w2 := by
    have hd := hst.disk
    rw [snapF_put_data] at hd
    exact ⟨hd, hst.store, (pw_below_drewN (Below.refl _ _) (n1 + n2)).trans hst.below⟩
  have HST := Aside0.mk hst2
  have f0 := blk_frozen hst2.store 2
  have f1 := blk_frozen hst2.store 3
  have f2 := blk_frozen hst2.store 4
  have c0 := hst2.store.cells.2.2.1
  have c1 := hst2.store.cells.2.2.2.1
  have c2 := hst2.store.cells.2.2.2.2.1
  clear hst hst2
  go_wp2_with fail
  go_ret
  obtain ⟨⟨n2, cn2, D2, hD2, ha, hb, hc⟩, hs2, hb2⟩ := HST.out
  have hs3 : StoreAt (w2.setCell ⟨s, 2, none⟩ (.int .i64 t)) s g { k with index := t } := blk_set hs2 2 _
  have hs4 : StoreAt ((w2.setCell ⟨s, 2, none⟩ (.int .i64 t)).setCell ⟨s, 3, none⟩ (.int .i64 v)) s g { k with index := t, last := v } := blk_set hs3 3 _
  exact ⟨rfl, ⟨n2, cn2, D2, ((hD2.store hs2 (fun i hi => Below.heap_setCell _ _ _ i hi)).store hs3 (fun i hi => Below.heap_setCell _ _ _ i hi)).store hs4 (fun i hi => Below.heap_setCell _ _ _ i hi), ha, hb, hc⟩, blk_set hs4 4 _, below_set (below_set (below_set hb2 hBs 2 _) hBs 3 _) hBs 4 _⟩
set_option maxHeartbeats 1600000 in
set_option maxRecDepth 100000 in
theorem vote_calls (s g : Nat) (k : Kept) (w : World) (hs : StoreAt w s g k) : Calls Try.prog 52 #[.pointer (some ⟨s, 0, none⟩)] w fun e w' => e = .returned (.tuple #[.int .i64 k.term, .int .i64 k.vote]) ∧ Drawn0 w w' := by
  obtain ⟨k0, k1, k2, k3, k4, k5, k6⟩ := hs.cells
  have hu97 := Try.underlying97
  clear hs
  go_enter Try.func52, Try.ntmps52
  go_upto_region 1 with (fail)
  go_quiet (fail)
  go_wp2_with fail
  go_ret2
  exact ⟨rfl, _, rfl⟩
set_option maxHeartbeats 1600000 in
set_option maxRecDepth 100000 in
theorem snap_calls (s g : Nat) (k : Kept) (w : World) (hs : StoreAt w s g k) : Calls Try.prog 53 #[.pointer (some ⟨s, 0, none⟩)] w fun e w' => e = .returned (.tuple #[.int .i64 k.index, .int .i64 k.last, .string k.data]) ∧ Drawn0 w w' := by
  obtain ⟨k0, k1, k2, k3, k4, k5, k6⟩ := hs.cells
  have hu97 := Try.underlying97
  clear hs
  go_enter Try.func53, Try.ntmps53
  go_upto_region 1 with (fail)
  go_quiet (fail)
  go_wp2_with fail
  refine bodyPost_ret (results_tmp3 rfl _ _ _) rfl ?_
  exact ⟨rfl, _, rfl⟩
set_option maxHeartbeats 1600000 in
set_option maxRecDepth 100000 in
theorem open1_calls {w : World} {B g b cnt : Nat} {n : Int} {D : DataW Unit} {F : Model} (h : Dsk w B g b cnt n D F) (hF : F nFresh.data.toList = none) (q : Nat) (hq : w.cell? ⟨q, 0, none⟩ = some (.pointer (some ⟨g, 0, none⟩))) :
    Calls Try.prog 48 #[.pointer (some ⟨q, 0, none⟩)] w fun e w' => e = .returned (.int .i64 0) ∧ Drawn0 w w' := by
  go_enter Try.func48, Try.ntmps48
  go_wp2_with fail
  refine (sweep_none h nFresh (by decide) name_fresh hF).mono ?_
  rintro e w' ⟨rfl, ⟨n1, rfl⟩⟩
  go_wp2_with fail
  go_ret
  exact ⟨rfl, n1, rfl⟩
end Go.Proofs.Ytoonepmnlgfikaa.D
/-! VOpen -/
namespace Go.Proofs.Ytoonepmnlgfikaa.D
open Go.RowKit Go.Proofs.YtoonepmnlgfikaaW.PrintWords Go.Proofs.YtoonepmnlgfikaaW.PrintLast Go.Proofs.YtoonepmnlgfikaaW.PrintMore Go.Proofs.Ytoonepmnlgfikaa.Base Go.Maps Go.Sort Go.Shelf
set_option linter.unusedVariables false
set_option linter.unusedSimpArgs false
theorem Dsk.grown {w : World} {B g b cnt : Nat} {n : Int} {D : DataW Unit} {F : Model} (h : Dsk w B g b cnt n D F) {s : Nat} {c : Array Value} {z : Nat × Nat} (hs : w.heap[s]? = some (.cells c 99 z)) {W : World} (hg : w.grownBy W (some s)) : Dsk W B g b cnt n D F := by
  have hk : ∀ i, i < w.heap.size → i ≠ s → W.heap[i]? = w.heap[i]? := fun i hi hne => hg.block i hi (by simpa using hne)
  have hne : ∀ {i : Nat} {o : Obj}, w.heap[i]? = some o → (∀ c z, o ≠ .cells c 99 z) → i ≠ s := fun {i o} hi ho => by
    rintro rfl
    rw [hs] at hi
    injection hi with hi
    exact ho _ _ hi.symm
  have hrow : ∀ {v : Value} {l : List Int}, Kd.R (Kd.int .u8) 5 w B (fun _ => True) v l → Kd.R (Kd.int .u8) 5 W B (fun _ => True) v l := fun {v l} hr =>
    Kd.R_mono (Kd.R_step (Kd.R_bound hr) (fun k hk2 hl => hk k hl (by
      obtain ⟨q, hq, c, hc⟩ := hk2.2.2.2
      obtain rfl : q = 5 := by
        rcases List.mem_cons.1 hq with h | h
        · exact h
        · cases h
      exact hne hc (fun c z e => by injection e with _ e _; exact absurd e (by decide))))) (fun _ _ => trivial)
  obtain ⟨es, clock, hb, _⟩ := h.files
  exact { h with
    pow := (hk g (blk_lt h.pow) (hne h.pow (fun c z e => by injection e with _ e _; exact absurd e (by decide)))).trans h.pow
    files := Files.of_block h.files (hk b (World.ownsMap.lt h.files) (hne hb (fun c z e => by cases e)))
    some_ := fun nm s1 l1 e => by
      obtain ⟨f, h1, ⟨⟨v0, v1, h3, h4, h5⟩, h6, h7, h8⟩⟩ := h.some_ nm s1 l1 e
      exact ⟨f, h1, ⟨⟨v0, v1, (hk f (blk_lt h3) (hne h3 (fun c z e => by injection e with _ e _; exact absurd e (by decide)))).trans h3, hrow h4, hrow h5⟩, h6, h7, h8⟩⟩ }
/-- What Open reads of the files. -/
def keptOf (vt : Option (Int × Int)) (sn : Option (Int × Int × ByteArray)) : Kept :=
  ⟨(vt.map (·.1)).getD 0, (vt.map (·.2)).getD 0, (sn.map (·.1)).getD 0, (sn.map (·.2.1)).getD 0, (sn.map (·.2.2)).getD ⟨#[]⟩⟩
structure VtOk (vt : Option (Int × Int)) : Prop where
  ok : ∀ x, vt = some x → 0 ≤ x.1 ∧ x.1 < 1099511627776 ∧ 0 ≤ x.2 ∧ x.2 < 1099511627776
structure SnOk (sn : Option (Int × Int × ByteArray)) : Prop where
  ok : ∀ x, sn = some x → 0 ≤ x.1 ∧ x.1 < 1099511627776 ∧ 0 ≤ x.2.1 ∧ x.2.1 < 1099511627776 ∧ x.2.2.size ≤ 200 ∧ 0 < x.2.2.size
theorem str_bytes (x : ByteArray) : strOfNums (bytesOf x) = x := by
  obtain ⟨⟨l⟩⟩ := x
  simp only [strOfNums, bytesOf, List.map_map]
  have : ((fun n : Int => UInt8.ofNat n.toNat) ∘ fun b : UInt8 => ((b.toNat : Nat) : Int)) = id := by funext b; simp
  rw [this, List.map_id]
/-- The store's state ahead of round i. -/
def keptAt (vt : Option (Int × Int)) (sn : Option (Int × Int × ByteArray)) (i : Nat) : Kept := keptOf (if i < 2 then none else vt) (if i < 3 then none else sn)
structure OpenAt (w W : World) (B g b cnt : Nat) (n : Int) (D : DataW Unit) (vt : Option (Int × Int)) (sn : Option (Int × Int × ByteArray)) (s q fb : Nat) (i : Nat) : Prop where
  disk : Dsk W B g b cnt n D (snapF vt sn)
  store : StoreAt W s g (keptAt vt sn i)
  box : W.heap[q]? = some (.cells #[.pointer (some ⟨g, 0, none⟩)] 31 (0, 0))
  funs : W.heap[fb]? = some (.cells #[.func (.func 48) #[] #[.pointer (some ⟨q, 0, none⟩)], .func (.func 50) #[.pointer (some ⟨s, 0, none⟩)] #[], .func (.func 51) #[.pointer (some ⟨s, 0, none⟩)] #[]] 101 (0, 0))
  below : Below w.heap.size w W
theorem OpenAt.drawn {w W W' : World} {B g b cnt : Nat} {n : Int} {D : DataW Unit} {vt : Option (Int × Int)} {sn : Option (Int × Int × ByteArray)} {s q fb i : Nat} (h : OpenAt w W B g b cnt n D vt sn s q fb i) (hd : Drawn0 W W') (j : Nat) (hj : keptAt vt sn j = keptAt vt sn i) : OpenAt w W' B g b cnt n D vt sn s q fb j := by
  obtain ⟨m, rfl⟩ := hd
  exact ⟨h.disk.drewN m, by rw [hj]; exact h.store, h.box, h.funs, pw_below_drewN h.below m⟩
theorem OpenAt.grown {w W W' : World} {B g b cnt : Nat} {n : Int} {D : DataW Unit} {vt : Option (Int × Int)} {sn : Option (Int × Int × ByteArray)} {s q fb i : Nat} (h : OpenAt w W B g b cnt n D vt sn s q fb i) (hsw : w.heap.size ≤ s) (j : Nat) (hs : StoreAt W' s g (keptAt vt sn j)) (hg : W.grownBy W' (some s)) : OpenAt w W' B g b cnt n D vt sn s q fb j := by
  have hq : q ≠ s := blk_ne h.box h.store (by decide)
  have hf : fb ≠ s := blk_ne h.funs h.store (by decide)
  exact ⟨h.disk.grown h.store hg, hs, (hg.block q (blk_lt h.box) (by simpa using hq)).trans h.box, (hg.block fb (blk_lt h.funs) (by simpa using hf)).trans h.funs, pw_below_grown h.below _ h.below.size hg (fun k hk => by cases hk; exact hsw)⟩
set_option maxHeartbeats 3200000 in
set_option maxRecDepth 100000 in
theorem open_calls {w : World} {B g b cnt : Nat} {n : Int} {D : DataW Unit} {vt : Option (Int × Int)} {sn : Option (Int × Int × ByteArray)} (h : Dsk w B g b cnt n D (snapF vt sn)) (hv : VtOk vt) (hsn : SnOk sn) :
    Calls Try.prog 28 #[.pointer (some ⟨g, 0, none⟩)] w fun e w' => ∃ s, e = .returned (.tuple #[.pointer (some ⟨s, 0, none⟩), .int .i64 0]) ∧ w.heap.size ≤ s ∧ Dsk w' B g b cnt n D (snapF vt sn) ∧ StoreAt w' s g (keptOf vt sn) ∧ Below w.heap.size w w' := by
  have H := Aside0.mk h
  have HV := Aside0.mk hv
  have HSN := Aside0.mk hsn
  have hu99 := Try.underlying99
  have hu97 := Try.underlying97
  clear h hv hsn
  go_enter Try.func28, Try.ntmps28
  go_wp2_with fail
  have hb1 : Below w.heap.size w (w.alloc (.cells #[.pointer (some ⟨g, 0, none⟩)] 31)) := below_alloc (Below.refl _ _) _
  have hn1 := heap_alloc_new w (.cells #[.pointer (some ⟨g, 0, none⟩)] 31)
  have hz1 : (w.alloc (.cells #[.pointer (some ⟨g, 0, none⟩)] 31)).heap.size = w.heap.size + 1 := by simp
  generalize w.alloc (.cells #[.pointer (some ⟨g, 0, none⟩)] 31) = x1 at *
  have hb2 : Below w.heap.size w (x1.alloc (.cells #[.int .i64 0, .int .i64 0, .int .i64 0, .int .i64 0, .string ⟨#[]⟩, .pointer (some ⟨g, 0, none⟩), .bool false] 99)) := below_alloc hb1 _
  have hn2 := heap_alloc_new x1 (.cells #[.int .i64 0, .int .i64 0, .int .i64 0, .int .i64 0, .string ⟨#[]⟩, .pointer (some ⟨g, 0, none⟩), .bool false] 99)
  have hn12 : (x1.alloc (.cells #[.int .i64 0, .int .i64 0, .int .i64 0, .int .i64 0, .string ⟨#[]⟩, .pointer (some ⟨g, 0, none⟩), .bool false] 99)).heap[w.heap.size]? = some (.cells #[.pointer (some ⟨g, 0, none⟩)] 31 (0, 0)) := (Below.heap_alloc _ _ _ (by omega)).trans hn1
  have hz2 : (x1.alloc (.cells #[.int .i64 0, .int .i64 0, .int .i64 0, .int .i64 0, .string ⟨#[]⟩, .pointer (some ⟨g, 0, none⟩), .bool false] 99)).heap.size = w.heap.size + 1 + 1 := by simp; omega
  generalize x1.alloc (.cells #[.int .i64 0, .int .i64 0, .int .i64 0, .int .i64 0, .string ⟨#[]⟩, .pointer (some ⟨g, 0, none⟩), .bool false] 99) = x2 at *
  rw [hz1] at hn2
  obtain ⟨s, hs⟩ : ∃ s, s = w.heap.size + 1 := ⟨_, rfl⟩
  obtain ⟨q, hq⟩ : ∃ q, q = w.heap.size := ⟨_, rfl⟩
  obtain ⟨fb, hfb⟩ : ∃ fb, fb = w.heap.size + 1 + 1 := ⟨_, rfl⟩
  rw [← hfb] at hz2
  rw [← hs] at hn2
  rw [← hq] at hn12
  rw [← hfb, ← hs, ← hq]
  have hn3 := heap_alloc_new x2 (.cells #[.func (.func 48) #[] #[.pointer (some ⟨q, 0, none⟩)], .func (.func 50) #[.pointer (some ⟨s, 0, none⟩)] #[], .func (.func 51) #[.pointer (some ⟨s, 0, none⟩)] #[]] 101)
  rw [hz2] at hn3
  have HO : Aside0 (OpenAt w (x2.alloc (.cells #[.func (.func 48) #[] #[.pointer (some ⟨q, 0, none⟩)], .func (.func 50) #[.pointer (some ⟨s, 0, none⟩)] #[], .func (.func 51) #[.pointer (some ⟨s, 0, none⟩)] #[]] 101)) B g b cnt n D vt sn s q fb 0) :=
    ⟨⟨H.out.below (below_alloc hb2 _), (Below.heap_alloc _ _ _ (by omega)).trans hn2, (Below.heap_alloc _ _ _ (by omega)).trans hn12, hn3, below_alloc hb2 _⟩⟩
  have HSW : Aside0 (w.heap.size ≤ s) := ⟨by omega⟩
  clear hb1 hb2 hn1 hn2 hn12 hn3 hz1 hz2 hs hq hfb
  generalize x2.alloc (.cells #[.func (.func 48) #[] #[.pointer (some ⟨q, 0, none⟩)], .func (.func 50) #[.pointer (some ⟨s, 0, none⟩)] #[], .func (.func 51) #[.pointer (some ⟨s, 0, none⟩)] #[]] 101) = x3 at *
  go_loopg [7, 8, 22] 3 (fun kq v7 v8 v22 w' => ∃ i : Nat, Aside0 (i + kq = 3) ∧ v22 = .int .i64 i ∧ Aside0 (OpenAt w w' B g b cnt n D vt sn s q fb i))
  case atStart => exact ⟨0, ⟨rfl⟩, rfl, HO⟩
  case round =>
    obtain ⟨i, HIK, rfl, HOI⟩ := hrel
    clear HO
    have kf0 : wr.cell? ⟨fb, 0, none⟩ = some (.func (.func 48) #[] #[.pointer (some ⟨q, 0, none⟩)]) := (blk_cell HOI.out.funs 0).trans rfl
    have kf1 : wr.cell? ⟨fb, 1, none⟩ = some (.func (.func 50) #[.pointer (some ⟨s, 0, none⟩)] #[]) := (blk_cell HOI.out.funs 1).trans rfl
    have kf2 : wr.cell? ⟨fb, 2, none⟩ = some (.func (.func 51) #[.pointer (some ⟨s, 0, none⟩)] #[]) := (blk_cell HOI.out.funs 2).trans rfl
    have kq : wr.cell? ⟨q, 0, none⟩ = some (.pointer (some ⟨g, 0, none⟩)) := (blk_cell HOI.out.box 0).trans rfl
    rcases (show i = 0 ∨ i = 1 ∨ i = 2 ∨ i = 3 by have := HIK.out; omega) with rfl | rfl | rfl | rfl
    · have HM : Aside0 (gk - 1 < gk ∧ 1 + (gk - 1) = 3) := ⟨by have := HIK.out; omega⟩
      go_wp2_with fail
      refine (open1_calls HOI.out.disk (snapF_fresh _ _) q kq).mono ?_
      rintro e w2 ⟨rfl, hd⟩
      have HD2 := Aside0.mk (HOI.out.drawn hd 1 rfl)
      clear hd
      go_wp2_with fail
      go_roundg (gk - 1)
      case measure => exact HM.out.1
      case rel => exact ⟨1, ⟨HM.out.2⟩, rfl, HD2⟩
    · have HM : Aside0 (gk - 1 < gk ∧ 2 + (gk - 1) = 3) := ⟨by have := HIK.out; omega⟩
      cases vt with
      | none =>
        go_wp2_with fail
        refine (votes_none s _ HOI.out.disk HOI.out.store (snapF_vote _ _)).mono ?_
        rintro e w2 ⟨rfl, hd⟩
        have HD2 := Aside0.mk (HOI.out.drawn hd 2 rfl)
        clear hd
        go_wp2_with fail
        go_roundg (gk - 1)
        case measure => exact HM.out.1
        case rel => exact ⟨2, ⟨HM.out.2⟩, rfl, HD2⟩
      | some x =>
        have hx := HV.out.ok x rfl
        go_wp2_with fail
        refine (votes_hit s _ HOI.out.disk HOI.out.store x.1 x.2 hx.1 hx.2.1 hx.2.2.1 hx.2.2.2 _ (snapF_vote _ _)).mono ?_
        rintro e w2 ⟨rfl, hs2, hg2⟩
        have HD2 := Aside0.mk (HOI.out.grown HSW.out 2 hs2 hg2)
        clear hs2 hg2
        go_wp2_with fail
        go_roundg (gk - 1)
        case measure => exact HM.out.1
        case rel => exact ⟨2, ⟨HM.out.2⟩, rfl, HD2⟩
    · have HM : Aside0 (gk - 1 < gk ∧ 3 + (gk - 1) = 3) := ⟨by have := HIK.out; omega⟩
      cases sn with
      | none =>
        go_wp2_with fail
        refine (snapshot_none s _ HOI.out.disk HOI.out.store (snapF_data _ _)).mono ?_
        rintro e w2 ⟨rfl, hd⟩
        have HD2 := Aside0.mk (HOI.out.drawn hd 3 rfl)
        clear hd
        go_wp2_with fail
        go_roundg (gk - 1)
        case measure => exact HM.out.1
        case rel => exact ⟨3, ⟨HM.out.2⟩, rfl, HD2⟩
      | some x =>
        have hx := HSN.out.ok x rfl
        go_wp2_with fail
        refine (snapshot_hit s _ HOI.out.disk HOI.out.store x.1 x.2.1 hx.1 hx.2.1 hx.2.2.1 hx.2.2.2.1 (bytesOf x.2.2) (by rw [bytesOf_length]; exact hx.2.2.2.2.1) (by rw [bytesOf_length]; exact hx.2.2.2.2.2) _ (snapF_data _ _)).mono ?_
        rintro e w2 ⟨rfl, hs2, hg2⟩
        rw [str_bytes] at hs2
        have HD2 := Aside0.mk (HOI.out.grown HSW.out 3 hs2 hg2)
        clear hs2 hg2
        go_wp2_with fail
        go_roundg (gk - 1)
        case measure => exact HM.out.1
        case rel => exact ⟨3, ⟨HM.out.2⟩, rfl, HD2⟩
    · go_wp2_with fail
      go_ret2
      exact ⟨s, rfl, HSW.out, HOI.out.disk, HOI.out.store, HOI.out.below⟩
end Go.Proofs.Ytoonepmnlgfikaa.D
/-! VAgain -/
namespace Go.Proofs.Ytoonepmnlgfikaa.D
open Go.RowKit Go.Proofs.YtoonepmnlgfikaaW.PrintWords Go.Proofs.YtoonepmnlgfikaaW.PrintLast Go.Proofs.YtoonepmnlgfikaaW.PrintMore Go.Proofs.Ytoonepmnlgfikaa.Base Go.Maps Go.Sort Go.Shelf
set_option linter.unusedVariables false
set_option linter.unusedSimpArgs false
theorem Dsk.lower {w : World} {B B0 g b cnt : Nat} {n : Int} {D : DataW Unit} {F : Model} (h : Dsk w B g b cnt n D F) (hB : B0 ≤ B) : Dsk w B0 g b cnt n D F :=
  { h with
    lowg := Nat.le_trans hB h.lowg
    lowb := Nat.le_trans hB h.lowb
    some_ := fun nm s l e => by
      obtain ⟨f, h1, ⟨⟨v0, v1, h3, h4, h5⟩, h6, h7, h8⟩⟩ := h.some_ nm s l e
      exact ⟨f, h1, ⟨⟨v0, v1, h3, Kd.R_lower h4 hB, Kd.R_lower h5 hB⟩, Nat.le_trans hB h6, h7, h8⟩⟩ }
/-- All its files are synced: the files of a crash are these. -/
theorem Dsk.same_files {w : World} {B g b cnt : Nat} {n : Int} {D : DataW Unit} {F : Model} (h : Dsk w B g b cnt n D F) (hF : ∀ k s l, F k = some (s, l) → s = l) {ss : List (List UInt8)} {L : List S40} (hs : namesOf D ss) (hl : L.length = ss.length) (hc : CrashL (fun nm => (F nm).getD ([], [])) ss L) : fileMap L = F := by
  funext k
  cases hk : F k with
  | some p =>
    obtain ⟨s, l⟩ := p
    obtain rfl := hF k s l hk
    exact h.kept hk hs hl hc
  | none =>
    refine fileMap_none (fun x hx e => ?_)
    obtain ⟨j, hj, rfl⟩ := List.getElem_of_mem hx
    obtain ⟨nm, h1, h2, _⟩ := hc.2 j hj
    rw [h2] at e
    have e' : nm = k := by simpa using e
    have h3 : nm ∈ strKeys D := (names_perm hs).mem_iff.1 (List.mem_of_getElem? h1)
    rw [e'] at h3
    exact (h.mem k).1 h3 hk
theorem snapF_synced (vt : Option (Int × Int)) (sn : Option (Int × Int × ByteArray)) : ∀ k s l, snapF vt sn k = some (s, l) → s = l := fun k s l e => by
  unfold snapF at e
  split at e
  · obtain ⟨x, _, hx⟩ := Option.map_eq_some_iff.1 e
    injection hx with h1 h2
    rw [← h1, ← h2]
  · split at e
    · obtain ⟨x, _, hx⟩ := Option.map_eq_some_iff.1 e
      injection hx with h1 h2
      rw [← h1, ← h2]
    · cases e
theorem snapF_short {vt : Option (Int × Int)} {sn : Option (Int × Int × ByteArray)} (hsn : SnOk sn) : Short (snapF vt sn) 1000 := fun k s l e => by
  unfold snapF at e
  split at e
  · obtain ⟨x, _, hx⟩ := Option.map_eq_some_iff.1 e
    injection hx with h1 h2
    rw [← h1, ← h2, layB_len, List.length_append, be_len, be_len]
    omega
  · split at e
    · obtain ⟨x, hx0, hx⟩ := Option.map_eq_some_iff.1 e
      have := hsn.ok x hx0
      injection hx with h1 h2
      rw [← h1, ← h2, layB_len, List.length_append, List.length_append, be_len, be_len, bytesOf_length]
      omega
    · cases e
set_option maxHeartbeats 3200000 in
set_option maxRecDepth 100000 in
theorem again_calls {w : World} {B g b cnt : Nat} {n : Int} {D : DataW Unit} {vt : Option (Int × Int)} {sn : Option (Int × Int × ByteArray)} (h : Dsk w B g b cnt n D (snapF vt sn)) (hsn : SnOk sn) (P0 : Option Addr) (pc : Nat) (ps : List Int) (hp : Kd.C (Kd.int .i64) w P0 ps.length ps) (hpc : ps.length ≤ pc) :
    Calls Try.prog 33 #[.pointer (some ⟨g, 0, none⟩), .slice P0 ps.length pc] w fun e w' => ∃ g' b' cnt' D', e = .returned (.pointer (some ⟨g', 0, none⟩)) ∧ Dsk w' B g' b' cnt' 0 D' (snapF vt sn) ∧ cnt' ≤ 16 ∧ Below w.heap.size w w' := by
  have H := Aside0.mk h
  have HSN := Aside0.mk hsn
  have HP := Aside0.mk hp
  clear h hsn hp
  go_enter Try.func33, Try.ntmps33
  go_wp2_with fail
  refine (dsk_crash H.out P0 pc ps HP.out hpc).mono ?_
  rintro e w2 ⟨v2, L, ss, rfl, hns, hL, hLl, hcl, hb2⟩
  obtain ⟨A2, c2, rfl, hc2, hC2⟩ := Kd.S_reads hL
  have hok := (H.out.newOk (snapF_short HSN.out) (by decide) hns hLl hcl).1
  have hfm := H.out.same_files (snapF_synced vt sn) hns hLl hcl
  have HB2 := Aside0.mk hb2
  have HOK := Aside0.mk hok
  have HFM := Aside0.mk hfm
  have HC2 := Aside0.mk hC2
  clear hns hL hLl hcl hb2 hok hfm hC2
  go_wp2_with fail
  refine (new_calls A2 c2 L w2 HC2.out hc2 HOK.out).mono ?_
  rintro e w3 ⟨g3, b3, rfl, ⟨⟨D3, hD3, hz3⟩, hb3⟩⟩
  rw [List.take_of_length_le (Nat.le_refl _), HFM.out] at hD3
  have HD3 := Aside0.mk (hD3.lower (Nat.le_trans H.out.base HB2.out.size))
  have HB3 := Aside0.mk (below_step HB2.out hb3)
  clear hD3 hz3 hb3
  go_wp2_with fail
  refine (V.lecternlaw19_num.calls _ _ _ rfl).mono ?_
  rintro e w' ⟨rfl, ⟨n4, rfl⟩⟩
  go_wp2_with fail
  go_ret
  exact ⟨g3, b3, L.length, D3, rfl, HD3.out.drewN n4, HOK.out.few, pw_below_drewN HB3.out n4⟩
set_option maxHeartbeats 3200000 in
set_option maxRecDepth 100000 in
theorem same_calls (s g : Nat) (k : Kept) (w : World) (hs : StoreAt w s g k) :
    Calls Try.prog 30 #[.pointer (some ⟨s, 0, none⟩), .agg #[.int .i64 k.term, .int .i64 k.vote, .int .i64 k.index, .int .i64 k.last, .string k.data]] w fun e w' => e = .returned (.bool true) ∧ Below w.heap.size w w' := by
  obtain ⟨t, v, i, o, x⟩ := k
  have HS := Aside0.mk hs
  have hu99 := Try.underlying99
  have hu97 := Try.underlying97
  have hu70 := Try.underlying70
  have hxx : (x.toList == x.toList) = true := beq_self_eq_true _
  clear hs
  dsimp only
  go_enter Try.func30, Try.ntmps30
  go_wp2_with fail
  have hn := heap_alloc_new w (.cells #[.int .i64 t, .int .i64 v, .int .i64 i, .int .i64 o, .string x] 70)
  have hb : Below w.heap.size w (w.alloc (.cells #[.int .i64 t, .int .i64 v, .int .i64 i, .int .i64 o, .string x] 70)) := below_alloc (Below.refl _ _) _
  obtain ⟨q, hq⟩ : ∃ q, q = w.heap.size := ⟨_, rfl⟩
  rw [← hq] at hn ⊢
  generalize w.alloc (.cells #[.int .i64 t, .int .i64 v, .int .i64 i, .int .i64 o, .string x] 70) = w1 at *
  have HS1 : Aside0 (StoreAt w1 s g ⟨t, v, i, o, x⟩) := ⟨(hb.block s (blk_lt HS.out)).trans HS.out⟩
  have HB := Aside0.mk hb
  have k0 : ∀ n, (w1.drewN n).cell? ⟨q, 0, none⟩ = some (.int .i64 t) := fun n => (blk_cell hn 0).trans rfl
  have k1 : ∀ n, (w1.drewN n).cell? ⟨q, 1, none⟩ = some (.int .i64 v) := fun n => (blk_cell hn 1).trans rfl
  have k2 : ∀ n, (w1.drewN n).cell? ⟨q, 2, none⟩ = some (.int .i64 i) := fun n => (blk_cell hn 2).trans rfl
  have k3 : ∀ n, (w1.drewN n).cell? ⟨q, 3, none⟩ = some (.int .i64 o) := fun n => (blk_cell hn 3).trans rfl
  have k4 : ∀ n, (w1.drewN n).cell? ⟨q, 4, none⟩ = some (.string x) := fun n => (blk_cell hn 4).trans rfl
  clear hn hb hq
  refine (vote_calls s g ⟨t, v, i, o, x⟩ w1 HS1.out).mono ?_
  rintro e w' ⟨rfl, ⟨n1, rfl⟩⟩
  go_wp2_with fail
  refine (snap_calls s g ⟨t, v, i, o, x⟩ _ (show StoreAt (w1.drewN n1) s g _ from HS1.out)).mono ?_
  rintro e w' ⟨rfl, ⟨n2, rfl⟩⟩
  go_wp2_with fail
  go_ret
  exact ⟨rfl, pw_below_drewN HB.out _⟩
set_option maxHeartbeats 3200000 in
set_option maxRecDepth 100000 in
theorem disk27_calls (w : World) : Calls Try.prog 27 #[] w fun e w' => ∃ g b, e = .returned (.pointer (some ⟨g, 0, none⟩)) ∧ Dsk w' w.heap.size g b 0 0 (.map []) (snapF none none) ∧ Below w.heap.size w w' := by
  have hF : snapF none none = fun _ => none := by
    funext k
    unfold snapF
    split
    · rfl
    · split <;> rfl
  go_enter Try.func27, Try.ntmps27
  go_wp2_with fail
  refine (new_nil w).mono ?_
  rintro e w1 ⟨g, b, rfl, hgw, hbw, hb1, hg1, hbel⟩
  have HD : Aside0 (Dsk w1 w.heap.size g b 0 0 (.map []) (snapF none none)) := ⟨by rw [hF]; exact ⟨hgw, hbw, (by rintro rfl; rw [hb1] at hg1; cases hg1), hg1, Files_empty hb1, fun _ _ => rfl, fun nm s l e => (by cases e), fun nm nm' f e1 e2 => (by rw [at_none] at e1; cases pe_inj e1), fun nm e => absurd rfl e, Nat.zero_le _⟩⟩
  have HB := Aside0.mk hbel
  clear hgw hbw hb1 hg1 hbel
  go_wp2_with fail
  refine (V.lecternlaw19_num.calls _ _ _ rfl).mono ?_
  rintro e w' ⟨rfl, ⟨n4, rfl⟩⟩
  go_wp2_with fail
  go_ret
  exact ⟨g, b, rfl, HD.out.drewN n4, pw_below_drewN HB.out n4⟩
set_option maxHeartbeats 3200000 in
set_option maxRecDepth 100000 in
theorem wakes34 (w : World) : Calls Try.prog 34 #[] w fun e w' => e = .returned (.bool true) ∧ Below w.heap.size w w' := by
  go_enter Try.func34, Try.ntmps34
  go_wp2_with fail
  refine (disk27_calls w).mono ?_
  rintro e w1 ⟨g, b, rfl, hD1, hb1⟩
  have HD1 := Aside0.mk hD1
  have HB1 := Aside0.mk hb1
  clear hD1 hb1
  go_wp2_with fail
  refine (open_calls HD1.out ⟨fun x e => by cases e⟩ ⟨fun x e => by cases e⟩).mono ?_
  rintro e w2 ⟨s, rfl, hs2, hD2, hst2, hb2⟩
  have HD2 := Aside0.mk hD2
  have HST2 := Aside0.mk hst2
  have HSW : Aside0 (w.heap.size ≤ s) := ⟨by have := HB1.out.size; omega⟩
  have HB2 := Aside0.mk (below_step HB1.out hb2)
  clear hs2 hD2 hst2 hb2
  go_wp2_with fail
  refine (V.lecternlaw20_num.calls _ _ _ rfl).mono ?_
  rintro e w' ⟨rfl, ⟨n2, rfl⟩⟩
  go_wp2_with fail
  refine (setvote_calls (HD2.out.drewN n2) (by decide) (by decide) (by decide) (show StoreAt (w2.drewN n2) s g _ from HST2.out) HSW.out 3 1 (by decide) (by decide) (by decide) (by decide)).mono ?_
  rintro e w3 ⟨rfl, hst3⟩
  have HST3 := Aside0.mk hst3.store
  have HB3 : Aside0 (Below w.heap.size w w3) := ⟨(pw_below_drewN HB2.out n2).trans hst3.below⟩
  clear hst3
  go_wp2_with fail
  refine (V.lecternlaw20_num.calls _ _ _ rfl).mono ?_
  rintro e w' ⟨rfl, ⟨n3, rfl⟩⟩
  go_wp2_with fail
  refine (vote_calls s g _ _ (show StoreAt (w3.drewN n3) s g _ from HST3.out)).mono ?_
  rintro e w' ⟨rfl, ⟨n4, rfl⟩⟩
  go_wp2_with fail
  go_ret
  exact ⟨rfl, pw_below_drewN HB3.out _⟩
end Go.Proofs.Ytoonepmnlgfikaa.D
