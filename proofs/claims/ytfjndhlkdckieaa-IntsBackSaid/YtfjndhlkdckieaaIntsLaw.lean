/- What is asked of packed numbers: an argument's element, opened; and IntsNew, walked. -/
import Derived.Test.YtfjndhlkdckieaaIntsWalk3
namespace Go.Proofs.Ytfjndhlkdckieaa.I
open Go.RowKit Go.Proofs.YtfjndhlkdckieaaW.PrintWords Go.Proofs.YtfjndhlkdckieaaW.PrintLast Go.Proofs.YtfjndhlkdckieaaW.PrintMore Go.Proofs.Ytfjndhlkdckieaa.Opening Go.Proofs.Ytfjndhlkdckieaa.Base Go.Proofs.Ytfjndhlkdckieaa.Bits
set_option linter.unusedVariables false
set_option linter.unusedSimpArgs false

structure Ask where
  w : Int
  l : List Int
  n : Int
  b : List Int
def zAsk : Ask := ⟨0, [], 0, []⟩
def kAsk : Kd Ask := Kd.iso (Kd.pair (Kd.int .i64) (Kd.pair (Kd.slice 23 (Kd.int .u64)) (Kd.pair (Kd.int .i64) (Kd.slice 5 (Kd.int .u8))))) (fun x : Ask => (x.w, x.l, x.n, x.b))
def AOk (x : Ask) : Prop := (Lit.int .i64 x.w).wf = true ∧ (x.l.length * 8 ≤ 140737488351232 ∧ ∀ y ∈ x.l, (Lit.int .u64 y).wf = true) ∧ (Lit.int .i64 x.n).wf = true ∧ (x.b.length * 1 ≤ 140737488351232 ∧ ∀ y ∈ x.b, (Lit.int .u8 y).wf = true)
theorem opens_44 : Opens Try.prog 44 kAsk AOk :=
  opens_struct (fun x : Ask => (x.w, x.l, x.n, x.b)) (fun p => ⟨p.1, p.2.1, p.2.2.1, p.2.2.2⟩) (fun _ => rfl) Try.underlying44 (by kernel_rfl)
    (show OpensFs Try.prog [3, 41, 3, 42] _ _ from opens_cons (opens_int Try.underlying3 (by kernel_rfl)) (opens_cons (opens_slice Try.underlying41 (by kernel_rfl) (by kernel_rfl) (opens_int Try.underlying23 (by kernel_rfl))) (opens_cons (opens_int Try.underlying3 (by kernel_rfl)) (opens_last (opens_slice Try.underlying42 (by kernel_rfl) (by kernel_rfl) (opens_int Try.underlying5 (by kernel_rfl)))))))
theorem opens_40 : Opens Try.prog 40 (Kd.slice 44 kAsk) (fun l => l.length * 64 ≤ 140737488351232 ∧ ∀ x ∈ l, AOk x) := opens_slice Try.underlying40 (by kernel_rfl) (by kernel_rfl) opens_44
theorem AOk.u64 {x : Ask} (h : AOk x) : U64s x.l := fun y hy => by
  have := u64_bounds (h.2.1.2 y hy)
  omega
theorem AOk.bytes {x : Ask} (h : AOk x) : AllB x.b := fun y hy => u8_bounds (h.2.2.2.2 y hy)
theorem at_ask {w : World} {A : Option Addr} {n : Nat} {xs : List Ask} (h : Kd.C kAsk w A n xs) (i : Nat) (h1 : i < xs.length) :
    ∃ ad A1 c1 A3 c3, A = some ad ∧ w.cell? (ad.add (i * 4)) = some (.int .i64 (xs[i]).w) ∧ w.cell? ⟨(ad.add (i * 4)).block, (ad.add (i * 4)).off + 1, none⟩ = some (.slice A1 (xs[i]).l.length c1) ∧
      w.cell? ⟨(ad.add (i * 4)).block, (ad.add (i * 4)).off + 2, none⟩ = some (.int .i64 (xs[i]).n) ∧ w.cell? ⟨(ad.add (i * 4)).block, (ad.add (i * 4)).off + 3, none⟩ = some (.slice A3 (xs[i]).b.length c3) ∧
      (xs[i]).l.length ≤ c1 ∧ Kd.C (Kd.int .u64) w A1 (xs[i]).l.length (xs[i]).l ∧ (xs[i]).b.length ≤ c3 ∧ Kd.C (Kd.int .u8) w A3 (xs[i]).b.length (xs[i]).b := by
  have hn := Kd.C_len h
  obtain ⟨ad, c, e, _, hK, hc0⟩ := Kd.C_get h zAsk (i : Int) (by omega) (by omega)
  rw [Int.toNat_natCast, List.getD_eq_getElem?_getD, List.getElem?_eq_getElem h1] at hK
  simp only [Option.getD_some] at hK
  obtain ⟨ca, cb, rfl, rfl, cc, cd, rfl, ⟨A1, c1, rfl, hl1, hC1⟩, ce, cf, rfl, rfl, ⟨A3, c3, rfl, hl3, hC3⟩⟩ := hK
  rw [Int.toNat_natCast] at hc0
  have hc : ∀ j u, ([Value.int .i64 (xs[i]).w] ++ ([Value.slice A1 (xs[i]).l.length c1] ++ ([Value.int .i64 (xs[i]).n] ++ [Value.slice A3 (xs[i]).b.length c3])))[j]? = some u → w.cell? (ad.add (i * 4 + j)) = some u := hc0
  exact ⟨ad, A1, c1, A3, c3, e, hc 0 _ rfl, by rw [← add_field _ _ 1 (by omega)]; exact hc 1 _ rfl, by rw [← add_field _ _ 2 (by omega)]; exact hc 2 _ rfl, by rw [← add_field _ _ 3 (by omega)]; exact hc 3 _ rfl, hl1, hC1, hl3, hC3⟩
theorem may_yes {w : Int} {l : List Int} (h : mayB w l = true) : ∃ n : Nat, w = (n : Int) ∧ n ≤ 64 ∧ ∀ x ∈ l, x.toNat < 2 ^ n := by
  unfold mayB at h
  rw [Bool.and_eq_true] at h
  obtain ⟨h1, h2⟩ := h
  have h1 := of_decide_eq_true h1
  obtain ⟨n, rfl⟩ := Int.eq_ofNat_of_zero_le h1.1
  refine ⟨n, rfl, by omega, fun x hx => ?_⟩
  have := of_decide_eq_true (List.all_eq_true.1 h2 x hx)
  rwa [Int.toNat_natCast] at this
theorem new_no (wd : Int) (l : List Int) (hu : U64s l) (hl : l.length ≤ 131072) (h : mayB wd l = false) (A : Option Addr) (c : Nat) (w : World) (hC : Kd.C (Kd.int .u64) w A l.length l) (hc : l.length ≤ c) :
    Calls Try.prog 26 #[.int .i64 wd, .slice A l.length c] w fun e w' => e = .returned (.tuple #[.pointer none, .int .i64 1]) ∧ w = w' := by
  by_cases hw : wd < 0 ∨ 64 < wd
  · exact new_out wd hw A _ _ w
  · obtain ⟨n, rfl⟩ := Int.eq_ofNat_of_zero_le (show 0 ≤ wd by omega)
    unfold mayB at h
    rw [decide_eq_true (show (0 : Int) ≤ (n : Int) ∧ (n : Int) ≤ 64 by omega), Bool.true_and, Int.toNat_natCast, List.all_eq_false] at h
    obtain ⟨x, hx, hn⟩ := h
    have hbig : 2 ^ n ≤ x.toNat := by
      rw [decide_eq_true_eq] at hn
      omega
    have hx2 := hu x hx
    have h64 : n < 64 := by
      rcases Nat.lt_or_ge n 64 with h | h
      · exact h
      · exfalso
        have : 2 ^ 64 ≤ 2 ^ n := Nat.pow_le_pow_right (by decide) h
        omega
    exact new_big n h64 l hu hl ⟨x, hx, hbig⟩ A c w hC hc
set_option maxHeartbeats 2000000 in
set_option maxRecDepth 100000 in
theorem new_walk (A : Option Addr) (c : Nat) (l : List Ask) (w : World) (hC : Kd.C kAsk w A l.length l) (hc : l.length ≤ c) (ok : l.length * 64 ≤ 140737488351232 ∧ ∀ x ∈ l, AOk x) :
    Calls Try.prog 7 #[.slice A l.length c] w fun e w' => e = .returned (.bool true) ∧ Below w.heap.size w w' := by
  have HC := Aside0.mk hC
  have HOK := Aside0.mk ok.2
  have hlen : l.length ≤ 140737488351232 := by omega
  clear hC ok
  have hu44 := Try.underlying44
  have hu57 := Try.underlying57
  go_enter Try.func7, Try.ntmps7
  go_wp2_with fail
  go_loopg [3, 4, 5, 6, 7, 8] l.length (fun kq v3 v4 v5 v6 v7 v8 w' => ∃ i : Nat, v3 = .int .i64 (i : Int) ∧ Aside0 (kq + i = l.length) ∧ Aside0 (Below w.heap.size w w'))
  case atStart => exact ⟨0, rfl, ⟨by omega⟩, ⟨Below.refl _ _⟩⟩
  case round =>
    obtain ⟨i, rfl, HK, HB⟩ := hrel
    have done : ∀ (w2 : World), Below w.heap.size w w2 → ∀ e w', (e = Ending.returned (.bool true) ∧ Below w2.heap.size w2 w') → e = Ending.returned (.bool true) ∧ Below w.heap.size w w' := fun w2 h2 e w' h => ⟨h.1, below_then h2 h2.size h.2⟩
    have HD := Aside0.mk done
    clear done
    by_cases hi : i < l.length
    · by_cases h8 : i < 8
      · have hb8 : decide ((i : Int) < 8) = true := decide_eq_true (by omega)
        obtain ⟨ad, A1, c1, A3, c3, rfl, hx0, hx1, hx2, hx3, hl1, hC1, hl3, hC3⟩ := at_ask (Kd.C_below HC.out HB.out) i hi
        have hok := HOK.out _ (List.getElem_mem hi)
        have HU := Aside0.mk hok.u64
        have HAB := Aside0.mk hok.bytes
        generalize (l[i]).w = pw at *
        generalize (l[i]).l = pl at *
        generalize (l[i]).n = pn at *
        generalize (l[i]).b = pb at *
        have HL1 := Aside0.mk hl1
        have HL3 := Aside0.mk hl3
        have HC1 := Aside0.mk hC1
        have HC3 := Aside0.mk hC3
        clear hok hl1 hl3 hC1 hC3
        go_wp2_with fail
        generalize hG0 : wr.heap.size = g0 at *
        have hg0 : (wr.alloc (.cells #[.int .i64 pw, .slice A1 pl.length c1, .int .i64 pn, .slice A3 pb.length c3] 44)).heap[g0]? = some (.cells #[.int .i64 pw, .slice A1 pl.length c1, .int .i64 pn, .slice A3 pb.length c3] 44 (0, 0)) := by rw [← hG0]; exact heap_alloc_new wr _
        have hB1 : Below w.heap.size w (wr.alloc (.cells #[.int .i64 pw, .slice A1 pl.length c1, .int .i64 pn, .slice A3 pb.length c3] 44)) := HB.out.alloc HB.out.size _
        have HC1' := Aside0.mk (Kd.C_alloc HC1.out (.cells #[.int .i64 pw, .slice A1 pl.length c1, .int .i64 pn, .slice A3 pb.length c3] 44))
        have HC3' := Aside0.mk (Kd.C_alloc HC3.out (.cells #[.int .i64 pw, .slice A1 pl.length c1, .int .i64 pn, .slice A3 pb.length c3] 44))
        have HG0 := Aside0.mk hg0
        have HB1 := Aside0.mk hB1
        clear hG0 hg0 hB1 hx0 hx1 hx2 hx3
        generalize wr.alloc (.cells #[.int .i64 pw, .slice A1 pl.length c1, .int .i64 pn, .slice A3 pb.length c3] 44) = w1 at *
        by_cases hv : pl.length > 300 ∨ pb.length > 2000
        · have AH : Aside0 (lecternlaw2_heavy.f pw pl pn pb = some true) := ⟨by
            unfold lecternlaw2_heavy.f
            by_cases h3 : (pl.length : Int) > 300
            · rw [if_pos h3]
            · rw [if_neg h3, decide_eq_true (by omega)]⟩
          refine (lecternlaw2_heavy.calls _ _ _ _ _ _ _ _ true _ HC1'.out HL1.out HC3'.out HL3.out AH.out).mono ?_
          rintro e w2 ⟨rfl, hb2⟩
          have HB2 := Aside0.mk hb2
          clear hb2
          go_wp2_with fail
          go_ret
          exact ⟨rfl, below_then HB1.out HB1.out.size HB2.out⟩
        · have hv1 : pl.length ≤ 300 := by omega
          have AH : Aside0 (lecternlaw2_heavy.f pw pl pn pb = some false) := ⟨by
            unfold lecternlaw2_heavy.f
            rw [if_neg (by omega), decide_eq_false (by omega)]⟩
          clear hv
          refine (lecternlaw2_heavy.calls _ _ _ _ _ _ _ _ false _ HC1'.out HL1.out HC3'.out HL3.out AH.out).mono ?_
          rintro e w2 ⟨rfl, hb2⟩
          have HB2 : Aside0 (Below w.heap.size w w2) := ⟨below_then HB1.out HB1.out.size hb2⟩
          have HG2 : Aside0 (w2.heap[g0]? = some (.cells #[.int .i64 pw, .slice A1 pl.length c1, .int .i64 pn, .slice A3 pb.length c3] 44 (0, 0))) := ⟨(hb2.block g0 (blk_lt HG0.out)).trans HG0.out⟩
          have HC2 := Aside0.mk (Kd.C_below HC1'.out hb2)
          clear hb2 HC3 HC3' HC1 HC1'
          have k1 : w2.cell? ⟨g0, 1, none⟩ = some (.slice A1 pl.length c1) := (blk_cell HG2.out 1).trans rfl
          go_wp2_with fail
          clear k1
          have AC : Aside0 (lecternref0_CopyLongs.f 400 pl = some pl) := ⟨copyl_is pl (by omega) 400 (by omega)⟩
          refine (lecternref0_CopyLongs.calls 400 _ _ _ _ _ HC2.out HL1.out AC.out).mono ?_
          rintro e w3 ⟨v5, rfl, hr3, hb3⟩
          obtain ⟨P3, c5, rfl, hc5, hC5⟩ := Kd.R_reads hr3
          have HR3 := Aside0.mk hr3
          have HL5 := Aside0.mk hc5
          have HC5 := Aside0.mk hC5
          have HB3 := Aside0.mk hb3
          have HG3 : Aside0 (w3.heap[g0]? = some (.cells #[.int .i64 pw, .slice A1 pl.length c1, .int .i64 pn, .slice A3 pb.length c3] 44 (0, 0))) := ⟨(hb3.block g0 (blk_lt HG2.out)).trans HG2.out⟩
          clear hr3 hc5 hC5 hb3
          have k0 : w3.cell? ⟨g0, 0, none⟩ = some (.int .i64 pw) := (blk_cell HG3.out 0).trans rfl
          go_wp2_with fail
          clear k0
          have AM : Aside0 (lecternref1_May.f 400 pw pl = some (mayB pw pl)) := ⟨may_is pw pl HU.out (by omega) 400 (by omega)⟩
          have AL : Aside0 (lecternlaw0_Longs.f 400 pl = some ()) := ⟨longs_is pl (by omega) 400 (by omega)⟩
          have AQ : Aside0 (∀ z, lecternlaw2_num.f z = some z) := ⟨fun z => rfl⟩
          cases hmay : mayB pw pl
          · rw [hmay] at AM
            refine (new_no pw pl HU.out (by omega) hmay _ _ _ HC5.out HL5.out).mono ?_
            clear hmay
            rintro e w4 ⟨rfl, rfl⟩
            go_wp2_with fail
            refine (lecternlaw0_Longs.calls 400 (fun k => w2.heap.size ≤ k ∧ k < w3.heap.size) _ pl w2 w3 HB3.out (Kd.R_mono (Kd.R_bound HR3.out) (fun k hk => ⟨hk.2.1, hk.2.2.1⟩)) AL.out).mono ?_
            rintro e w5 ⟨rfl, hb5, hk5⟩
            have HB5 := Aside0.mk hb5
            have HG5 : Aside0 (w5.heap[g0]? = some (.cells #[.int .i64 pw, .slice A1 pl.length c1, .int .i64 pn, .slice A3 pb.length c3] 44 (0, 0))) := ⟨(hb5.block g0 (blk_lt HG2.out)).trans HG2.out⟩
            have HC5' := Aside0.mk (Kd.C_below HC2.out hb5)
            clear hb5 hk5
            have k0 : w5.cell? ⟨g0, 0, none⟩ = some (.int .i64 pw) := (blk_cell HG5.out 0).trans rfl
            have k1 : w5.cell? ⟨g0, 1, none⟩ = some (.slice A1 pl.length c1) := (blk_cell HG5.out 1).trans rfl
            go_wp2_with fail
            clear k0 k1
            refine (lecternref1_May.calls 400 _ _ _ pl _ _ HC5'.out HL1.out AM.out).mono ?_
            rintro e w' ⟨rfl, ⟨n6, rfl⟩⟩
            go_wp2_with fail
            refine (lecternlaw2_num.calls 1 1 _ (AQ.out 1)).mono ?_
            rintro e w' ⟨rfl, ⟨n7, rfl⟩⟩
            go_wp2_with fail
            go_roundg (l.length - (i + 1))
            case measure => have := HK.out; omega
            case rel => exact ⟨i + 1, by go_num, ⟨by have := HK.out; omega⟩, ⟨pw_below_drewN (below_then HB2.out HB2.out.size HB5.out) _⟩⟩
          · rw [hmay] at AM
            obtain ⟨wd, rfl, hw64, hall⟩ := may_yes hmay
            have HALL := Aside0.mk hall
            clear hmay hall
            refine (new_yes wd hw64 pl HU.out (by omega) HALL.out _ _ _ HC5.out HL5.out).mono ?_
            rintro e w4 ⟨g, rfl, hb4, ho4⟩
            have HB4 := Aside0.mk hb4
            have HO4 := Aside0.mk ho4
            clear hb4 ho4
            go_wp2_with fail
            refine (lecternlaw0_Longs.calls 400 (fun k => w2.heap.size ≤ k ∧ k < w3.heap.size) _ pl w2 w4 (below_then HB3.out HB3.out.size HB4.out) (Kd.R_below (Kd.R_mono (Kd.R_bound HR3.out) (fun k hk => ⟨hk.2.1, hk.2.2.1⟩)) HB4.out) AL.out).mono ?_
            rintro e w5 ⟨rfl, hb5, hk5⟩
            have HB5 := Aside0.mk hb5
            have HO5 := Aside0.mk (HO4.out.kept hk5 (fun k hk => hk.2))
            have HG5 : Aside0 (w5.heap[g0]? = some (.cells #[.int .i64 (wd : Int), .slice A1 pl.length c1, .int .i64 pn, .slice A3 pb.length c3] 44 (0, 0))) := ⟨(hb5.block g0 (blk_lt HG2.out)).trans HG2.out⟩
            have HC5' := Aside0.mk (Kd.C_below HC2.out hb5)
            clear hb5 hk5
            have k0 : w5.cell? ⟨g0, 0, none⟩ = some (.int .i64 (wd : Int)) := (blk_cell HG5.out 0).trans rfl
            have k1 : w5.cell? ⟨g0, 1, none⟩ = some (.slice A1 pl.length c1) := (blk_cell HG5.out 1).trans rfl
            go_wp2_with fail
            refine (lecternref1_May.calls 400 _ _ _ pl _ _ HC5'.out HL1.out AM.out).mono ?_
            rintro e w' ⟨rfl, ⟨n6, rfl⟩⟩
            go_wp2_with fail
            refine (lecternlaw2_num.calls 0 0 _ (AQ.out 0)).mono ?_
            rintro e w' ⟨rfl, ⟨n7, rfl⟩⟩
            go_wp2_with fail
            have hel := enc_len wd pl
            have hmul : wd * pl.length ≤ 64 * 300 := Nat.mul_le_mul hw64 hv1
            have hel2 : (enc wd pl).length ≤ 3000 := by omega
            have hsm : ∀ i, i < pl.length → rdN (enc wd pl) i wd wd = num pl i := fun i hi => rd_enc wd pl i hi (by
              unfold num
              rw [List.getD_eq_getElem?_getD, List.getElem?_eq_getElem hi]
              exact HALL.out _ (List.getElem_mem hi))
            have HSM := Aside0.mk hsm
            have HEL := Aside0.mk hel
            have AS : ∀ W, Kd.C (Kd.int .u64) W A1 pl.length pl → OPk W w3.heap.size g (wd : Int) (pl.length : Int) (enc wd pl) → Calls Try.prog 30 #[.pointer (some ⟨g, 0, none⟩), .int .i64 (wd : Int), .slice A1 pl.length c1] W fun e w' => e = .returned (.bool true) ∧ Drawn0 W w' :=
              fun W h1 h2 => same_calls w3.heap.size g wd hw64 pl HU.out (by omega) (enc wd pl) (enc_all wd pl) HEL.out HSM.out A1 c1 W h1 h2
            have HAS := Aside0.mk AS
            have AB : Aside0 (lecternref1_Bytes.f 20000 (wd : Int) pl = some (enc wd pl)) := ⟨ref_bytes_is wd hw64 pl HU.out (by omega) 20000 (by omega)⟩
            have AE : Aside0 (lecternref0_EqBytes.f 4000 (enc wd pl) (enc wd pl) = some true) := ⟨by rw [eqb_is _ _ (by omega) 4000 (by omega)]; simp⟩
            have AO : Aside0 (lecternlaw0_Bytes.f 4000 (enc wd pl) = some ()) := ⟨over_is _ (by omega) 4000 (by omega)⟩
            clear hsm hel hmul AS
            refine (HAS.out _ (Kd.C_drewN HC5'.out _) (HO5.out.drewN _)).mono ?_
            rintro e w' ⟨rfl, ⟨n8, rfl⟩⟩
            have HB6 : Aside0 (Below w2.heap.size w2 (w5.drewN (n6 + n7 + n8))) := ⟨pw_below_drewN HB5.out _⟩
            go_wp2_with fail
            refine (bytes_calls w3.heap.size g _ _ (enc wd pl) (by omega) _ (HO5.out.drewN _)).mono ?_
            rintro e w7 ⟨v8, rfl, hr7, hb7⟩
            obtain ⟨P8, c8, rfl, hc8, hC8⟩ := Kd.R_reads hr7
            have HR7 := Aside0.mk hr7
            have HL8 := Aside0.mk hc8
            have HC8 := Aside0.mk hC8
            have HB7 := Aside0.mk hb7
            have HO7 := Aside0.mk ((HO5.out.drewN (n6 + n7 + n8)).below hb7)
            have HG7 : Aside0 (w7.heap[g0]? = some (.cells #[.int .i64 (wd : Int), .slice A1 pl.length c1, .int .i64 pn, .slice A3 pb.length c3] 44 (0, 0))) := ⟨(hb7.block g0 (blk_lt HG5.out)).trans HG5.out⟩
            have HC7 := Aside0.mk (Kd.C_below (Kd.C_drewN HC5'.out (n6 + n7 + n8)) hb7)
            clear hr7 hc8 hC8 hb7 k0 k1
            have k0 : w7.cell? ⟨g0, 0, none⟩ = some (.int .i64 (wd : Int)) := (blk_cell HG7.out 0).trans rfl
            have k1 : w7.cell? ⟨g0, 1, none⟩ = some (.slice A1 pl.length c1) := (blk_cell HG7.out 1).trans rfl
            go_wp2_with fail
            refine (lecternref1_Bytes.calls 20000 _ _ _ pl _ _ HC7.out HL1.out AB.out).mono ?_
            rintro e w8 ⟨v9, rfl, hr9, hb9⟩
            obtain ⟨P9, c9, rfl, hc9, hC9⟩ := Kd.R_reads hr9
            have HL9 := Aside0.mk hc9
            have HC9 := Aside0.mk hC9
            have HB8 := Aside0.mk hb9
            clear hr9 hc9 hC9 hb9 k0 k1
            go_wp2_with fail
            refine (lecternref0_EqBytes.calls 4000 _ _ (enc wd pl) _ _ (enc wd pl) true _ (Kd.C_below HC8.out HB8.out) HL8.out HC9.out HL9.out AE.out).mono ?_
            rintro e w' ⟨rfl, ⟨n9, rfl⟩⟩
            go_wp2_with fail
            have hB78 : Below (w5.drewN (n6 + n7 + n8)).heap.size (w5.drewN (n6 + n7 + n8)) (w8.drewN n9) := pw_below_drewN (below_then HB7.out HB7.out.size HB8.out) _
            have HB78 := Aside0.mk hB78
            clear hB78
            refine (lecternlaw0_Bytes.calls 4000 (fun k => (w5.drewN (n6 + n7 + n8)).heap.size ≤ k ∧ k < w7.heap.size) _ (enc wd pl) (w5.drewN (n6 + n7 + n8)) (w8.drewN n9) HB78.out (Kd.R_drewN (Kd.R_below (Kd.R_mono (Kd.R_bound HR7.out) (fun k hk => ⟨hk.2.1, hk.2.2.1⟩)) HB8.out) _) AO.out).mono ?_
            rintro e w10 ⟨rfl, hb10, hk10⟩
            have HB10 := Aside0.mk hb10
            have HO10 := Aside0.mk ((HO5.out.drewN (n6 + n7 + n8)).below hb10)
            have HG10 : Aside0 (w10.heap[g0]? = some (.cells #[.int .i64 (wd : Int), .slice A1 pl.length c1, .int .i64 pn, .slice A3 pb.length c3] 44 (0, 0))) := ⟨(hb10.block g0 (blk_lt HG5.out)).trans HG5.out⟩
            have HC10 := Aside0.mk (Kd.C_below (Kd.C_drewN HC5'.out (n6 + n7 + n8)) hb10)
            clear hb10 hk10
            have k0 : w10.cell? ⟨g0, 0, none⟩ = some (.int .i64 (wd : Int)) := (blk_cell HG10.out 0).trans rfl
            have k1 : w10.cell? ⟨g0, 1, none⟩ = some (.slice A1 pl.length c1) := (blk_cell HG10.out 1).trans rfl
            go_wp2_with fail
            refine (HAS.out _ HC10.out HO10.out).mono ?_
            rintro e w' ⟨rfl, ⟨n11, rfl⟩⟩
            go_wp2_with fail
            go_roundg (l.length - (i + 1))
            case measure => have := HK.out; omega
            case rel => exact ⟨i + 1, by go_num, ⟨by have := HK.out; omega⟩, ⟨pw_below_drewN (below_then HB2.out HB2.out.size (below_then HB6.out HB6.out.size HB10.out)) _⟩⟩
      · have hb8 : decide ((i : Int) < 8) = false := decide_eq_false (by omega)
        go_wp2_with fail
        refine (wakes_calls _).mono ?_
        rintro e w' ⟨rfl, hb⟩
        go_wp2_with fail
        go_ret
        exact ⟨rfl, below_then HB.out HB.out.size hb⟩
    · go_wp2_with fail
      refine (wakes_calls _).mono ?_
      rintro e w' ⟨rfl, hb⟩
      go_wp2_with fail
      go_ret
      exact ⟨rfl, below_then HB.out HB.out.size hb⟩
end Go.Proofs.Ytfjndhlkdckieaa.I
