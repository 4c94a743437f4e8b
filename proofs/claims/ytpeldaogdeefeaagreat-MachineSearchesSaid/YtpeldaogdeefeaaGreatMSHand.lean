/- Sessions: rows of one's own (SShort, SFind, SPlace, SOwn, SDel, SWith, SFlat, SLeast, SIns, SIns2, SIns3, SIns4, SIns5, SIns6, SPut). -/
import Derived.Test.YtpeldaogdeefeaaGreatMWords
import Derived.Test.YtpeldaogdeefeaaGreatMx0
import Derived.Laws.CopyRow
import Derived.StillTailTactics
import Derived.Lib.Overlaps
import Derived.Laws.Externs
import Derived.Lib.AppendZerosOnto
import Derived.Lib.Walk
/-! SShort -/
namespace Go.Proofs.YtpeldaogdeefeaaGreat.M
open Go.RowKit Go.Proofs.YtpeldaogdeefeaaGreatW.PrintWords
/-- A row that isn't empty: its address. -/
theorem R_slice1 {α : Type} {d : Kd α} {e base : Nat} {ok : Nat → Prop} {w : World} {v : Value} {xs : List α} (h : d.R e w base ok v xs) (hn : 0 < xs.length) : ∃ (ad : Addr) (c : Nat), v = .slice (some ad) xs.length c := by
  obtain ⟨A, c, rfl⟩ := Kd.R_slice h
  obtain ⟨ad, he, _⟩ := (Kd.R_reads' h).2.2.2.2 hn
  subst he
  exact ⟨ad, c, rfl⟩
end Go.Proofs.YtpeldaogdeefeaaGreat.M
/-! SFind -/
namespace Go.Proofs.YtpeldaogdeefeaaGreat.M
open Go.RowKit Go.Proofs.YtpeldaogdeefeaaGreatW.PrintWords Go.Proofs.YtpeldaogdeefeaaGreatW.PrintLast Go.Proofs.YtpeldaogdeefeaaGreatW.PrintMore
set_option linter.unusedVariables false
set_option linter.unusedSimpArgs false
theorem nan95 (a : Int) (w : World) : Calls Tryz.prog 151 #[.int .i64 a] w fun e w' => e = .returned (.bool false) ∧ ∃ n, w' = w.drewN n := by
  go_enter Tryz.func151, Tryz.ntmps151
  go_wp2
  go_ret
  exact ⟨by simp, 0, rfl⟩
def cmpI (a c : Int) : Int := if a < c then -1 else if a > c then 1 else 0
theorem compare84 (a c : Int) (w : World) : Calls Tryz.prog 114 #[.int .i64 a, .int .i64 c] w fun e w' => e = .returned (.int .i64 (cmpI a c)) ∧ ∃ n, w' = w.drewN n := by
  by_cases h1 : a < c
  · have b1 : decide (a < c) = true := decide_eq_true h1
    have E : Aside0 (cmpI a c = -1) := ⟨if_pos h1⟩
    clear h1
    go_enter Tryz.func114, Tryz.ntmps114
    go_wp2_with (go_at_call 151; refine (nan95 _ _).mono ?_; rintro e w' ⟨rfl, ⟨n, rfl⟩⟩)
    go_ret
    exact ⟨by rw [E.out]; rfl, _, rfl⟩
  · have b1 : decide (a < c) = false := decide_eq_false h1
    by_cases h2 : a > c
    · have b2 : decide (a > c) = true := decide_eq_true h2
      have E : Aside0 (cmpI a c = 1) := ⟨by unfold cmpI; rw [if_neg h1, if_pos h2]⟩
      clear h1 h2
      go_enter Tryz.func114, Tryz.ntmps114
      go_wp2_with (go_at_call 151; refine (nan95 _ _).mono ?_; rintro e w' ⟨rfl, ⟨n, rfl⟩⟩)
      go_ret
      exact ⟨by rw [E.out]; rfl, _, rfl⟩
    · have b2 : decide (a > c) = false := decide_eq_false h2
      have E : Aside0 (cmpI a c = 0) := ⟨by unfold cmpI; rw [if_neg h1, if_neg h2]⟩
      clear h1 h2
      go_enter Tryz.func114, Tryz.ntmps114
      go_wp2_with (go_at_call 151; refine (nan95 _ _).mono ?_; rintro e w' ⟨rfl, ⟨n, rfl⟩⟩)
      go_ret
      exact ⟨by rw [E.out]; rfl, _, rfl⟩
theorem closure83 (a b d e f c : Int) (A : Option Addr) (n k : Nat) (w : World) : Calls Tryz.prog 165 #[.agg #[.int .i64 a, .int .i64 b, .int .i64 d, .int .i64 e, .slice A n k, .int .i64 f], .int .i64 c] w fun r w' => r = .returned (.int .i64 (cmpI a c)) ∧ Below w.heap.size w w' := by
  have hu88 := Tryz.underlying140
  have hcon : ∀ W, Calls Tryz.prog 114 #[.int .i64 a, .int .i64 c] W fun e w' => e = .returned (.int .i64 (cmpI a c)) ∧ ∃ n, w' = W.drewN n := fun W => compare84 a c W
  generalize cmpI a c = r at hcon ⊢
  go_enter Tryz.func165, Tryz.ntmps165
  go_wp2_with (go_at_call 114; refine (hcon _).mono ?_; rintro e w' ⟨rfl, ⟨n, rfl⟩⟩)
  go_ret
  exact ⟨rfl, by repeat (first | exact Below.refl _ _ | apply pw_below_drewN | apply below_alloc)⟩
/-- Sessions in order: clients rise. -/
def riseS (l : List S140) : Prop := l.Pairwise (fun a b => a.f0 < b.f0)
instance (l : List S140) : Decidable (riseS l) := by unfold riseS; infer_instance
theorem rd88_at (l : List S140) (i : Nat) (h : i < l.length) : rd_T140 l (i : Int) = l[i] := by
  unfold rd_T140
  rw [Int.toNat_natCast, List.getD_eq_getElem?_getD, List.getElem?_eq_getElem h, Option.getD_some]
theorem riseS_at {l : List S140} (h : riseS l) (i j : Nat) (hij : i < j) (hj : j < l.length) : (rd_T140 l (i : Int)).f0 < (rd_T140 l (j : Int)).f0 := by
  rw [rd88_at l i (by omega), rd88_at l j hj]
  exact List.pairwise_iff_getElem.1 h i j (by omega) hj hij
/-- Where a client's session stands, or would: i. -/
def PlaceS (l : List S140) (c : Int) (i : Nat) : Prop := i ≤ l.length ∧ (∀ t : Nat, t < i → (rd_T140 l (t : Int)).f0 < c) ∧ (∀ t : Nat, i ≤ t → t < l.length → ¬ (rd_T140 l (t : Int)).f0 < c)
theorem wr64 (n : Int) (h : -9223372036854775808 ≤ n) (h1 : n ≤ 9223372036854775807) : wrap64 n = n := by unfold wrap64; omega
theorem u64w (n : Int) (h : 0 ≤ n) (h1 : n ≤ 9223372036854775807) : IntKind.u64.wrap n = n := by rw [IntKind.wrap_u64]; omega
theorem mid_facts (i j n : Nat) (h : i < j) (hj : j ≤ n) (hn : n ≤ 1000000000) : ∃ (s : Int) (m : Nat), m = (i + j) / 2 ∧ wrap64 ((i : Int) + (j : Int)) = s ∧ IntKind.u64.wrap s = s ∧ wrap64 (s / 2) = (m : Int) ∧ wrap64 ((m : Int) + 1) = ((m + 1 : Nat) : Int) := by
  have h1 : wrap64 ((i : Int) + (j : Int)) = (i : Int) + (j : Int) := wr64 _ (by omega) (by omega)
  have h2 : IntKind.u64.wrap ((i : Int) + (j : Int)) = (i : Int) + (j : Int) := u64w _ (by clear h1; omega) (by clear h1; omega)
  have h3 : wrap64 (((i : Int) + (j : Int)) / 2) = ((i : Int) + (j : Int)) / 2 := wr64 _ (by clear h1 h2; omega) (by clear h1 h2; omega)
  have h4 : ((i : Int) + (j : Int)) / 2 = (((i + j) / 2 : Nat) : Int) := by clear h1 h2 h3; omega
  have h5 : wrap64 ((((i + j) / 2 : Nat) : Int) + 1) = (((i + j) / 2 : Nat) : Int) + 1 := wr64 _ (by clear h1 h2 h3 h4; omega) (by clear h1 h2 h3 h4; omega)
  exact ⟨_, (i + j) / 2, rfl, h1, h2, h3.trans h4, h5.trans (by clear h1 h2 h3 h4 h5; omega)⟩
theorem cmpI_lt {a c : Int} (h : a < c) : decide (cmpI a c < 0) = true := by unfold cmpI; rw [if_pos h]; rfl
theorem cmpI_ge {a c : Int} (h : ¬ a < c) : decide (cmpI a c < 0) = false := by unfold cmpI; rw [if_neg h]; split <;> rfl
theorem cmpI_eq (a c : Int) : (cmpI a c == 0) = decide (a = c) := by
  unfold cmpI
  by_cases h : a < c
  · rw [if_pos h]; simp; omega
  · rw [if_neg h]
    by_cases h2 : a > c
    · rw [if_pos h2]; simp; omega
    · rw [if_neg h2]; simp; omega
set_option maxHeartbeats 4000000 in
set_option maxRecDepth 100000 in
theorem search82 (A0 : Option Addr) (c0 : Nat) (l0 : List S140) (c : Int) (w : World) (hr0 : Kd.C k140 w A0 l0.length l0) (hc0 : l0.length ≤ c0) (hl : l0.length ≤ 1000000000) (hs : riseS l0) :
    Calls Tryz.prog 164 #[.slice A0 l0.length c0, .int .i64 c, .func (.func 165) #[] #[]] w fun e w' => ∃ i : Nat, PlaceS l0 c i ∧ e = .returned (.tuple #[.int .i64 i, .bool (decide (i < l0.length ∧ (rd_T140 l0 (i : Int)).f0 = c))]) ∧ Below w.heap.size w w' := by
  have HR0 := Aside0.mk hr0
  have HL := Aside0.mk hl
  have HS := Aside0.mk hs
  clear hr0 hl hs
  go_enter Tryz.func164, Tryz.ntmps164
  go_wp2_with fail
  go_loopg [9, 10, 11] l0.length (fun kq v9 v10 v11 w' => ∃ i j : Nat, Aside0 (i ≤ j ∧ j ≤ l0.length ∧ j - i ≤ kq) ∧ v9 = .int .i64 i ∧ v10 = .int .i64 j ∧ Aside0 ((∀ t : Nat, t < i → (rd_T140 l0 (t : Int)).f0 < c) ∧ (∀ t : Nat, j ≤ t → t < l0.length → ¬ (rd_T140 l0 (t : Int)).f0 < c)) ∧ Aside0 (Below w.heap.size w w'))
  case atStart => exact ⟨0, l0.length, ⟨by omega⟩, rfl, rfl, ⟨fun t ht => by omega, fun t ht1 ht2 => by omega⟩, ⟨Below.refl _ _⟩⟩
  case round =>
    obtain ⟨i, j, HIJ, rfl, rfl, HP, HB⟩ := hrel
    by_cases hij : i < j
    · have b2 : decide (i < j) = true := decide_eq_true hij
      have hij2 := eq_true hij
      obtain ⟨s, h, hh, e1, e2, e3, e4⟩ := mid_facts i j l0.length hij HIJ.out.2.1 HL.out
      have hlen : h < l0.length := by clear e1 e2 e3 e4; have := HIJ.out; omega
      have HH := Aside0.mk hh
      have p : (0 : Int) ≤ (h : Int) := Int.natCast_nonneg _
      have q : (h : Int) < (l0.length : Int) := Int.ofNat_lt.2 hlen
      have HIJ2 := Aside0.mk (And.intro hij hlen)
      clear hh hij hlen
      obtain ⟨ad, A4, c4, e, x0, x1, x2, x3, x4, x5, l4, g4⟩ := at_T140 HR0.out (h : Int) p q
      simp only [Int.toNat_natCast] at x0 x1 x2 x3 x4 x5
      replace x0 := (HB.out.cell (World.block_lt_of_cell? w _ x0)).trans x0
      replace x1 := (HB.out.cell (World.block_lt_of_cell? w _ x1)).trans x1
      replace x2 := (HB.out.cell (World.block_lt_of_cell? w _ x2)).trans x2
      replace x3 := (HB.out.cell (World.block_lt_of_cell? w _ x3)).trans x3
      replace x4 := (HB.out.cell (World.block_lt_of_cell? w _ x4)).trans x4
      replace x5 := (HB.out.cell (World.block_lt_of_cell? w _ x5)).trans x5
      subst e
      replace p := eq_true p
      replace q := eq_true q
      clear l4 g4
      by_cases hlt : (rd_T140 l0 (h : Int)).f0 < c
      · obtain ⟨v, hv⟩ : ∃ v, v = cmpI (rd_T140 l0 (h : Int)).f0 c := ⟨_, rfl⟩
        have b3 : decide (v < 0) = true := by rw [hv]; exact cmpI_lt hlt
        have CL : Aside0 (∀ b d e f A n k W, Calls Tryz.prog 165 #[.agg #[.int .i64 (rd_T140 l0 (h : Int)).f0, .int .i64 b, .int .i64 d, .int .i64 e, .slice A n k, .int .i64 f], .int .i64 c] W fun r w' => r = .returned (.int .i64 v) ∧ Below W.heap.size W w') := ⟨fun b d e f A n k W => by rw [hv]; exact closure83 _ b d e f c A n k W⟩
        have HLT := Aside0.mk hlt
        clear hv hlt
        go_wp2_with (go_at_call 165; refine (CL.out _ _ _ _ _ _ _ _).mono ?_; rintro r w9 ⟨rfl, hb⟩; have HB2 := Aside0.mk (below_step HB.out hb); clear hb; clear HB; have HB := HB2; clear HB2)
        go_roundg (gk - 1)
        case measure => clear e1 e2 e3 e4; have := HIJ.out; have := HIJ2.out; omega
        case rel =>
          have E4 : Value.int .i64 (wrap64 ((h : Int) + 1)) = Value.int .i64 ((h + 1 : Nat) : Int) := by rw [e4]
          clear e1 e2 e3 e4
          refine ⟨h + 1, j, ⟨by have := HIJ.out; have := HIJ2.out; have := HH.out; omega⟩, E4, rfl, ⟨fun t ht => ?_, HP.out.2⟩, ⟨by repeat (first | exact HB.out | apply pw_below_drewN | apply below_alloc)⟩⟩
          rcases Nat.lt_or_ge t h with h1 | h1
          · have := riseS_at HS.out t h h1 HIJ2.out.2
            have := HLT.out
            omega
          · rw [show t = h by omega]; exact HLT.out
      · obtain ⟨v, hv⟩ : ∃ v, v = cmpI (rd_T140 l0 (h : Int)).f0 c := ⟨_, rfl⟩
        have b3 : decide (v < 0) = false := by rw [hv]; exact cmpI_ge hlt
        have CL : Aside0 (∀ b d e f A n k W, Calls Tryz.prog 165 #[.agg #[.int .i64 (rd_T140 l0 (h : Int)).f0, .int .i64 b, .int .i64 d, .int .i64 e, .slice A n k, .int .i64 f], .int .i64 c] W fun r w' => r = .returned (.int .i64 v) ∧ Below W.heap.size W w') := ⟨fun b d e f A n k W => by rw [hv]; exact closure83 _ b d e f c A n k W⟩
        have HLT := Aside0.mk hlt
        clear hv hlt
        go_wp2_with (go_at_call 165; refine (CL.out _ _ _ _ _ _ _ _).mono ?_; rintro r w9 ⟨rfl, hb⟩; have HB2 := Aside0.mk (below_step HB.out hb); clear hb; clear HB; have HB := HB2; clear HB2)
        go_roundg (gk - 1)
        case measure => clear e1 e2 e3 e4; have := HIJ.out; have := HIJ2.out; omega
        case rel =>
          clear e1 e2 e3 e4
          refine ⟨i, h, ⟨by have := HIJ.out; have := HIJ2.out; have := HH.out; omega⟩, rfl, rfl, ⟨HP.out.1, fun t ht1 ht2 => ?_⟩, ⟨by repeat (first | exact HB.out | apply pw_below_drewN | apply below_alloc)⟩⟩
          rcases Nat.lt_or_ge h t with h1 | h1
          · have := riseS_at HS.out h t h1 ht2
            have := HLT.out
            omega
          · rw [show t = h by omega]; exact HLT.out
    · have b2 : decide (i < j) = false := decide_eq_false hij
      have hij2 := eq_false hij
      have hij3 : i = j := by have := HIJ.out; omega
      have hPl : Aside0 (PlaceS l0 c i) := ⟨by have := HIJ.out; omega, HP.out.1, by rw [hij3]; exact HP.out.2⟩
      clear hij3
      clear hij
      by_cases hil : i < l0.length
      · have b4 : decide (i < l0.length) = true := decide_eq_true hil
        have hil2 := eq_true hil
        have p : (0 : Int) ≤ (i : Int) := by omega
        have q : (i : Int) < (l0.length : Int) := by omega
        obtain ⟨ad, A4, c4, e, x0, x1, x2, x3, x4, x5, l4, g4⟩ := at_T140 HR0.out (i : Int) p q
        simp only [Int.toNat_natCast] at x0 x1 x2 x3 x4 x5
        replace x0 := (HB.out.cell (World.block_lt_of_cell? w _ x0)).trans x0
        replace x1 := (HB.out.cell (World.block_lt_of_cell? w _ x1)).trans x1
        replace x2 := (HB.out.cell (World.block_lt_of_cell? w _ x2)).trans x2
        replace x3 := (HB.out.cell (World.block_lt_of_cell? w _ x3)).trans x3
        replace x4 := (HB.out.cell (World.block_lt_of_cell? w _ x4)).trans x4
        replace x5 := (HB.out.cell (World.block_lt_of_cell? w _ x5)).trans x5
        subst e
        replace p := eq_true p
        replace q := eq_true q
        clear l4 g4
        obtain ⟨v, hv⟩ : ∃ v, v = cmpI (rd_T140 l0 (i : Int)).f0 c := ⟨_, rfl⟩
        have CL : Aside0 (∀ b d e f A n k W, Calls Tryz.prog 165 #[.agg #[.int .i64 (rd_T140 l0 (i : Int)).f0, .int .i64 b, .int .i64 d, .int .i64 e, .slice A n k, .int .i64 f], .int .i64 c] W fun r w' => r = .returned (.int .i64 v) ∧ Below W.heap.size W w') := ⟨fun b d e f A n k W => by rw [hv]; exact closure83 _ b d e f c A n k W⟩
        have HV : Aside0 ((v == 0) = decide (i < l0.length ∧ (rd_T140 l0 (i : Int)).f0 = c)) := ⟨by rw [hv, cmpI_eq]; exact decide_eq_decide.2 ⟨fun h => ⟨hil, h⟩, fun h => h.2⟩⟩
        clear hv hil
        go_wp2_with (go_at_call 165; refine (CL.out _ _ _ _ _ _ _ _).mono ?_; rintro r w9 ⟨rfl, hb⟩; have HB2 := Aside0.mk (below_step HB.out hb); clear hb; clear HB; have HB := HB2; clear HB2)
        go_ret2
        exact ⟨i, hPl.out, by first | (rw [HV.out]; rfl) | (rw [b4]; rfl), HB.out⟩
      · have b4 : decide (i < l0.length) = false := decide_eq_false hil
        have hil2 := eq_false hil
        have HV : Aside0 (decide (i < l0.length ∧ (rd_T140 l0 (i : Int)).f0 = c) = false) := ⟨decide_eq_false (fun h => hil h.1)⟩
        clear hil
        go_wp2_with fail
        go_ret2
        exact ⟨i, hPl.out, by first | (rw [HV.out]; rfl) | (rw [b4]; rfl), HB.out⟩
theorem place_count {l : List S140} {c : Int} {i : Nat} (h : PlaceS l c i) : l.countP (fun x => decide (x.f0 < c)) = i := by
  obtain ⟨h1, h2, h3⟩ := h
  have e : l = l.take i ++ l.drop i := (List.take_append_drop i l).symm
  rw [e, List.countP_append]
  have a1 : (l.take i).countP (fun x => decide (x.f0 < c)) = (l.take i).length := by
    rw [List.countP_eq_length]
    intro x hx
    obtain ⟨t, ht, rfl⟩ := List.getElem_of_mem hx
    rw [List.length_take] at ht
    have := h2 t (by omega)
    rw [rd88_at l t (by omega)] at this
    rw [List.getElem_take]
    exact decide_eq_true this
  have a2 : (l.drop i).countP (fun x => decide (x.f0 < c)) = 0 := by
    rw [List.countP_eq_zero]
    intro x hx
    obtain ⟨t, ht, rfl⟩ := List.getElem_of_mem hx
    rw [List.length_drop] at ht
    have := h3 (i + t) (by omega) (by omega)
    rw [rd88_at l (i + t) (by omega)] at this
    rw [List.getElem_drop]
    simpa using this
  rw [a1, a2, List.length_take]
  omega
theorem place_any {l : List S140} {c : Int} {i : Nat} (h : PlaceS l c i) (hs : riseS l) : l.any (fun x => x.f0 == c) = decide (i < l.length ∧ (rd_T140 l (i : Int)).f0 = c) := by
  obtain ⟨h1, h2, h3⟩ := h
  by_cases hd : i < l.length ∧ (rd_T140 l (i : Int)).f0 = c
  · rw [decide_eq_true hd, List.any_eq_true]
    refine ⟨l[i]'hd.1, List.getElem_mem hd.1, ?_⟩
    rw [← rd88_at l i hd.1, hd.2]
    exact beq_self_eq_true c
  · rw [decide_eq_false hd]
    refine List.any_eq_false.2 (fun x hx => ?_)
    obtain ⟨t, ht, rfl⟩ := List.getElem_of_mem hx
    intro he
    have he2 : (rd_T140 l (t : Int)).f0 = c := by rw [rd88_at l t ht]; exact eq_of_beq he
    rcases Nat.lt_trichotomy t i with h4 | h4 | h4
    · have := h2 t h4
      omega
    · subst h4; exact hd ⟨ht, he2⟩
    · have h5 := riseS_at hs i t h4 ht
      have h6 := h3 i (Nat.le_refl _) (by omega)
      omega
end Go.Proofs.YtpeldaogdeefeaaGreat.M
/-! SPlace -/
namespace Go.Proofs.YtpeldaogdeefeaaGreat.M
open Go.RowKit Go.Proofs.YtpeldaogdeefeaaGreatW.PrintWords Go.Proofs.YtpeldaogdeefeaaGreatW.PrintLast Go.Proofs.YtpeldaogdeefeaaGreatW.PrintMore
set_option linter.unusedVariables false
set_option linter.unusedSimpArgs false
def placeS (l : List S140) (a : Int) : Nat := l.countP (fun x => decide (x.f0 < a))
end Go.Proofs.YtpeldaogdeefeaaGreat.M
/-! SOwn -/
namespace Go.Proofs.YtpeldaogdeefeaaGreat.M
open Go.RowKit Go.Proofs.YtpeldaogdeefeaaGreatW.PrintWords Go.Proofs.YtpeldaogdeefeaaGreatW.PrintLast Go.Proofs.YtpeldaogdeefeaaGreatW.PrintMore
set_option linter.unusedVariables false
set_option linter.unusedSimpArgs false
def encF (x : S140) : List Value := [.int .i64 x.f0, .int .i64 x.f1, .int .i64 x.f2.f0, .int .i64 x.f2.f1, .slice none 0 0, .int .i64 x.f3]
theorem encF_len (x : S140) : (encF x).length = 6 := rfl
theorem encF_one (x : S140) : ∀ u ∈ encF x, u.oneCell' = true := fun u hu => by
  simp [encF] at hu
  rcases hu with rfl | rfl | rfl | rfl | rfl | rfl <;> rfl
/-- A session without hits, its cells. -/
def kF : Kd S140 where
  sz := 6
  E := []
  K := fun _ x cs => x.f2.f2 = [] ∧ cs = encF x
  M := fun _ _ _ x cs => x.f2.f2 = [] ∧ cs = encF x
  K_len := fun h => by rw [h.2]; rfl
  K_one := fun h => by rw [h.2]; exact encF_one _
  K_below := fun _ h => h
  K_of_M := fun h => h
  M_mono := fun _ h => h
  M_bound := fun h => h
  M_move := fun _ h => h
  M_lower := fun _ h => h
def clr (x : S140) : S140 := ⟨x.f0, x.f1, ⟨x.f2.f0, x.f2.f1, []⟩, x.f3⟩
def cellsM (x : S140) (v : Value) : List Value := [.int .i64 x.f0, .int .i64 x.f1, .int .i64 x.f2.f0, .int .i64 x.f2.f1, v, .int .i64 x.f3]
def isM (x : S140 × Bool) (cs : List Value) : Prop := ∃ A n c, cs = cellsM x.1 (.slice A n c) ∧ (x.2 = true → A = none ∧ n = 0 ∧ c = 0)
theorem isM_one {x : S140 × Bool} {cs : List Value} (h : isM x cs) : cs.length = 6 ∧ ∀ u ∈ cs, u.oneCell' = true := by
  obtain ⟨A, n, c, rfl, _⟩ := h
  refine ⟨rfl, fun u hu => ?_⟩
  simp [cellsM] at hu
  rcases hu with rfl | rfl | rfl | rfl | rfl | rfl <;> rfl
/-- A session whose hits are cut off already, or not yet. -/
def kM : Kd (S140 × Bool) where
  sz := 6
  E := []
  K := fun _ x cs => isM x cs
  M := fun _ _ _ x cs => isM x cs
  K_len := fun h => (isM_one h).1
  K_one := fun h => (isM_one h).2
  K_below := fun _ h => h
  K_of_M := fun h => h
  M_mono := fun _ h => h
  M_bound := fun h => h
  M_move := fun _ h => h
  M_lower := fun _ h => h
def upto (l : List S140) (i : Nat) : List (S140 × Bool) := l.mapIdx (fun j x => (x, decide (j < i)))
theorem upto_len (l : List S140) (i : Nat) : (upto l i).length = l.length := List.length_mapIdx
theorem upto_at (l : List S140) (i j : Nat) (h : j < l.length) : (upto l i)[j]? = some (l[j], decide (j < i)) := by
  unfold upto
  rw [List.getElem?_mapIdx, List.getElem?_eq_getElem h]
  rfl
theorem upto_step (l : List S140) (i : Nat) (h : i < l.length) : (upto l i).set i (l[i], true) = upto l (i + 1) := by
  apply List.ext_getElem?
  intro j
  rcases Nat.lt_or_ge j l.length with hj | hj
  · rw [List.getElem?_set, upto_at l (i + 1) j hj, upto_len]
    by_cases e : i = j
    · subst e
      rw [if_pos rfl, if_pos h]
      simp
    · rw [if_neg e, upto_at l i j hj]
      have : decide (j < i) = decide (j < i + 1) := decide_eq_decide.2 (by omega)
      rw [this]
  · rw [List.getElem?_eq_none (by rw [List.length_set, upto_len]; omega), List.getElem?_eq_none (by rw [upto_len]; omega)]
theorem upto_reads {w : World} {A : Option Addr} {l : List S140} (h : Kd.C k140 w A l.length l) : ReadsRow (fun x cs => isM x cs) 6 w A l.length (upto l 0) := by
  obtain ⟨h1, h2, h3⟩ := h
  refine ⟨upto_len l 0, h2, fun hp => ?_⟩
  obtain ⟨ad, e, hc⟩ := h3 hp
  refine ⟨ad, e, fun j p hj => ?_⟩
  have hjl : j < l.length := by have := (List.getElem?_eq_some_iff.1 hj).1; rwa [upto_len] at this
  rw [upto_at l 0 j hjl] at hj
  obtain rfl := Option.some.inj hj
  obtain ⟨c, hl, hK, hcc⟩ := hc j l[j] (List.getElem?_eq_getElem hjl)
  obtain ⟨A4, c4, rfl, _, _⟩ := k140_open hK
  exact ⟨_, hl, ⟨A4, _, c4, rfl, fun h => by simp at h⟩, hcc⟩
/-- All are cut off. -/
theorem upto_all {w : World} {base : Nat} {ok : Nat → Prop} {v : Value} {l : List S140} (h : Kd.R kM 140 w base ok v (upto l l.length)) : Kd.R kF 140 w base ok v (l.map clr) := by
  obtain ⟨h0, inner, ho, hr⟩ := h
  refine ⟨h0, inner, by rw [List.length_map]; rw [upto_len] at ho; exact ho, by rw [List.length_map, hr.1, upto_len]; rfl, fun j p hj => ?_⟩
  rw [List.getElem?_map] at hj
  have hjl : j < l.length := by
    rcases Nat.lt_or_ge j l.length with h | h
    · exact h
    · rw [List.getElem?_eq_none h] at hj; cases hj
  rw [List.getElem?_eq_getElem hjl] at hj
  obtain rfl := Option.some.inj hj
  obtain ⟨A, n, c, e, hz⟩ := hr.2 j _ (upto_at l l.length j hjl)
  obtain ⟨rfl, rfl, rfl⟩ := hz (decide_eq_true hjl)
  exact ⟨rfl, e⟩
theorem upto_get {w : World} {base : Nat} {ok : Nat → Prop} {g c : Nat} {l : List S140} {i : Nat} (h : Kd.R kM 140 w base ok (.slice (some ⟨g, 0, none⟩) l.length c) (upto l i)) (j : Nat) (hj : j < l.length) :
    ∃ v, w.cell? ⟨g, j * 6, none⟩ = some (.int .i64 l[j].f0) ∧ (∀ k u, (cellsM l[j] v)[k]? = some u → w.cell? ⟨g, j * 6 + k, none⟩ = some u) := by
  obtain ⟨_, _, hC⟩ := Kd.R_reads' h
  obtain ⟨_, _, h3⟩ := hC
  obtain ⟨ad, e, hc⟩ := h3 (by rw [upto_len]; omega)
  obtain rfl := Option.some.inj e
  obtain ⟨cs, _, hK, hcc⟩ := hc j _ (upto_at l i j hj)
  obtain ⟨A, n, c', rfl, _⟩ := hK
  have hall : ∀ k u, (cellsM l[j] (.slice A n c'))[k]? = some u → w.cell? ⟨g, j * 6 + k, none⟩ = some u := fun k u hu => by
    have := hcc k u hu
    rwa [add_plain] at this
  exact ⟨_, hall 0 _ rfl, hall⟩
theorem size29 : (Tryz.prog.info? 43).map (·.size) = some 1 := by kernel_rfl
set_option maxHeartbeats 4000000 in
set_option maxRecDepth 100000 in
theorem own_calls (A0 : Option Addr) (c0 : Nat) (l0 : List S140) (w : World) (hr0 : Kd.C k140 w A0 l0.length l0) (hc0 : l0.length ≤ c0) (hl : l0.length ≤ 1000000000) :
    Calls Tryz.prog 85 #[.slice A0 l0.length c0] w fun e w' => ∃ v, e = .returned v ∧ Kd.R kF 140 w' w.heap.size (fun _ => True) v (l0.map clr) ∧ Below w.heap.size w w' := by
  have HR := Aside0.mk (upto_reads hr0)
  have HL : Aside0 ((([] : List (S140 × Bool)).length + l0.length) * 64 ≤ 140737488355328) := ⟨by simp; omega⟩
  have HLL := Aside0.mk hl
  clear hr0 hl
  go_enter Tryz.func85, Tryz.ntmps85
  go_wp2_with ((with_reducible refine gate_builtin (b := .append) (xs := #[.const (.slice none 0 0), .tmp 5]) rfl ?_); at_builtin; refine Kd.R_append_rows kM (w0 := w) w.heap.size rfl (.const (.slice none 0 0)) (.tmp 5) 58 140 (.agg #[(.int .i64 0), (.int .i64 0), (.int .i64 0), (.int .i64 0), (.slice none 0 0), (.int .i64 0)]) 64 rfl Tryz.underlying58 info140 rfl (by decide) (by omega) (.slice none 0 0) [] (upto l0 0) A0 l0.length c0 (fun _ => True) (fun _ => False) rfl rfl (Kd.R_nil _ _ _ _ _) HR.out (fun _ _ h => h) (fun _ h => h.elim) (fun _ _ => trivial) (Below.refl _ _) (Nat.le_refl _) HL.out ?_; intro v3 w9 hr hb hg hat; rw [List.nil_append] at hr; have HR2 := Aside0.mk hr; have HB := Aside0.mk hb; obtain ⟨A3, c3, rfl⟩ := Kd.R_slice hr; rw [upto_len] at HR2 ⊢; clear hr hb hg hat)
  go_loopg [4, 9] l0.length (fun kq v4 v9 w' => ∃ i : Nat, Aside0 (i + kq = l0.length) ∧ v9 = .int .i64 i ∧ Aside0 (Kd.R kM 140 w' w.heap.size (fun _ => True) (.slice A3 l0.length c3) (upto l0 i)) ∧ Aside0 (Below w.heap.size w w'))
  case atStart => exact ⟨0, ⟨by omega⟩, rfl, ⟨HR2.out⟩, ⟨HB.out⟩⟩
  case round =>
    clear HR2 HB HR HL
    obtain ⟨i, HIK, rfl, HR, HB⟩ := hrel
    by_cases hlt : i < l0.length
    · have clt : decide ((i : Int) < (l0.length : Int)) = true := decide_eq_true (by omega)
      have clt2 : decide (i < l0.length) = true := decide_eq_true hlt
      have HLT := Aside0.mk hlt
      have e1 : wrap64 ((i : Int) + 1) = ((i + 1 : Nat) : Int) := by have := HLL.out; unfold wrap64; omega
      have E1 : Aside0 (wrap64 ((i : Int) + 1) = ((i + 1 : Nat) : Int)) := ⟨e1⟩
      clear e1
      obtain ⟨ad, c, e⟩ := R_slice1 HR.out (by rw [upto_len]; omega)
      injection e with e1 e2 e3
      subst e1
      obtain ⟨g, rfl⟩ := Kd.R_head HR.out
      clear e2 e3
      obtain ⟨vh, _, hcc⟩ := upto_get HR.out i hlt
      have HCC := Aside0.mk hcc
      clear hcc
      have p0 : (0 : Int) ≤ (i : Int) := Int.natCast_nonneg _
      have q0 : (i : Int) < (l0.length : Int) := Int.ofNat_lt.2 hlt
      have HP := Aside0.mk p0
      have HQ := Aside0.mk q0
      replace p0 := eq_true p0
      replace q0 := eq_true q0
      have HST := Aside0.mk (upto_step l0 i hlt)
      have HM : Aside0 (isM (l0[i], true) ((cellsM l0[i] vh).take 4 ++ [.slice none 0 0] ++ (cellsM l0[i] vh).drop 5)) := ⟨⟨none, 0, 0, rfl, fun _ => ⟨rfl, rfl, rfl⟩⟩⟩
      have HO1 : Aside0 (∀ q ∈ ([.slice none 0 0] : List Value), q.oneCell' = true) := ⟨fun q hq => by rw [List.mem_singleton.1 hq]; rfl⟩
      generalize l0[i] = x at *
      clear hlt
      go_wp2_with ((with_reducible refine gate_store (t := 43) (p := 16) rfl ?_); refine Kd.R_store kM (w0 := w) w.heap.size rfl rfl 43 (.tmp 16) (.const (.slice none 0 0)) rfl 140 (i : Int) 4 (upto l0 i) (x, true) (.slice none 0 0) [.slice none 0 0] (cellsM x vh) (fun _ => True) (fun _ => False) rfl ?hoff rfl rfl size29 HO1.out HR.out HP.out HQ.out rfl ?hcc (by decide) HM.out (fun _ h => h.elim) HB.out ?_; (case hoff => rfl); (case hcc => exact HCC.out); intro w9 hr hb hg; rw [Int.toNat_natCast, HST.out] at hr; have HR2 := Aside0.mk hr; have HB2 := Aside0.mk hb; clear hr hb hg)
      go_roundg (l0.length - i - 1)
      case measure => have := HIK.out; have := HLT.out; omega
      case rel => exact ⟨i + 1, ⟨by have := HLT.out; omega⟩, by rw [E1.out], ⟨HR2.out⟩, ⟨HB2.out⟩⟩
    · have clt : decide ((i : Int) < (l0.length : Int)) = false := decide_eq_false (by omega)
      have clt2 : decide (i < l0.length) = false := decide_eq_false hlt
      have hil : i = l0.length := by have := HIK.out; omega
      have HR2 := HR.out
      rw [hil] at HR2
      have HR3 := Aside0.mk (upto_all HR2)
      clear HR2 hil hlt HR
      go_wp2_with fail
      go_ret
      exact ⟨_, rfl, HR3.out, HB.out⟩
end Go.Proofs.YtpeldaogdeefeaaGreat.M
/-! SDel -/
namespace Go.Proofs.YtpeldaogdeefeaaGreat.M
open Go.RowKit Go.Proofs.YtpeldaogdeefeaaGreatW.PrintWords Go.Proofs.YtpeldaogdeefeaaGreatW.PrintLast Go.Proofs.YtpeldaogdeefeaaGreatW.PrintMore
set_option linter.unusedVariables false
set_option linter.unusedSimpArgs false
def zeros140 : List Value := [.int .i64 0, .int .i64 0, .int .i64 0, .int .i64 0, .slice none 0 0, .int .i64 0]
theorem zero140 (W : World) : (zeroValue 140).run Tryz.prog W = .ok (.agg #[(.int .i64 0), (.int .i64 0), (.int .i64 0), (.int .i64 0), (.slice none 0 0), (.int .i64 0)]) W := by kernel_rfl
theorem zeros140_one : ∀ u ∈ zeros140, u.oneCell' = true := fun u hu => by
  simp [zeros140] at hu
  rcases hu with rfl | rfl | rfl | rfl | rfl | rfl <;> rfl
/-- The spare cells behind a row may be written: the row is as it was. -/
theorem R_behind {α : Type} {d : Kd α} {W : World} {B : Nat} {ok : Nat → Prop} {g c m : Nat} {xs : List α} (h : d.R 140 W B ok (.slice (some ⟨g, 0, none⟩) m c) xs) (hd : d.sz = 6) (vs : List Value) (h1 : ∀ v ∈ vs, v.oneCell' = true) (hf : m * 6 + vs.length ≤ c * 6) :
    ∃ W1, (storeCells ⟨g, m * 6, none⟩ vs 0).run Tryz.prog W = .ok () W1 ∧ d.R 140 W1 B ok (.slice (some ⟨g, 0, none⟩) m c) xs ∧ W.grownBy W1 (some g) := by
  obtain ⟨hn, hnc, _⟩ := Kd.R_reads' h
  obtain ⟨hok, inner, hown, hr⟩ := h
  rcases hown.2 with ⟨hv, _⟩ | ⟨g', cap', cur, hv, hb, hh, h2, hcm, hcs, htake⟩
  · cases hv
  injection hv with ha _ hc
  injection ha with ha
  injection ha with hg
  subst hg; subst hc
  rw [hd] at hcs htake
  have hrun := run_storeCells_at Tryz.prog g (m * 6) 140 vs 0 cur W hh (by rw [hcs]; omega) h1
  rw [Nat.add_zero] at hrun
  refine ⟨_, hrun, ⟨hok, inner, ⟨hown.1, .inr ⟨g, c, _, by rw [hn], hb, setRow_heap W g cur _ 140 _ hh, h2, hcm, ?_, ?_⟩⟩, hr.imp_ (fun p cs hp => d.M_move (fun k hk => ?_) hp)⟩, ⟨rfl, rfl, rfl, ?_, fun k _ hk => ?_⟩⟩
  · rw [List.size_toArray, List.length_append, List.length_append, List.length_take, List.length_drop, Array.length_toList, hcs, hd]
    omega
  · rw [hd]
    have e1 : xs.length * 6 ≤ m * 6 := by rw [hn]; omega
    have e2 : (cur.toList.take (m * 6)).length = m * 6 := by rw [List.length_take, Array.length_toList, hcs]; omega
    rw [List.append_assoc, List.take_append_of_le_length (by rw [e2]; exact e1), List.take_take, Nat.min_eq_left e1]
    exact htake
  · have hk2 : k ≠ g := fun he => hk.2 (by rw [he]; simp [Value.ownBlock])
    exact setRow_other W g k _ hk2
  · rw [setRow_size]
    exact Nat.le_refl _
  · have hk2 : k ≠ g := fun he => hk (by rw [he])
    exact setRow_other W g k _ hk2
theorem clear_one {α : Type} {d : Kd α} {W : World} {B : Nat} {ok : Nat → Prop} {g c m : Nat} {xs : List α} (h : d.R 140 W B ok (.slice (some ⟨g, 0, none⟩) m c) xs) (hd : d.sz = 6) (hm : m < c) (ty : TypeId) (cc : Nat) :
    ∃ W1, (Builtin.clear_ #[58] ty #[.slice (some ⟨g, m * 6, none⟩) 1 cc]).run Tryz.prog W = .ok (.tuple #[]) W1 ∧ d.R 140 W1 B ok (.slice (some ⟨g, 0, none⟩) m c) xs ∧ W.grownBy W1 (some g) := by
  obtain ⟨W1, h1, h2, h3⟩ := R_behind h hd zeros140 zeros140_one (by show m * 6 + 6 ≤ c * 6; omega)
  have hzc : (Builtin.zeroCells (Value.agg #[(.int .i64 0), (.int .i64 0), (.int .i64 0), (.int .i64 0), (.slice none 0 0), (.int .i64 0)]).cells 1).toList = zeros140 := by kernel_rfl
  refine ⟨W1, ?_, h2, h3⟩
  simp [Builtin.clear_, run_underlying Tryz.underlying58, zero140, hzc, h1]
set_option maxHeartbeats 4000000 in
set_option maxRecDepth 100000 in
theorem delete85 (g m c : Nat) (xs : List S140) (i : Nat) (B : Nat) (w : World) (h : Kd.R kF 140 w B (fun _ => True) (.slice (some ⟨g, 0, none⟩) (m + 1) c) xs) (hi : i < m + 1) (hn : m ≤ 1000000) (hB : B ≤ w.heap.size) :
    Calls Tryz.prog 166 #[.slice (some ⟨g, 0, none⟩) (m + 1) c, .int .i64 i, .int .i64 ((i : Int) + 1)] w fun e w' => e = .returned (.slice (some ⟨g, 0, none⟩) m c) ∧ Kd.R kF 140 w' B (fun _ => True) (.slice (some ⟨g, 0, none⟩) m c) (xs.eraseIdx i) ∧ Below B w w' := by
  obtain ⟨hx, hnc, _⟩ := Kd.R_reads' h
  have HR := Aside0.mk (Kd.R_drew h)
  have HNC := Aside0.mk hnc
  have HI := Aside0.mk hi
  have HB := Aside0.mk hB
  have HG : Aside0 (B ≤ g) := ⟨Kd.R_base h g (by simp [Value.ownBlock])⟩
  clear hx
  have p1 : (0 : Int) ≤ (i : Int) := Int.natCast_nonneg _
  have p3 : (i : Int) + 1 ≤ ((m + 1 : Nat) : Int) := by omega
  have p4 : ((m + 1 : Nat) : Int) ≤ (c : Int) := by omega
  have p5 : ¬ ((i : Int) = (i : Int) + 1) := by omega
  have p5b : ((i : Int) == (i : Int) + 1) = false := by simpa using p5
  have p6 : (i : Int) ≤ (c : Int) := by omega
  have p7 : (i : Int) + 1 ≤ (m : Int) + 1 := by omega
  have p8 : (0 : Int) ≤ (i : Int) + 1 := by omega
  have p9 : ((i : Int) + 1).toNat = i + 1 := by omega
  have p10 : i ≤ c := by omega
  have p11 : i + 1 ≤ m + 1 := by omega
  have p12 : (i : Int) ≤ (i : Int) + 1 := by omega
  clear h
  go_enter Tryz.func166, Tryz.ntmps166
  go_wp2_with fail
  go_still_tail 6, (by kernel_rfl)
  change wpList _ _ _ _ _ w.drew
  refine Kd.R_delete kF (w0 := w) B rfl (.tmp 22) (.tmp 25) 58 140 rfl Tryz.underlying58 (by kernel_rfl) rfl rfl ?hA (by omega) HR.out HI.out (below_drew (Below.refl _ _)) HB.out ?_
  case hA => split <;> simp [add_plain, kF]
  intro w1 hr hb hg
  rw [Nat.add_sub_cancel] at hr ⊢
  have HR1 := Aside0.mk hr
  have HB1 := Aside0.mk hb
  clear hr hb hg p1 p3 p4 p5 p6 p7 p8 p9 p10 p11 p12
  obtain ⟨W2, h1, h2, h3⟩ := clear_one HR1.out rfl (by have := HNC.out; omega) 0 (c - m)
  have q1 : (m : Int) ≤ (m : Int) + 1 := by omega
  have q2 : (0 : Int) ≤ (m : Int) := Int.natCast_nonneg _
  have q3 : (m : Int) + 1 ≤ (c : Int) := by have := HNC.out; omega
  have q4 : ((m : Int) + 1).toNat = m + 1 := by omega
  have q5 : ¬ (c = m) := by have := HNC.out; omega
  have HF := Aside0.mk (pw_below_grown HB1.out (some g) (Nat.le_trans HB.out HB1.out.size) h3 (fun k hk => by injection hk with hk; rw [← hk]; exact HG.out))
  go_wp2_with fail
  all_goals (go_ret; first | exact ⟨rfl, h2, HF.out⟩ | (have hc : c = i + 1 := (by assumption); subst hc; exact ⟨rfl, h2, HF.out⟩))
end Go.Proofs.YtpeldaogdeefeaaGreat.M
/-! SWith -/
namespace Go.Proofs.YtpeldaogdeefeaaGreat.M
open Go.RowKit Go.Proofs.YtpeldaogdeefeaaGreatW.PrintWords Go.Proofs.YtpeldaogdeefeaaGreatW.PrintLast Go.Proofs.YtpeldaogdeefeaaGreatW.PrintMore
set_option linter.unusedVariables false
set_option linter.unusedSimpArgs false
theorem kF_S {w : World} {B : Nat} {ok : Nat → Prop} {v : Value} {xs : List S140} (h : Kd.R kF 140 w B ok v xs) : Kd.S k140 140 w B ok v xs := by
  obtain ⟨h0, inner, ho, hr⟩ := h
  refine ⟨fun _ => 0, h0, inner, by rw [List.length_zipIdx]; exact ho, by rw [List.length_zipIdx]; exact hr.1, fun j p hj => ?_⟩
  rw [List.getElem?_zipIdx] at hj
  obtain ⟨x, hx, rfl⟩ := Option.map_eq_some_iff.1 hj
  obtain ⟨e1, e2⟩ := hr.2 j x hx
  show k140.M w B _ x ((inner.drop (j * 6)).take 6)
  have e3 : (inner.drop (j * 6)).take 6 = encF x := e2
  rw [e3]
  exact k140_mkM w B _ x (by rw [e1]; exact Kd.R_nil _ _ _ _ _)
theorem kF_C {w : World} {A : Option Addr} {n : Nat} {xs : List S140} (h : Kd.C kF w A n xs) : Kd.C k140 w A n xs := by
  obtain ⟨h1, h2, h3⟩ := h
  refine ⟨h1, h2, fun hp => ?_⟩
  obtain ⟨ad, e, hc⟩ := h3 hp
  refine ⟨ad, e, fun j p hj => ?_⟩
  obtain ⟨c, hl, ⟨e1, rfl⟩, hcc⟩ := hc j p hj
  exact ⟨_, hl, k140_mk w p (A4 := none) (c4 := 0) (by rw [e1]; exact Nat.le_refl _) (by rw [e1]; exact Kd.C_nil _ _) |> (fun q => by rw [e1] at q; exact q), hcc⟩
set_option maxHeartbeats 4000000 in
set_option maxRecDepth 100000 in
theorem without63 (A0 : Option Addr) (c0 : Nat) (l0 : List S140) (i : Nat) (w : World) (hr0 : Kd.C k140 w A0 l0.length l0) (hc0 : l0.length ≤ c0) (hl : l0.length ≤ 1000000) (hi : i < l0.length) :
    Calls Tryz.prog 132 #[.slice A0 l0.length c0, .int .i64 i] w fun e w' => ∃ v, e = .returned v ∧ Kd.R kF 140 w' w.heap.size (fun _ => True) v ((l0.map clr).eraseIdx i) ∧ Below w.heap.size w w' := by
  have e1 : wrap64 ((i : Int) + 1) = (i : Int) + 1 := by unfold wrap64; omega
  have HL := Aside0.mk hl
  have HI := Aside0.mk hi
  have hown := own_calls A0 c0 l0 w hr0 hc0 (by omega)
  clear hr0 hc0 hl hi
  go_enter Tryz.func132, Tryz.ntmps132
  go_wp2_with (first
    | (go_at_call 85; refine hown.mono ?_; rintro e w' ⟨v, rfl, hr, hb⟩; obtain ⟨ad, cc, rfl⟩ := R_slice1 hr (by rw [List.length_map]; have := HI.out; omega); obtain ⟨g, rfl⟩ := Kd.R_head hr; rw [List.length_map] at hr ⊢; obtain ⟨m, hm⟩ : ∃ m, l0.length = m + 1 := ⟨l0.length - 1, by have := HI.out; omega⟩; rw [hm] at hr ⊢; have HD := Aside0.mk (delete85 g m cc (l0.map clr) i w.heap.size w' hr (by have := HI.out; omega) (by have := HL.out; omega) hb.size); have HB := Aside0.mk hb; clear hr hb hm)
    | (go_at_call 166; refine HD.out.mono ?_; rintro e w2 ⟨rfl, hr2, hb2⟩))
  go_ret
  exact ⟨_, rfl, hr2, HB.out.trans hb2⟩
end Go.Proofs.YtpeldaogdeefeaaGreat.M
/-! SFlat -/
namespace Go.Proofs.YtpeldaogdeefeaaGreat.M
open Go.RowKit Go.Proofs.YtpeldaogdeefeaaGreatW.PrintWords Go.Proofs.YtpeldaogdeefeaaGreatW.PrintLast Go.Proofs.YtpeldaogdeefeaaGreatW.PrintMore
set_option linter.unusedVariables false
set_option linter.unusedSimpArgs false
def flatF (xs : List S140) : List Value := xs.flatMap encF
theorem flatF_len (xs : List S140) : (flatF xs).length = xs.length * 6 := by
  induction xs with
  | nil => rfl
  | cons x xs ih => simp only [flatF, List.flatMap_cons, List.length_append] at *; rw [ih, encF_len, List.length_cons]; omega
theorem flatF_cons (x : S140) (xs : List S140) : flatF (x :: xs) = encF x ++ flatF xs := rfl
theorem flatF_append (xs ys : List S140) : flatF (xs ++ ys) = flatF xs ++ flatF ys := by
  unfold flatF
  rw [List.flatMap_append]
theorem flatF_drop (xs : List S140) (i : Nat) (h : i ≤ xs.length) : (flatF xs).drop (i * 6) = flatF (xs.drop i) := by
  have e : flatF xs = flatF (xs.take i) ++ flatF (xs.drop i) := by rw [← flatF_append, List.take_append_drop]
  have hl : (flatF (xs.take i)).length = i * 6 := by rw [flatF_len, List.length_take, Nat.min_eq_left h]
  rw [e, List.drop_left' hl]
theorem flatF_take (xs : List S140) (i : Nat) (h : i ≤ xs.length) : (flatF xs).take (i * 6) = flatF (xs.take i) := by
  have e : flatF xs = flatF (xs.take i) ++ flatF (xs.drop i) := by rw [← flatF_append, List.take_append_drop]
  have hl : (flatF (xs.take i)).length = i * 6 := by rw [flatF_len, List.length_take, Nat.min_eq_left h]
  rw [e, List.take_left' hl]
theorem flatF_one (xs : List S140) : ∀ u ∈ flatF xs, u.oneCell' = true := fun u hu => by
  obtain ⟨x, _, hx⟩ := List.mem_flatMap.1 hu
  exact encF_one x u hx
theorem flatF_at (xs : List S140) (j : Nat) (p : S140) (h : xs[j]? = some p) : ((flatF xs).drop (j * 6)).take 6 = encF p := by
  have hj : j < xs.length := (List.getElem?_eq_some_iff.1 h).1
  have hp : xs[j] = p := by rw [List.getElem?_eq_getElem hj] at h; exact Option.some.inj h
  rw [flatF_drop xs j (by omega), List.drop_eq_getElem_cons hj, flatF_cons, hp]
  exact List.take_left' (encF_len p)
theorem flat_of (R : S140 → List Value → Prop) (hR : ∀ p c, R p c → c = encF p) : ∀ {xs : List S140} {cs : List Value}, Reps R 6 xs cs → cs = flatF xs
  | [], cs, h => by
    have := h.1
    exact List.eq_nil_of_length_eq_zero (by rw [this]; rfl)
  | x :: xs, cs, h => by
    have h0 := hR _ _ (h.2 0 x rfl)
    have hl := h.1
    simp only [List.length_cons] at hl
    have ht : Reps R 6 xs (cs.drop 6) := ⟨by rw [List.length_drop, hl]; omega, fun j p hj => by
      have := h.2 (j + 1) p (by simpa using hj)
      rw [show (j + 1) * 6 = 6 + j * 6 by omega, ← List.drop_drop] at this
      exact this⟩
    have e := flat_of R hR ht
    have : cs = cs.take 6 ++ cs.drop 6 := (List.take_append_drop 6 cs).symm
    rw [this, e]
    simp only [Nat.zero_mul, List.drop_zero] at h0
    rw [h0]
    rfl
/-- An own row of sessions, opened: its block and cells. -/
theorem kF_open {w : World} {B : Nat} {ok : Nat → Prop} {v : Value} {xs : List S140} (h : Kd.R kF 140 w B ok v xs) (hp : 0 < xs.length) : (∀ x ∈ xs, x.f2.f2 = []) ∧ ∃ g c cur, v = .slice (some ⟨g, 0, none⟩) xs.length c ∧ B ≤ g ∧ w.heap[g]? = some (.cells cur 140 (0, 0)) ∧ xs.length ≤ c ∧ c ≤ maxLen ∧ cur.size = c * 6 ∧ cur.toList.take (xs.length * 6) = flatF xs := by
  obtain ⟨_, inner, ho, hr⟩ := h
  have e : inner = flatF xs := flat_of _ (fun p c hp => hp.2) hr
  refine ⟨fun x hx => ?_, ?_⟩
  · obtain ⟨j, hj, rfl⟩ := List.getElem_of_mem hx
    exact (hr.2 j _ (List.getElem?_eq_getElem hj)).1
  · rcases ho.2 with ⟨_, hz⟩ | ⟨g, c, cur, hv, hb, hh, h2, hcm, hcs, ht⟩
    · omega
    · exact ⟨g, c, cur, hv, hb, hh, h2, hcm, hcs, by rw [← e]; exact ht⟩
theorem kF_shut {w : World} {B g c : Nat} {xs : List S140} {cur : Array Value} (hn : ∀ x ∈ xs, x.f2.f2 = []) (hb : B ≤ g) (hh : w.heap[g]? = some (.cells cur 140 (0, 0))) (h2 : xs.length ≤ c) (hcm : c ≤ maxLen) (hcs : cur.size = c * 6) (ht : cur.toList.take (xs.length * 6) = flatF xs) :
    Kd.R kF 140 w B (fun _ => True) (.slice (some ⟨g, 0, none⟩) xs.length c) xs :=
  ⟨fun _ _ => trivial, flatF xs, ⟨flatF_len xs, .inr ⟨g, c, cur, rfl, hb, hh, h2, hcm, hcs, ht⟩⟩, ⟨flatF_len xs, fun j p hj => ⟨hn p (List.mem_of_getElem? hj), flatF_at xs j p hj⟩⟩⟩
theorem sizeOf140 (W : World) : (Go.sizeOf 140).run Tryz.prog W = .ok 6 W := by kernel_rfl
/-- copy into a row's block: k elements. -/
theorem copy_in (w : World) (ty : TypeId) (g o dLen dCap : Nat) (a : Addr) (sLen sCap k : Nat) (cur : Array Value) (cs : List Value) (hk : k = Nat.min sLen dLen) (hl : cs.length = k * 6) (hg : w.heap[g]? = some (.cells cur 140 (0, 0))) (hf : o + k * 6 ≤ cur.size)
    (hcs : ∀ j v, cs[j]? = some v → w.cell? (a.add j) = some v) (h1 : ∀ v ∈ cs, v.oneCell' = true) :
    (Builtin.copy_ #[58, 58] ty #[.slice (some ⟨g, o, none⟩) dLen dCap, .slice (some a) sLen sCap]).run Tryz.prog w = .ok (goInt k) (w.setRow g (cur.toList.take o ++ cs ++ cur.toList.drop (o + k * 6)).toArray) := by
  have hfc := run_firstCells_some (P := Tryz.prog) (w := w) 6 k a sLen sCap cs hl hcs
  have hst := run_storeCells_at Tryz.prog g o 140 cs 0 cur w hg (by omega) h1
  rw [Nat.add_zero, hl] at hst
  simp [Builtin.copy_, run_underlying Tryz.underlying58, sizeOf140, Builtin.lenOf, ← hk, hfc, hst]
end Go.Proofs.YtpeldaogdeefeaaGreat.M
/-! SLeast -/
namespace Go.Proofs.YtpeldaogdeefeaaGreat.M
open Go.RowKit Go.Proofs.YtpeldaogdeefeaaGreatW.PrintWords Go.Proofs.YtpeldaogdeefeaaGreatW.PrintLast Go.Proofs.YtpeldaogdeefeaaGreatW.PrintMore
set_option linter.unusedVariables false
set_option linter.unusedSimpArgs false
def leastTo (l : List S140) : Nat → Nat
  | 0 => 0
  | i + 1 => if (rd_T140 l (i : Int)).f3 < (rd_T140 l (leastTo l i : Int)).f3 then i else leastTo l i
theorem leastTo_le (l : List S140) : ∀ i, leastTo l i ≤ i
  | 0 => Nat.le_refl _
  | i + 1 => by
    have := leastTo_le l i
    unfold leastTo
    split <;> omega
set_option maxHeartbeats 4000000 in
set_option maxRecDepth 100000 in
theorem least64 (A0 : Option Addr) (c0 : Nat) (l0 : List S140) (w : World) (hr0 : Kd.C k140 w A0 l0.length l0) (hc0 : l0.length ≤ c0) (hl : l0.length ≤ 1000000) :
    Calls Tryz.prog 162 #[.slice A0 l0.length c0] w fun e w' => e = .returned (.int .i64 ((leastTo l0 l0.length : Nat) : Int)) ∧ Below w.heap.size w w' := by
  have HR0 := Aside0.mk hr0
  have HL := Aside0.mk hl
  have hu88 := Tryz.underlying140
  clear hr0 hl
  go_enter Tryz.func162, Tryz.ntmps162
  go_wp2_with fail
  go_loopg [3, 4, 5, 8] l0.length (fun kq v3 v4 v5 v8 w' => ∃ i at_ : Nat, Aside0 (i + kq = l0.length) ∧ Aside0 (at_ = leastTo l0 i) ∧ v8 = .int .i64 i ∧ v3 = .int .i64 at_ ∧ Aside0 (Below w.heap.size w w'))
  case atStart => exact ⟨0, 0, ⟨by omega⟩, ⟨rfl⟩, rfl, rfl, ⟨by repeat (first | exact Below.refl _ _ | apply pw_below_drewN | apply below_alloc)⟩⟩
  case round =>
    obtain ⟨i, at_, HIK, HAT, rfl, rfl, HB⟩ := hrel
    by_cases hlt : i < l0.length
    · have clt : decide ((i : Int) < (l0.length : Int)) = true := decide_eq_true (by omega)
      have clt2 : decide (i < l0.length) = true := decide_eq_true hlt
      have HLT := Aside0.mk hlt
      have E1 : Aside0 (wrap64 ((i : Int) + 1) = ((i + 1 : Nat) : Int)) := ⟨by have := HL.out; unfold wrap64; omega⟩
      have hal : at_ < l0.length := by have := leastTo_le l0 i; have := HAT.out; omega
      have p0 : (0 : Int) ≤ (i : Int) := Int.natCast_nonneg _
      have q0 : (i : Int) < (l0.length : Int) := Int.ofNat_lt.2 hlt
      have p1 : (0 : Int) ≤ (at_ : Int) := Int.natCast_nonneg _
      have q1 : (at_ : Int) < (l0.length : Int) := Int.ofNat_lt.2 hal
      obtain ⟨ad, A4, c4, e, x0, x1, x2, x3, x4, x5, l4, g4⟩ := at_T140 HR0.out (i : Int) p0 q0
      obtain ⟨ad', A4', c4', e', y0, y1, y2, y3, y4, y5, l4', g4'⟩ := at_T140 HR0.out (at_ : Int) p1 q1
      simp only [Int.toNat_natCast] at x0 x1 x2 x3 x4 x5 y5
      replace x0 := (HB.out.cell (World.block_lt_of_cell? w _ x0)).trans x0
      replace x1 := (HB.out.cell (World.block_lt_of_cell? w _ x1)).trans x1
      replace x2 := (HB.out.cell (World.block_lt_of_cell? w _ x2)).trans x2
      replace x3 := (HB.out.cell (World.block_lt_of_cell? w _ x3)).trans x3
      replace x4 := (HB.out.cell (World.block_lt_of_cell? w _ x4)).trans x4
      replace x5 := (HB.out.cell (World.block_lt_of_cell? w _ x5)).trans x5
      have e2 := e.symm.trans e'
      injection e2 with e2
      subst e2
      subst e
      have y5w := (HB.out.cell (World.block_lt_of_cell? w _ y5)).trans y5
      clear l4 g4 l4' g4' e' y0 y1 y2 y3 y4 y5 hlt hal
      replace p0 := eq_true p0
      replace q0 := eq_true q0
      replace p1 := eq_true p1
      replace q1 := eq_true q1
      by_cases hc : (rd_T140 l0 (i : Int)).f3 < (rd_T140 l0 (at_ : Int)).f3
      · have hcb : decide ((rd_T140 l0 (i : Int)).f3 < (rd_T140 l0 (at_ : Int)).f3) = true := decide_eq_true hc
        have HC := Aside0.mk hc
        clear hc
        have HN : Aside0 (i = leastTo l0 (i + 1)) := ⟨by unfold leastTo; rw [if_pos (by rw [← HAT.out]; exact HC.out)]⟩
        go_wp2_with fail
        obtain ⟨W5, hW5⟩ : ∃ W5, W5 = wr.alloc (.cells #[.int .i64 (rd_T140 l0 (i : Int)).f0, .int .i64 (rd_T140 l0 (i : Int)).f1, .int .i64 (rd_T140 l0 (i : Int)).f2.f0, .int .i64 (rd_T140 l0 (i : Int)).f2.f1, .slice A4 (rd_T140 l0 (i : Int)).f2.f2.length c4, .int .i64 (rd_T140 l0 (i : Int)).f3] 140) := ⟨_, rfl⟩
        rw [← hW5]
        have hb5 : Below wr.heap.size wr W5 := by rw [hW5]; exact below_alloc (Below.refl _ _) _
        have ya : W5.cell? ⟨wr.heap.size, 5, none⟩ = some (.int .i64 (rd_T140 l0 (i : Int)).f3) := by rw [hW5]; exact (blk_cell (blk_new wr _) 5).trans rfl
        have yb := (hb5.cell (World.block_lt_of_cell? wr _ y5w)).trans y5w
        have HB5 := Aside0.mk (below_step HB.out hb5)
        clear hW5 hb5 x0 x1 x2 x3 x4 x5 y5w
        generalize wr.heap.size = g5 at *
        generalize (rd_T140 l0 (i : Int)).f3 = ui at *
        generalize (rd_T140 l0 (at_ : Int)).f3 = ua at *
        go_quiet (fail)
        go_wp2_with fail
        go_roundg (l0.length - i - 1)
        case measure => have := HIK.out; have := HLT.out; omega
        case rel =>
          exact ⟨i + 1, i, ⟨by have := HIK.out; have := HLT.out; omega⟩, HN, by rw [E1.out], rfl, ⟨by repeat (first | exact HB5.out | apply pw_below_drewN)⟩⟩
      · have hcb : decide ((rd_T140 l0 (i : Int)).f3 < (rd_T140 l0 (at_ : Int)).f3) = false := decide_eq_false hc
        have HC := Aside0.mk hc
        clear hc
        have HN : Aside0 (at_ = leastTo l0 (i + 1)) := ⟨by unfold leastTo; rw [if_neg (by rw [← HAT.out]; exact HC.out)]; exact HAT.out⟩
        go_wp2_with fail
        obtain ⟨W5, hW5⟩ : ∃ W5, W5 = wr.alloc (.cells #[.int .i64 (rd_T140 l0 (i : Int)).f0, .int .i64 (rd_T140 l0 (i : Int)).f1, .int .i64 (rd_T140 l0 (i : Int)).f2.f0, .int .i64 (rd_T140 l0 (i : Int)).f2.f1, .slice A4 (rd_T140 l0 (i : Int)).f2.f2.length c4, .int .i64 (rd_T140 l0 (i : Int)).f3] 140) := ⟨_, rfl⟩
        rw [← hW5]
        have hb5 : Below wr.heap.size wr W5 := by rw [hW5]; exact below_alloc (Below.refl _ _) _
        have ya : W5.cell? ⟨wr.heap.size, 5, none⟩ = some (.int .i64 (rd_T140 l0 (i : Int)).f3) := by rw [hW5]; exact (blk_cell (blk_new wr _) 5).trans rfl
        have yb := (hb5.cell (World.block_lt_of_cell? wr _ y5w)).trans y5w
        have HB5 := Aside0.mk (below_step HB.out hb5)
        clear hW5 hb5 x0 x1 x2 x3 x4 x5 y5w
        generalize wr.heap.size = g5 at *
        generalize (rd_T140 l0 (i : Int)).f3 = ui at *
        generalize (rd_T140 l0 (at_ : Int)).f3 = ua at *
        go_quiet (fail)
        go_wp2_with fail
        go_roundg (l0.length - i - 1)
        case measure => have := HIK.out; have := HLT.out; omega
        case rel =>
          exact ⟨i + 1, at_, ⟨by have := HIK.out; have := HLT.out; omega⟩, HN, by rw [E1.out], rfl, ⟨by repeat (first | exact HB5.out | apply pw_below_drewN)⟩⟩
    · have clt : decide ((i : Int) < (l0.length : Int)) = false := decide_eq_false (by omega)
      have clt2 : decide (i < l0.length) = false := decide_eq_false hlt
      have hil : i = l0.length := by have := HIK.out; omega
      have HA : Aside0 (leastTo l0 l0.length = at_) := ⟨by rw [HAT.out, hil]⟩
      clear hil hlt
      go_wp2_with fail
      go_ret
      exact ⟨by rw [HA.out]; rfl, HB.out⟩
end Go.Proofs.YtpeldaogdeefeaaGreat.M
/-! SIns -/
namespace Go.Proofs.YtpeldaogdeefeaaGreat.M
open Go.RowKit Go.Proofs.YtpeldaogdeefeaaGreatW.PrintWords Go.Proofs.YtpeldaogdeefeaaGreatW.PrintLast Go.Proofs.YtpeldaogdeefeaaGreatW.PrintMore
set_option linter.unusedVariables false
set_option linter.unusedSimpArgs false
theorem lit_reads {w : World} {vb : Nat} {x : S140} (hx : x.f2.f2 = []) (hv : w.heap[vb]? = some (.cells (encF x).toArray 140 (0, 0))) : ReadsRow (fun y cs => y.f2.f2 = [] ∧ cs = encF y) 6 w (some ⟨vb, 0, none⟩) 1 [x] := by
  refine ⟨rfl, by decide, fun _ => ⟨⟨vb, 0, none⟩, rfl, fun j p hj => ?_⟩⟩
  match j, hj with
  | 0, hj =>
    simp at hj
    subst hj
    refine ⟨encF x, rfl, ⟨hx, rfl⟩, fun i u hu => ?_⟩
    rw [add_plain, Nat.zero_mul, Nat.zero_add, blk_cell hv i]
    simpa using hu
  | j + 1, hj => simp at hj
set_option maxHeartbeats 4000000 in
set_option maxRecDepth 100000 in
theorem insert_end (A : Option Addr) (c : Nat) (xs : List S140) (x : S140) (vb B : Nat) (w : World) (h : Kd.R kF 140 w B (fun _ => True) (.slice A xs.length c) xs) (hx : x.f2.f2 = []) (hv : w.heap[vb]? = some (.cells (encF x).toArray 140 (0, 0))) (hn : xs.length ≤ 1000000) (hB : B ≤ w.heap.size) :
    Calls Tryz.prog 163 #[.slice A xs.length c, .int .i64 xs.length, .slice (some ⟨vb, 0, none⟩) 1 1] w fun e w' => ∃ v, e = .returned v ∧ Kd.R kF 140 w' B (fun _ => True) v (xs ++ [x]) ∧ Below B w w' := by
  obtain ⟨_, hnc, _⟩ := Kd.R_reads' h
  have HR := Aside0.mk h
  have HV := Aside0.mk (lit_reads hx hv)
  have HB := Aside0.mk hB
  have HL : Aside0 ((xs.length + 1) * 64 ≤ 140737488355328) := ⟨by omega⟩
  have p1 : (0 : Int) ≤ (xs.length : Int) := Int.natCast_nonneg _
  clear h hv hn hB
  generalize hnn : xs.length = n at *
  clear hnn
  go_enter Tryz.func163, Tryz.ntmps163
  go_wp2_with ((with_reducible refine gate_builtin (b := .append) (xs := #[.tmp 23, .tmp 24]) rfl ?_); at_builtin; refine Kd.R_append_rows kF (w0 := w) B rfl (.tmp 23) (.tmp 24) 58 140 (.agg #[(.int .i64 0), (.int .i64 0), (.int .i64 0), (.int .i64 0), (.slice none 0 0), (.int .i64 0)]) 64 rfl Tryz.underlying58 info140 rfl (by decide) (by omega) (.slice A n c) xs [x] (some ⟨vb, 0, none⟩) 1 1 (fun _ => True) (fun _ => False) rfl rfl HR.out HV.out (fun _ _ h => h) (fun _ h => h.elim) (fun _ _ => trivial) (Below.refl _ _) HB.out ?hl ?_; (case hl => have := HL.out; have := (Kd.R_reads' HR.out).1; omega); intro v1 w9 hr hb hg hat; have HR9 := Aside0.mk hr; have HB9 := Aside0.mk hb; obtain ⟨A9, c9, rfl⟩ := Kd.R_slice hr; clear hr hb hg hat)
  all_goals (go_ret; exact ⟨.slice A9 (xs ++ [x]).length c9, by rw [List.length_append]; rfl, HR9.out, HB9.out⟩)
end Go.Proofs.YtpeldaogdeefeaaGreat.M
/-! SIns2 -/
namespace Go.Proofs.YtpeldaogdeefeaaGreat.M
open Go.RowKit Go.Proofs.YtpeldaogdeefeaaGreatW.PrintWords Go.Proofs.YtpeldaogdeefeaaGreatW.PrintLast Go.Proofs.YtpeldaogdeefeaaGreatW.PrintMore
set_option linter.unusedVariables false
set_option linter.unusedSimpArgs false
theorem shift_cells {α : Type} (L F e : List α) (a N : Nat) (hF : L.take N = F) (hN : N ≤ L.length) (ha : a ≤ N) (he : e.length = 6) (hl : N + 6 ≤ L.length) (L1 : List α) (h1 : L1 = L.take (a + 6) ++ F.drop a ++ L.drop (a + 6 + (N - a))) :
    (L1.take a ++ e ++ L1.drop (a + 6)).length = L.length ∧ (L1.take a ++ e ++ L1.drop (a + 6)).take (N + 6) = F.take a ++ e ++ F.drop a ∧ L1.length = L.length := by
  have hFl : F.length = N := by rw [← hF, List.length_take]; omega
  have hl1 : (L.take (a + 6)).length = a + 6 := by rw [List.length_take]; omega
  have e1 : L1.take a = F.take a := by
    rw [h1, List.append_assoc, List.take_append_of_le_length (by rw [hl1]; omega), List.take_take, Nat.min_eq_left (by omega), ← hF, List.take_take, Nat.min_eq_left ha]
  have e2 : L1.drop (a + 6) = F.drop a ++ L.drop (a + 6 + (N - a)) := by
    rw [h1, List.append_assoc, List.drop_left' hl1]
  have hta : (F.take a).length = a := by rw [List.length_take]; omega
  have htd : (F.drop a).length = N - a := by rw [List.length_drop]; omega
  refine ⟨?_, ?_, ?_⟩
  · rw [e1, e2]
    simp only [List.length_append, hta, htd, he, List.length_drop]
    omega
  · rw [e1, e2, ← List.append_assoc]
    exact List.take_left' (by simp only [List.length_append, hta, htd, he]; omega)
  · rw [h1]
    simp only [List.length_append, hl1, htd, List.length_drop]
    omega
theorem over86 (w : World) (vb g lb cb la ca oa : Nat) (cv cur : Array Value) (hne : vb ≠ g) (hv : w.heap[vb]? = some (.cells cv 140 (0, 0))) (hg : w.heap[g]? = some (.cells cur 140 (0, 0))) (hc : cur.size ≠ 0) :
    (callFunc 215 #[.slice (some ⟨vb, 0, none⟩) la ca, .slice (some ⟨g, oa, none⟩) lb cb]).run Tryz.prog w = .ok (.value (.bool false)) w := by
  rw [run_callFunc_extern Tryz.func215 (by kernel_rfl) (by kernel_rfl) (by kernel_rfl) (e := Extern.SlicesOverlaps.overlaps #[58, 58] #[4]) (by kernel_rfl),
      Lib.run_overlaps_apart w 58 4 140 Tryz.underlying58 6 sizeOf140 ⟨vb, 0, none⟩ ⟨g, oa, none⟩ la ca lb cb hne 140 140 cv.size cur.size (by simp [World.shape?, hv]) (by simp [World.shape?, hg]) hc (blk_frozen hv 0) (blk_frozen hv _)]
  rfl
end Go.Proofs.YtpeldaogdeefeaaGreat.M
/-! SIns3 -/
namespace Go.Proofs.YtpeldaogdeefeaaGreat.M
open Go.RowKit Go.Proofs.YtpeldaogdeefeaaGreatW.PrintWords Go.Proofs.YtpeldaogdeefeaaGreatW.PrintLast Go.Proofs.YtpeldaogdeefeaaGreatW.PrintMore
set_option linter.unusedVariables false
set_option linter.unusedSimpArgs false
theorem wpList_copy_run (w : World) {ops : Array Oper} {rest : List Oper} {o : Oper} {a : Act} {Q : Exit → Act → World → Prop} (hgd : o.guard = none) (d s : Operand) (t t' : TypeId)
    (ho : o.op = .call { callee := .builtin .copy, args := #[d, s], argTypes := #[t, t'] }) (v u : Value) (hd : a.eval d = v) (hs : a.eval s = u) {v' : Value} {w' : World}
    (hr : (Builtin.copy_ #[t, t'] o.type #[v, u]).run Tryz.prog w = .ok v' w') (h : wpList Tryz.prog ops Q rest (a.put o.dst v') w') : wpList Tryz.prog ops Q (o :: rest) a w :=
  wpList_plain hgd fun _ hK => by
    unfold Oper.wp execOp
    simp only [ho, resolve, invoke, builtin, Sem.run_bind, Sem.run_pure, Result.andThen_ok, List.map_toArray, List.map_cons, List.map_nil, hd, hs, hr]
    exact hK _ _ h
theorem wr64' (n : Nat) (h : n ≤ 1000000) : wrap64 ((n : Int) + 1) = (n : Int) + 1 := by unfold wrap64; omega
set_option maxHeartbeats 1000000 in
set_option maxRecDepth 100000 in
theorem insert_shift (A : Option Addr) (c : Nat) (xs : List S140) (i : Nat) (x : S140) (vb B : Nat) (w : World) (h : Kd.R kF 140 w B (fun _ => True) (.slice A xs.length c) xs) (hx : x.f2.f2 = []) (hv : w.heap[vb]? = some (.cells (encF x).toArray 140 (0, 0))) (hvb : (Value.slice A xs.length c).ownBlock ≠ some vb) (hn : xs.length ≤ 1000000) (hB : B ≤ w.heap.size) (hi : i < xs.length) (hc : xs.length + 1 ≤ c) :
    Calls Tryz.prog 163 #[.slice A xs.length c, .int .i64 i, .slice (some ⟨vb, 0, none⟩) 1 1] w fun e w' => ∃ v, e = .returned v ∧ Kd.R kF 140 w' B (fun _ => True) v (xs.take i ++ [x] ++ xs.drop i) ∧ Below B w w' := by
  obtain ⟨hh, g, c', cur, hvv, hbg, hg, h2, hcm, hcs, ht⟩ := kF_open h (by omega)
  injection hvv with ha _ hcc
  subst ha
  subst hcc
  have hne : vb ≠ g := fun e => hvb (by rw [e]; rfl)
  obtain ⟨F, hF⟩ : ∃ F, F = flatF xs := ⟨_, rfl⟩
  have hFl : F.length = xs.length * 6 := by rw [hF]; exact flatF_len xs
  obtain ⟨L1, hL1⟩ : ∃ L1, L1 = cur.toList.take (i * 6 + 6) ++ F.drop (i * 6) ++ cur.toList.drop (i * 6 + 6 + (xs.length * 6 - i * 6)) := ⟨_, rfl⟩
  have hcl : cur.toList.length = c * 6 := by rw [Array.length_toList]; exact hcs
  obtain ⟨s1, s2, s3⟩ := shift_cells cur.toList F (encF x) (i * 6) (xs.length * 6) (by rw [hF]; exact ht) (by rw [hcl]; omega) (by omega) rfl (by rw [hcl]; omega) L1 hL1
  have hW1 : w.drew.heap[g]? = some (.cells cur 140 (0, 0)) := hg
  have hc1 : ∀ ty dc sc, (Builtin.copy_ #[58, 58] ty #[.slice (some ⟨g, (i + 1) * 6, none⟩) (xs.length + 1 - (i + 1)) dc, .slice (some ⟨g, i * 6, none⟩) (xs.length + 1 - i) sc]).run Tryz.prog w.drew = .ok (goInt (xs.length - i : Nat)) (w.drew.setRow g L1.toArray) := fun ty dc sc => by
    have := copy_in w.drew ty g ((i + 1) * 6) (xs.length + 1 - (i + 1)) dc ⟨g, i * 6, none⟩ (xs.length + 1 - i) sc (xs.length - i) cur (F.drop (i * 6)) (by simp only [Nat.min_def]; split <;> omega) (by rw [List.length_drop, hFl]; omega) hW1 (by rw [hcs]; omega)
      (fun j v hj => by
        rw [add_at, blk_cell hW1, ← Array.getElem?_toList]
        rw [List.getElem?_drop] at hj
        have hlt : i * 6 + j < xs.length * 6 := by have := (List.getElem?_eq_some_iff.1 hj).1; omega
        rw [hF, ← ht, List.getElem?_take_of_lt hlt] at hj
        exact hj) (fun v hv2 => flatF_one xs v (by rw [← hF]; exact List.mem_of_mem_drop hv2))
    rw [this, hL1, show (i + 1) * 6 = i * 6 + 6 by omega, show i * 6 + 6 + (xs.length - i) * 6 = i * 6 + 6 + (xs.length * 6 - i * 6) by omega]
  have hW2 : (w.drew.setRow g L1.toArray).heap[g]? = some (.cells L1.toArray 140 (0, 0)) := setRow_heap w.drew g cur _ 140 _ hW1
  have hV2 : (w.drew.setRow g L1.toArray).heap[vb]? = some (.cells (encF x).toArray 140 (0, 0)) := (setRow_other w.drew g vb _ hne).trans hv
  have hc2 : ∀ ty dc, (Builtin.copy_ #[58, 58] ty #[.slice (some ⟨g, i * 6, none⟩) (xs.length + 1 - i) dc, .slice (some ⟨vb, 0, none⟩) 1 1]).run Tryz.prog (w.drew.setRow g L1.toArray) = .ok (goInt (1 : Nat)) ((w.drew.setRow g L1.toArray).setRow g (L1.take (i * 6) ++ encF x ++ L1.drop (i * 6 + 6)).toArray) := fun ty dc => by
    exact copy_in (w.drew.setRow g L1.toArray) ty g (i * 6) (xs.length + 1 - i) dc ⟨vb, 0, none⟩ 1 1 1 L1.toArray (encF x) (by simp only [Nat.min_def]; split <;> omega) rfl hW2 (by rw [List.size_toArray, s3, hcl]; omega)
      (fun j v hj => by
        rw [add_at, blk_cell hV2]
        simpa using hj) (encF_one x)
  obtain ⟨W3, hW3⟩ : ∃ W3, W3 = (w.drew.setRow g L1.toArray).setRow g (L1.take (i * 6) ++ encF x ++ L1.drop (i * 6 + 6)).toArray := ⟨_, rfl⟩
  rw [← hW3] at hc2
  have hlen : (xs.take i ++ [x] ++ xs.drop i).length = xs.length + 1 := by simp only [List.length_append, List.length_take, List.length_drop, List.length_singleton]; omega
  have hR : Kd.R kF 140 W3 B (fun _ => True) (.slice (some ⟨g, 0, none⟩) (xs.take i ++ [x] ++ xs.drop i).length c) (xs.take i ++ [x] ++ xs.drop i) := by
    refine kF_shut (fun y hy => ?_) hbg (by rw [hW3]; exact setRow_heap _ g _ _ 140 _ hW2) (by rw [hlen]; exact hc) hcm (by rw [List.size_toArray, s1, hcl]) ?_
    · rcases List.mem_append.1 hy with hy | hy
      · rcases List.mem_append.1 hy with hy | hy
        · exact hh y (List.mem_of_mem_take hy)
        · rw [List.mem_singleton.1 hy]; exact hx
      · exact hh y (List.mem_of_mem_drop hy)
    · show (L1.take (i * 6) ++ encF x ++ L1.drop (i * 6 + 6)).take _ = _
      rw [hlen, show (xs.length + 1) * 6 = xs.length * 6 + 6 by omega, s2, flatF_append, flatF_append, hF, flatF_take xs i (by omega), flatF_drop xs i (by omega)]
      rfl
  have hBW : Below B w W3 := by
    rw [hW3]
    refine ⟨rfl, rfl, rfl, by rw [setRow_size, setRow_size]; exact Nat.le_refl _, fun k hk => ?_⟩
    have hkg : k ≠ g := by omega
    exact (setRow_other _ g k _ hkg).trans (setRow_other w.drew g k _ hkg)
  have hov : ∀ lb cb, (callFunc 215 #[.slice (some ⟨vb, 0, none⟩) 1 1, .slice (some ⟨g, (i + 1) * 6, none⟩) lb cb]).run Tryz.prog w = .ok (.value (.bool false)) w := fun lb cb => over86 w vb g lb cb 1 1 _ _ cur hne hv hg (by rw [hcs]; omega)
  have HR := Aside0.mk hR
  have HBW := Aside0.mk hBW
  have HLEN := Aside0.mk hlen
  clear hR hBW hlen s1 s2 s3 hL1 hFl hF ht hcl hW1 hW2 hV2 hW3 h hx hv hvb hbg hg h2 hcm hcs hh hB
  generalize xs.take i ++ [x] ++ xs.drop i = ys at *
  generalize xs.length = n at *
  generalize w.drew.setRow g L1.toArray = W2 at *
  have p0 : (0 : Int) ≤ (i : Int) := Int.natCast_nonneg _
  have p1 : (i : Int) ≤ (n : Int) := by omega
  have p2 : ((i : Int) == (n : Int)) = false := by simp; omega
  have p3 : (i == n) = false := by simp; omega
  have p4 : ¬ (i = n) := by omega
  have p5 : wrap64 ((n : Int) + 1) = (n : Int) + 1 := wr64' n hn
  have p6 : wrap64 ((i : Int) + 1) = (i : Int) + 1 := wr64' i (by omega)
  have p7 : ¬ ((n : Int) + 1 > (c : Int)) := by clear p5 p6; omega
  have p8 : decide ((n : Int) + 1 > (c : Int)) = false := decide_eq_false p7
  have p9 : (n : Int) + 1 ≤ (c : Int) := by clear p5 p6; omega
  have p10 : (0 : Int) ≤ (n : Int) + 1 := by clear p5 p6; omega
  have p11 : (0 : Int) ≤ (i : Int) + 1 := by clear p5 p6; omega
  have p12 : ((n : Int) + 1).toNat = n + 1 := by clear p5 p6; omega
  have p13 : ((i : Int) + 1).toNat = i + 1 := by clear p5 p6; omega
  have p14 : (i : Int) + 1 ≤ (n : Int) + 1 := by clear p5 p6; omega
  have p15 : (i : Int) ≤ (n : Int) + 1 := by clear p5 p6; omega
  have p16 : ¬ (c = i) := by clear p5 p6; omega
  have p17 : ¬ (c = i + 1) := by clear p5 p6; omega
  have p18 : i ≤ n := by clear p5 p6; omega
  have p19 : i ≤ n + 1 := by clear p5 p6; omega
  have p20 : ¬ (c < n + 1) := by clear p5 p6; omega
  have p6w : IntKind.i64.wrap ((i : Int) + 1) = (i : Int) + 1 := (i64_w _).trans p6
  have p5w : IntKind.i64.wrap ((n : Int) + 1) = (n : Int) + 1 := (i64_w _).trans p5
  have p21 : (i : Int) + 1 ≤ ((n + 1 : Nat) : Int) := by clear p5 p6 p5w p6w; omega
  have p22 : ((n + 1 : Nat) : Int) ≤ (c : Int) := by clear p5 p6 p5w p6w; omega
  have p23 : (i : Int) ≤ ((n + 1 : Nat) : Int) := by clear p5 p6 p5w p6w; omega
  have p24 : i + 1 ≤ n + 1 := by clear p5 p6 p5w p6w; omega
  have p25 : n + 1 ≤ c := by clear p5 p6 p5w p6w; omega
  simp only [Nat.add_sub_add_right] at hc1
  go_enter Tryz.func163, Tryz.ntmps163
  go_wp2_with (simp only [hov])
  go_still_tail 8, (by kernel_rfl)
  change wpList _ _ _ _ _ w.drew
  refine wpList_copy_run w.drew rfl (.tmp 73) (.tmp 76) 58 58 rfl _ _ rfl rfl (hc1 _ _ _) ?_
  go_wp2_with (at_builtin; refine wpList_copy_run W2 rfl _ _ 58 58 rfl _ _ rfl rfl (hc2 _ _) ?_)
  all_goals (go_ret; exact ⟨.slice (some ⟨g, 0, none⟩) ys.length c, by rw [HLEN.out]; rfl, HR.out, HBW.out⟩)
end Go.Proofs.YtpeldaogdeefeaaGreat.M
/-! SIns4 -/
namespace Go.Proofs.YtpeldaogdeefeaaGreat.M
open Go.RowKit Go.Proofs.YtpeldaogdeefeaaGreatW.PrintWords Go.Proofs.YtpeldaogdeefeaaGreatW.PrintLast Go.Proofs.YtpeldaogdeefeaaGreatW.PrintMore
set_option linter.unusedVariables false
set_option linter.unusedSimpArgs false
theorem grow_cells {α : Type} (RL F e : List α) (a N : Nat) (hF : F.length = N) (ha : a ≤ N) (he : e.length = 6) (hl : N + 6 ≤ RL.length) (hR : RL.take a = F.take a) (L1 : List α) (h1 : L1 = RL.take a ++ e ++ RL.drop (a + 6)) :
    L1.length = RL.length ∧ (L1.take (a + 6) ++ F.drop a ++ L1.drop (a + 6 + (N - a))).length = RL.length ∧ (L1.take (a + 6) ++ F.drop a ++ L1.drop (a + 6 + (N - a))).take (N + 6) = F.take a ++ e ++ F.drop a := by
  have hta : (RL.take a).length = a := by rw [List.length_take]; omega
  have hl1 : L1.length = RL.length := by
    rw [h1]
    simp only [List.length_append, hta, he, List.length_drop]
    omega
  have e1 : L1.take (a + 6) = F.take a ++ e := by
    rw [h1, hR]
    exact List.take_left' (by rw [List.length_append, List.length_take, he]; omega)
  have hft : (F.take a).length = a := by rw [List.length_take]; omega
  refine ⟨hl1, ?_, ?_⟩
  · rw [e1]
    simp only [List.length_append, hft, he, List.length_drop, hl1]
    omega
  · rw [e1]
    exact List.take_left' (by simp only [List.length_append, hft, he, List.length_drop]; omega)
theorem zerosK_len (k : Nat) : (Builtin.zeroCells (Value.agg #[(.int .i64 0), (.int .i64 0), (.int .i64 0), (.int .i64 0), (.slice none 0 0), (.int .i64 0)]).cells k).size = k * 6 := by
  simp [Builtin.zeroCells, Value.cells]
end Go.Proofs.YtpeldaogdeefeaaGreat.M
/-! SIns5 -/
namespace Go.Proofs.YtpeldaogdeefeaaGreat.M
open Go.RowKit Go.Proofs.YtpeldaogdeefeaaGreatW.PrintWords Go.Proofs.YtpeldaogdeefeaaGreatW.PrintLast Go.Proofs.YtpeldaogdeefeaaGreatW.PrintMore
set_option linter.unusedVariables false
set_option linter.unusedSimpArgs false
def zv140 : Value := .agg #[(.int .i64 0), (.int .i64 0), (.int .i64 0), (.int .i64 0), (.slice none 0 0), (.int .i64 0)]
set_option maxHeartbeats 1000000 in
set_option maxRecDepth 100000 in
theorem insert_grow (A : Option Addr) (c : Nat) (xs : List S140) (i : Nat) (x : S140) (vb B : Nat) (w : World) (h : Kd.R kF 140 w B (fun _ => True) (.slice A xs.length c) xs) (hx : x.f2.f2 = []) (hv : w.heap[vb]? = some (.cells (encF x).toArray 140 (0, 0))) (hn : xs.length ≤ 1000000) (hB : B ≤ w.heap.size) (hi : i < xs.length) (hc : c < xs.length + 1) :
    Calls Tryz.prog 163 #[.slice A xs.length c, .int .i64 i, .slice (some ⟨vb, 0, none⟩) 1 1] w fun e w' => ∃ v, e = .returned v ∧ Kd.R kF 140 w' B (fun _ => True) v (xs.take i ++ [x] ++ xs.drop i) ∧ Below B w w' := by
  obtain ⟨hh, g, c', cur, hvv, hbg, hg, h2, hcm, hcs, ht⟩ := kF_open h (by omega)
  injection hvv with ha _ hcc
  subst ha
  subst hcc
  have hgl : g < w.heap.size := blk_lt hg
  have hvl : vb < w.heap.size := blk_lt hv
  obtain ⟨F, hF⟩ : ∃ F, F = flatF xs := ⟨_, rfl⟩
  have hFl : F.length = xs.length * 6 := by rw [hF]; exact flatF_len xs
  obtain ⟨G, hG⟩ : ∃ G, G = grownCap w (xs.length + 1) c 140 := ⟨_, rfl⟩
  have hGn : xs.length + 1 ≤ G := by rw [hG]; exact grownCap_ge w _ _ _
  have hGm : G ≤ maxLen := by
    have := grownCap_le_maxLen w (xs.length + 1) c 140 (by unfold maxLen; omega)
    rw [← hG] at this
    exact this
  obtain ⟨i0, hi0, hz0, hzs, hzb⟩ := info_parts info140
  have hcell : ∀ j v, F[j]? = some v → w.cell? ⟨g, j, none⟩ = some v := fun j v hj => by
    rw [blk_cell hg, ← Array.getElem?_toList]
    have hlt : j < xs.length * 6 := by have := (List.getElem?_eq_some_iff.1 hj).1; omega
    rw [hF, ← ht, List.getElem?_take_of_lt hlt] at hj
    exact hj
  have hold : (Builtin.firstCells i0.size i (.slice (some ⟨g, 0, none⟩) i c)).run Tryz.prog w.drew = .ok (F.take (i * 6)).toArray w.drew := by
    rw [hzs]
    exact run_firstCells_some (P := Tryz.prog) (w := w.drew) 6 i ⟨g, 0, none⟩ i c (F.take (i * 6)) (by rw [List.length_take]; omega) (fun j v hj => by
      rw [add_plain]
      exact hcell j v (by rw [List.getElem?_take] at hj; split at hj; exact hj; cases hj))
  obtain ⟨ROW, hROW⟩ : ∃ ROW : Array Value, ROW = (F.take (i * 6)).toArray ++ Builtin.zeroCells zv140.cells (xs.length + 1 - i) ++ Builtin.zeroCells zv140.cells (G - (xs.length + 1)) := ⟨_, rfl⟩
  have hRs : ROW.size = G * 6 := by
    have hz1 : ∀ k, (Builtin.zeroCells zv140.cells k).size = k * 6 := fun k => zerosK_len k
    rw [hROW, Array.size_append, Array.size_append, List.size_toArray, List.length_take, hz1, hz1]
    omega
  have hRt : ROW.toList.take (i * 6) = F.take (i * 6) := by
    rw [hROW]
    simp only [Array.toList_append, List.append_assoc]
    exact List.take_left' (by rw [List.length_take]; omega)
  obtain ⟨W1, hW1⟩ : ∃ W1, W1 = w.drew.alloc (.cells ROW 140) := ⟨_, rfl⟩
  have hrz : ∀ ty, (Builtin.append_ #[58, 3] ty #[.slice (some ⟨g, 0, none⟩) i c, .int .i64 ((xs.length : Int) + 1 - (i : Int))]).run Tryz.prog w = .ok (.slice (some ⟨w.heap.size, 0, none⟩) (xs.length + 1) G) W1 := fun ty => by
    have := Lib.run_append_grow_zeros w 58 3 ty 140 i0 _ .i64 .i64 Tryz.underlying58 Tryz.underlying3 hi0 hz0 (some ⟨g, 0, none⟩) i c (F.take (i * 6)) hold (xs.length + 1 - i) (by omega) (by rw [hzs]; omega) (by omega) (by omega) (by rw [hzb]; omega) (by rw [hzb]; exact growslice_fits (by omega) (by omega))
    rw [show i + (xs.length + 1 - i) = xs.length + 1 by omega, ← hG] at this
    rw [show (xs.length : Int) + 1 - (i : Int) = ((xs.length + 1 - i : Nat) : Int) by omega, hW1, hROW]
    exact this
  obtain ⟨L1, hL1⟩ : ∃ L1, L1 = ROW.toList.take (i * 6) ++ encF x ++ ROW.toList.drop (i * 6 + 6) := ⟨_, rfl⟩
  have hRl : ROW.toList.length = G * 6 := by rw [Array.length_toList]; exact hRs
  obtain ⟨s1, s2, s3⟩ := grow_cells ROW.toList F (encF x) (i * 6) (xs.length * 6) hFl (by omega) rfl (by rw [hRl]; omega) hRt L1 hL1
  obtain ⟨L2, hL2⟩ : ∃ L2, L2 = L1.take (i * 6 + 6) ++ F.drop (i * 6) ++ L1.drop (i * 6 + 6 + (xs.length * 6 - i * 6)) := ⟨_, rfl⟩
  rw [← hL2] at s2 s3
  have hN1 : W1.heap[w.heap.size]? = some (.cells ROW 140 (0, 0)) := by rw [hW1]; exact blk_new w.drew _
  have hV1 : W1.heap[vb]? = some (.cells (encF x).toArray 140 (0, 0)) := by rw [hW1]; exact blk_alloc (w := w.drew) hv _
  have hg1 : W1.heap[g]? = some (.cells cur 140 (0, 0)) := by rw [hW1]; exact blk_alloc (w := w.drew) hg _
  obtain ⟨N, hN⟩ : ∃ N, N = w.heap.size := ⟨_, rfl⟩
  have hb1 : Below w.heap.size w W1 := by rw [hW1]; exact below_alloc (W := w.drew) (below_drew (Below.refl _ _)) _
  rw [← hN] at hN1 hrz
  have hng : g ≠ N := by omega
  have hnv : vb ≠ N := by omega
  obtain ⟨W2, hW2⟩ : ∃ W2, W2 = W1.setRow N L1.toArray := ⟨_, rfl⟩
  have hcA : ∀ ty dc, (Builtin.copy_ #[58, 58] ty #[.slice (some ⟨N, i * 6, none⟩) (xs.length + 1 - i) dc, .slice (some ⟨vb, 0, none⟩) 1 1]).run Tryz.prog W1 = .ok (goInt (1 : Nat)) W2 := fun ty dc => by
    rw [hW2, hL1]
    exact copy_in W1 ty N (i * 6) (xs.length + 1 - i) dc ⟨vb, 0, none⟩ 1 1 1 ROW (encF x) (by simp only [Nat.min_def]; split <;> omega) rfl hN1 (by rw [hRs]; omega)
      (fun j v hj => by
        rw [add_at, blk_cell hV1]
        simpa using hj) (encF_one x)
  have hN2 : W2.drew.heap[N]? = some (.cells L1.toArray 140 (0, 0)) := by rw [hW2]; exact setRow_heap W1 N ROW _ 140 _ hN1
  have hg2 : W2.drew.heap[g]? = some (.cells cur 140 (0, 0)) := by rw [hW2]; exact (setRow_other W1 N g _ hng).trans hg1
  obtain ⟨W3, hW3⟩ : ∃ W3, W3 = W2.drew.setRow N L2.toArray := ⟨_, rfl⟩
  have hcB : ∀ ty dc sc, (Builtin.copy_ #[58, 58] ty #[.slice (some ⟨N, (i + 1) * 6, none⟩) (xs.length + 1 - (i + 1)) dc, .slice (some ⟨g, i * 6, none⟩) (xs.length - i) sc]).run Tryz.prog W2.drew = .ok (goInt (xs.length - i : Nat)) W3 := fun ty dc sc => by
    have := copy_in W2.drew ty N ((i + 1) * 6) (xs.length + 1 - (i + 1)) dc ⟨g, i * 6, none⟩ (xs.length - i) sc (xs.length - i) L1.toArray (F.drop (i * 6)) (by simp only [Nat.min_def]; split <;> omega) (by rw [List.length_drop, hFl]; omega) hN2 (by rw [List.size_toArray, s1, hRl]; omega)
      (fun j v hj => by
        rw [add_at, blk_cell hg2, ← Array.getElem?_toList]
        rw [List.getElem?_drop] at hj
        have hlt : i * 6 + j < xs.length * 6 := by have := (List.getElem?_eq_some_iff.1 hj).1; omega
        rw [hF, ← ht, List.getElem?_take_of_lt hlt] at hj
        exact hj) (fun v hv2 => flatF_one xs v (by rw [← hF]; exact List.mem_of_mem_drop hv2))
    rw [this, hW3, hL2, show (i + 1) * 6 = i * 6 + 6 by omega, show i * 6 + 6 + (xs.length - i) * 6 = i * 6 + 6 + (xs.length * 6 - i * 6) by omega]
  have hlen : (xs.take i ++ [x] ++ xs.drop i).length = xs.length + 1 := by simp only [List.length_append, List.length_take, List.length_drop, List.length_singleton]; omega
  have hR : Kd.R kF 140 W3 B (fun _ => True) (.slice (some ⟨N, 0, none⟩) (xs.take i ++ [x] ++ xs.drop i).length G) (xs.take i ++ [x] ++ xs.drop i) := by
    refine kF_shut (fun y hy => ?_) (by omega) (by rw [hW3]; exact setRow_heap _ N _ _ 140 _ hN2) (by rw [hlen]; exact hGn) hGm (by rw [List.size_toArray, s2, hRl]) ?_
    · rcases List.mem_append.1 hy with hy | hy
      · rcases List.mem_append.1 hy with hy | hy
        · exact hh y (List.mem_of_mem_take hy)
        · rw [List.mem_singleton.1 hy]; exact hx
      · exact hh y (List.mem_of_mem_drop hy)
    · show L2.take _ = _
      rw [hlen, show (xs.length + 1) * 6 = xs.length * 6 + 6 by omega, s3, flatF_append, flatF_append, hF, flatF_take xs i (by omega), flatF_drop xs i (by omega)]
      rfl
  have hBW : Below B w W3 := by
    have hb3 : Below w.heap.size w W3 := by
      rw [hW3, hW2]
      refine ⟨hb1.os, hb1.tape, hb1.output, by rw [setRow_size]; show w.heap.size ≤ (W1.setRow N L1.toArray).heap.size; rw [setRow_size]; exact hb1.size, fun k hk => ?_⟩
      have hkN : k ≠ N := by omega
      exact (setRow_other _ N k _ hkN).trans ((setRow_other W1 N k _ hkN).trans (hb1.block k hk))
    exact ⟨hb3.os, hb3.tape, hb3.output, hb3.size, fun k hk => hb3.block k (by omega)⟩
  have HR := Aside0.mk hR
  have HBW := Aside0.mk hBW
  have HLEN := Aside0.mk hlen
  have hGN := hGn
  clear hR hBW hlen s1 s2 s3 hL1 hL2 hFl hF ht hRl hRs hRt hN1 hV1 hg1 hN2 hg2 hW1 hW2 hW3 h hx hv hbg hg hcs hh hB hROW hold hcell hi0 hz0 hzs hzb hG hGm hb1 hN hng hnv hgl hvl
  simp only [Nat.add_sub_add_right] at hcB
  generalize xs.take i ++ [x] ++ xs.drop i = ys at *
  generalize xs.length = n at *
  have p0 : (0 : Int) ≤ (i : Int) := Int.natCast_nonneg _
  have p1 : (i : Int) ≤ (n : Int) := by omega
  have p2 : ((i : Int) == (n : Int)) = false := by simp; omega
  have p3 : (i == n) = false := by simp; omega
  have p4 : ¬ (i = n) := by omega
  have p7 : (n : Int) + 1 > (c : Int) := by omega
  have p8 : decide ((n : Int) + 1 > (c : Int)) = true := decide_eq_true p7
  have p12 : ((n : Int) + 1).toNat = n + 1 := by omega
  have p13 : ((i : Int) + 1).toNat = i + 1 := by omega
  have p14 : (i : Int) + 1 ≤ (n : Int) + 1 := by omega
  have p15 : (i : Int) ≤ (n : Int) + 1 := by omega
  have p11 : (0 : Int) ≤ (i : Int) + 1 := by omega
  have p16 : ¬ (c = i) := by omega
  have p18 : i ≤ n := by omega
  have p19 : i ≤ n + 1 := by omega
  have p20 : ¬ (G = i) := by omega
  have p22 : ¬ (G = i + 1) := by omega
  have p21 : (i : Int) + 1 ≤ ((n + 1 : Nat) : Int) := by omega
  have p23 : (i : Int) ≤ ((n + 1 : Nat) : Int) := by omega
  have p26 : (i : Int) ≤ (c : Int) := by omega
  have p27 : i ≤ c := by omega
  have p28 : wrap64 ((n : Int) + 1 - (i : Int)) = (n : Int) + 1 - (i : Int) := wr64 _ (by omega) (by omega)
  have p5 : wrap64 ((n : Int) + 1) = (n : Int) + 1 := wr64' n hn
  have p6 : wrap64 ((i : Int) + 1) = (i : Int) + 1 := wr64' i (by clear p5 p28; omega)
  have p6w : IntKind.i64.wrap ((i : Int) + 1) = (i : Int) + 1 := (i64_w _).trans p6
  have p5w : IntKind.i64.wrap ((n : Int) + 1) = (n : Int) + 1 := (i64_w _).trans p5
  have p28w : IntKind.i64.wrap ((n : Int) + 1 - (i : Int)) = (n : Int) + 1 - (i : Int) := (i64_w _).trans p28
  go_enter Tryz.func163, Tryz.ntmps163
  go_wp2_with (first
    | (at_builtin; refine Lib.wpList_append_run _ rfl _ _ _ _ rfl _ _ rfl rfl _ _ (hrz _) ?_)
    | (at_builtin; refine wpList_copy_run W1 rfl _ _ 58 58 rfl _ _ rfl rfl (hcA _ _) ?_))
  all_goals (
    go_still_tail 8, (by kernel_rfl)
    change wpList _ _ _ _ _ W2.drew
    refine wpList_copy_run W2.drew rfl (.tmp 50) (.tmp 53) 58 58 rfl _ _ rfl rfl (hcB _ _ _) ?_
    go_wp2_with fail
    go_ret
    exact ⟨.slice (some ⟨N, 0, none⟩) ys.length G, by rw [HLEN.out]; rfl, HR.out, HBW.out⟩)
end Go.Proofs.YtpeldaogdeefeaaGreat.M
/-! SIns6 -/
namespace Go.Proofs.YtpeldaogdeefeaaGreat.M
open Go.RowKit Go.Proofs.YtpeldaogdeefeaaGreatW.PrintWords Go.Proofs.YtpeldaogdeefeaaGreatW.PrintLast Go.Proofs.YtpeldaogdeefeaaGreatW.PrintMore
set_option linter.unusedVariables false
theorem insert65 (A : Option Addr) (c : Nat) (xs : List S140) (i : Nat) (x : S140) (vb B : Nat) (w : World) (h : Kd.R kF 140 w B (fun _ => True) (.slice A xs.length c) xs) (hx : x.f2.f2 = []) (hv : w.heap[vb]? = some (.cells (encF x).toArray 140 (0, 0))) (hvb : (Value.slice A xs.length c).ownBlock ≠ some vb) (hn : xs.length ≤ 1000000) (hB : B ≤ w.heap.size) (hi : i ≤ xs.length) :
    Calls Tryz.prog 163 #[.slice A xs.length c, .int .i64 i, .slice (some ⟨vb, 0, none⟩) 1 1] w fun e w' => ∃ v, e = .returned v ∧ Kd.R kF 140 w' B (fun _ => True) v (xs.take i ++ [x] ++ xs.drop i) ∧ Below B w w' := by
  rcases Nat.lt_or_ge i xs.length with hlt | hge
  · rcases Nat.lt_or_ge c (xs.length + 1) with hc | hc
    · exact insert_grow A c xs i x vb B w h hx hv hn hB hlt hc
    · exact insert_shift A c xs i x vb B w h hx hv hvb hn hB hlt hc
  · have e : i = xs.length := by omega
    subst e
    have := insert_end A c xs x vb B w h hx hv hn hB
    rw [List.take_length, List.drop_length, List.append_nil]
    exact this
end Go.Proofs.YtpeldaogdeefeaaGreat.M
/-! SPut -/
namespace Go.Proofs.YtpeldaogdeefeaaGreat.M
open Go.RowKit Go.Proofs.YtpeldaogdeefeaaGreatW.PrintWords Go.Proofs.YtpeldaogdeefeaaGreatW.PrintLast Go.Proofs.YtpeldaogdeefeaaGreatW.PrintMore
set_option linter.unusedVariables false
end Go.Proofs.YtpeldaogdeefeaaGreat.M
