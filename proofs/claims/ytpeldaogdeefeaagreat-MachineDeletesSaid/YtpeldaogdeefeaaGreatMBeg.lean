/- Sessions: Begin of the program and of the reference answer alike. -/
import Derived.Test.YtpeldaogdeefeaaGreatMG11
import Derived.Test.YtpeldaogdeefeaaGreatMG1
namespace Go.Proofs.YtpeldaogdeefeaaGreat.M
open Go.RowKit Go.Proofs.YtpeldaogdeefeaaGreatW.PrintWords Go.Proofs.YtpeldaogdeefeaaGreatW.PrintLast Go.Proofs.YtpeldaogdeefeaaGreatW.PrintMore
set_option linter.unusedVariables false
set_option linter.unusedSimpArgs false
theorem results_ctt {P : Program} {fn : Func} {p u v : Tmp} {ty : TypeId} (h : fn.results = #[.cell p ty, .tmp u, .tmp v]) (tmps : Array Value) (w : World) (g : Nat) (t : TypeId) (cs : Array Value) (fr : Nat × Nat) (d : TypeDesc)
    (hp : tmps.getD p undef = .pointer (some ⟨g, 0, none⟩)) (hg : w.heap[g]? = some (.cells cs t fr))
    (hu : P.underlying ty = some d) (hd : (match d with | .struct _ | .array _ _ => true | _ => false) = true) (hi : (P.info? ty).map (·.size) = some cs.size) :
    (results fn tmps).run P w = .ok (.tuple #[.agg cs, tmps.getD u undef, tmps.getD v undef]) w := by
  have hp' : tmps[p]?.getD undef = .pointer (some ⟨g, 0, none⟩) := by simpa using hp
  simp [results, h, hp', asAddr, run_loadVar_row w g t ty cs fr d hg hu hd hi]
theorem put3 {w : World} {b t : Nat} {c0 c1 c2 : Value} (h : w.heap[b]? = some (.cells #[c0, c1, c2] t (0, 0))) (v0 v1 v2 : Value) : (((w.setCell ⟨b, 0, none⟩ v0).setCell ⟨b, 1, none⟩ v1).setCell ⟨b, 2, none⟩ v2).heap[b]? = some (.cells #[v0, v1, v2] t (0, 0)) :=
  blk_put (cs := #[v0, v1, c2]) (blk_put (cs := #[v0, c1, c2]) (blk_put (cs := #[c0, c1, c2]) h 0 v0 rfl) 1 v1 rfl) 2 v2 rfl
theorem below3 {B : Nat} {w a : World} {b : Nat} (h : Below B w a) (hb : B ≤ b) (v0 v1 v2 : Value) : Below B w (((a.setCell ⟨b, 0, none⟩ v0).setCell ⟨b, 1, none⟩ v1).setCell ⟨b, 2, none⟩ v2) := ((h.setCell hb v0).setCell hb v1).setCell hb v2
def beginV (l : List S140) (a q : Int) : Int × Int × Bool × Int :=
  if anyS l a = true then (if q < (rd_T140 l (placeS l a : Int)).f1 then (0, 0, false, 10) else if q = (rd_T140 l (placeS l a : Int)).f1 then ((rd_T140 l (placeS l a : Int)).f2.f0, (rd_T140 l (placeS l a : Int)).f2.f1, true, 0) else (0, 0, false, 0)) else (0, 0, false, 9)
def BeginPost (v : Int × Int × Bool × Int) (w : World) (e : Ending) (w' : World) : Prop := ∃ (A : Option Addr) (c : Nat), e = .returned (.tuple #[.agg #[.int .i64 v.1, .int .i64 v.2.1, .slice A 0 c], .bool v.2.2.1, .int .i64 v.2.2.2]) ∧ Below w.heap.size w w'
theorem BeginPost.mk {v v' : Int × Int × Bool × Int} {w w' : World} {e : Ending} (hv : v = v') (A : Option Addr) (c : Nat) (he : e = .returned (.tuple #[.agg #[.int .i64 v'.1, .int .i64 v'.2.1, .slice A 0 c], .bool v'.2.2.1, .int .i64 v'.2.2.2])) (hb : Below w.heap.size w w') : BeginPost v w e w' := by
  subst hv
  exact ⟨A, c, he, hb⟩
theorem begin_none {l : List S140} {a q : Int} (h : anyS l a = false) : beginV l a q = (0, 0, false, 9) := by unfold beginV; rw [h]; rfl
theorem begin_old {l : List S140} {a q : Int} {x : S140} (h : anyS l a = true) (hx : rd_T140 l (placeS l a : Int) = x) (h2 : q < x.f1) : beginV l a q = (0, 0, false, 10) := by subst hx; unfold beginV; rw [if_pos h, if_pos h2]
theorem begin_same {l : List S140} {a q : Int} {x : S140} (h : anyS l a = true) (hx : rd_T140 l (placeS l a : Int) = x) (h2 : ¬ q < x.f1) (h3 : q = x.f1) : beginV l a q = (x.f2.f0, x.f2.f1, true, 0) := by subst hx; unfold beginV; rw [if_pos h, if_neg h2, if_pos h3]
theorem begin_new {l : List S140} {a q : Int} {x : S140} (h : anyS l a = true) (hx : rd_T140 l (placeS l a : Int) = x) (h2 : ¬ q < x.f1) (h3 : ¬ q = x.f1) : beginV l a q = (0, 0, false, 0) := by subst hx; unfold beginV; rw [if_pos h, if_neg h2, if_neg h3]
set_option maxRecDepth 100000 in
set_option maxHeartbeats 4000000 in
theorem begin88 {l0 : List S140} (h : mayP l0) (a q : Int) (hq : numB q 1 = true) (A0 : Option Addr) (c0 : Nat) (w : World) (hr0 : Kd.C k140 w A0 l0.length l0) (hc0 : l0.length ≤ c0) :
    Calls Tryz.prog 88 #[.slice A0 l0.length c0, .int .i64 a, .int .i64 q] w (BeginPost (beginV l0 a q) w) := by
  have HM := Aside0.mk h
  have hu70 := Tryz.underlying70
  have hu140 := Tryz.underlying140
  have HR0 := Aside0.mk hr0
  have HC0 := Aside0.mk hc0
  have HPL : Aside0 (anyS l0 a = true → placeS l0 a < l0.length) := ⟨fun h => placeS_lt h⟩
  obtain ⟨p, hp⟩ : ∃ p, placeS l0 a = p := ⟨_, rfl⟩
  obtain ⟨x, hx⟩ : ∃ x, rd_T140 l0 (placeS l0 a : Int) = x := ⟨_, rfl⟩
  have HX := Aside0.mk hx
  have HP := Aside0.mk hp
  clear hr0 hc0 h hp hx
  go_enter Tryz.func88, Tryz.ntmps88
  go_upto_region 1 with (fail)
  obtain ⟨b, hb⟩ : ∃ b, b = w.heap.size := ⟨_, rfl⟩
  obtain ⟨w1, hw1⟩ : ∃ z, z = w.alloc (.cells #[.int .i64 0, .int .i64 0, .slice none 0 0] 70) := ⟨_, rfl⟩
  have HB1 : Aside0 (Below w.heap.size w w1) := ⟨by rw [hw1]; exact below_alloc (Below.refl _ _) _⟩
  have HQ1 : Aside0 (w1.heap[b]? = some (.cells #[.int .i64 0, .int .i64 0, .slice none 0 0] 70 (0, 0))) := ⟨by rw [hw1, hb]; exact heap_alloc_new w _⟩
  have HBB : Aside0 (w.heap.size ≤ b) := ⟨by omega⟩
  rw [← hw1, ← hb]
  clear hb hw1
  have x0 : ∀ x : QB.Later w1, x.val.cell? ⟨b, 0, none⟩ = some (.int .i64 0) := fun x => (blk_cell (blk_below HQ1.out x.below) 0).trans rfl
  have x1 : ∀ x : QB.Later w1, x.val.cell? ⟨b, 1, none⟩ = some (.int .i64 0) := fun x => (blk_cell (blk_below HQ1.out x.below) 1).trans rfl
  have x2 : ∀ x : QB.Later w1, x.val.cell? ⟨b, 2, none⟩ = some (.slice none 0 0) := fun x => (blk_cell (blk_below HQ1.out x.below) 2).trans rfl
  have f0 : ∀ (x : QB.Later w1), x.val.frozen? ⟨b, 0, none⟩ = false := fun x => blk_frozen (blk_below HQ1.out x.below) 0
  have f1 : ∀ (x : QB.Later w1), x.val.frozen? ⟨b, 1, none⟩ = false := fun x => blk_frozen (blk_below HQ1.out x.below) 1
  have f2 : ∀ (x : QB.Later w1), x.val.frozen? ⟨b, 2, none⟩ = false := fun x => blk_frozen (blk_below HQ1.out x.below) 2
  obtain ⟨km, HMY⟩ : ∃ k, Aside0 (session_May.f k l0 = some true) := by
    obtain ⟨k, hk⟩ := Ev.some (may_yes HM.out)
    exact ⟨k, ⟨hk⟩⟩
  go_wp2_with fail
  refine (session_May.calls km A0 c0 l0 true w1 (Kd.C_below HR0.out HB1.out) HC0.out HMY.out).mono ?_
  rintro e w' ⟨rfl, hb⟩
  obtain ⟨y, rfl⟩ : ∃ y : QB.Later w1, w' = y.val := ⟨QB.Later.mk hb, rfl⟩
  clear hb
  go_wp2_with fail
  refine (numB97 q 1 y).mono ?_
  rintro e w' ⟨rfl, y, rfl⟩
  rw [hq]
  clear hq
  go_wp2_with fail
  refine (session_find.calls A0 c0 l0 a _ _ y.val (Kd.C_below HR0.out (QB.below_trans HB1.out y.below)) HC0.out (find_f HM.out a)).mono ?_
  rintro e w' ⟨rfl, hb⟩
  obtain ⟨y, rfl⟩ : ∃ z : QB.Later w1, w' = z.val := ⟨QB.Later.mk (QB.below_trans y.below hb), rfl⟩
  clear hb
  rw [HP.out]
  cases hany : anyS l0 a
  · have HN := Aside0.mk hany
    clear hany
    go_wp2_with fail
    refine bodyPost_ret (results_ctt rfl _ _ b 70 _ (0, 0) _ rfl (put3 (blk_below HQ1.out y.below) _ _ _) Tryz.underlying70 rfl (by kernel_rfl)) rfl ?_
    exact BeginPost.mk (begin_none HN.out) _ _ rfl (below3 (QB.below_trans HB1.out y.below) HBB.out _ _ _)
  have HN := Aside0.mk hany
  have hpl := HPL.out hany
  rw [HP.out] at hpl
  clear hany
  have hhit : x.f2.f2 = [] := by
    have h2 := (stepB_parts (HM.out.1 p (Nat.zero_le _) hpl)).1
    rw [← HP.out, HX.out] at h2
    exact h2
  obtain ⟨ad, A4, c4, eA, k0, k1, k2, k3, k4, k5, hl4, hi4⟩ := at_T140 HR0.out (p : Int) (by omega) (by omega)
  rw [Int.toNat_natCast, ← HP.out, HX.out, HP.out] at k0 k1 k2 k3 k4 k5
  rw [hhit] at k4
  have KK : Aside0 (∀ {p : Addr} {v : Value}, w.cell? p = some v → ∀ x : QB.Later w1, x.val.cell? p = some v) := ⟨fun h x => ((QB.below_trans HB1.out x.below).cell (World.block_lt_of_cell? w _ h)).trans h⟩
  have y1 := KK.out k1
  have y2 := KK.out k2
  have y3 := KK.out k3
  have y4 := KK.out k4
  have p0 : ((0 : Int) ≤ (p : Int)) = True := eq_true (by omega)
  have q0 : ((p : Int) < (l0.length : Int)) = True := eq_true (by omega)
  subst eA
  clear k0 k1 k2 k3 k4 k5 hl4 hi4 hhit hpl
  by_cases h1 : q < x.f1
  · have e1 : decide (q < x.f1) = true := decide_eq_true h1
    have H1 := Aside0.mk h1
    clear h1
    go_wp2_with fail
    refine bodyPost_ret (results_ctt rfl _ _ b 70 _ (0, 0) _ rfl (put3 (blk_below HQ1.out y.below) _ _ _) Tryz.underlying70 rfl (by kernel_rfl)) rfl ?_
    exact BeginPost.mk (begin_old HN.out HX.out H1.out) _ _ rfl (below3 (QB.below_trans HB1.out y.below) HBB.out _ _ _)
  have e1 : decide (q < x.f1) = false := decide_eq_false h1
  have H1 := Aside0.mk h1
  clear h1
  by_cases h2 : q = x.f1
  · have H2 := Aside0.mk h2
    have e2 : (q == x.f1) = true := beq_iff_eq.mpr h2
    clear h2
    go_upto_region 11 with (fail)
    have hk := blk_put (cs := #[.int .i64 x.f2.f0, .int .i64 x.f2.f1, .slice A4 0 c4]) (put3 (blk_below HQ1.out y.below) (.int .i64 x.f2.f0) (.int .i64 x.f2.f1) (.slice A4 0 c4)) 2 (.slice none 0 0) rfl
    have hbl := (below3 (QB.below_trans HB1.out y.below) HBB.out (.int .i64 x.f2.f0) (.int .i64 x.f2.f1) (.slice A4 0 c4)).setCell (p := ⟨b, 2, none⟩) HBB.out (.slice none 0 0)
    obtain ⟨w8, hw8⟩ : ∃ z, z = (((y.val.setCell ⟨b, 0, none⟩ (.int .i64 x.f2.f0)).setCell ⟨b, 1, none⟩ (.int .i64 x.f2.f1)).setCell ⟨b, 2, none⟩ (.slice A4 0 c4)).setCell ⟨b, 2, none⟩ (.slice none 0 0) := ⟨_, rfl⟩
    rw [← hw8] at hk hbl ⊢
    have HK8 : Aside0 (w8.heap[b]? = some (.cells #[.int .i64 x.f2.f0, .int .i64 x.f2.f1, .slice none 0 0] 70 (0, 0))) := ⟨hk⟩
    have HB8 := Aside0.mk hbl
    clear hk hbl hw8
    have v0 : w8.cell? ⟨b, 0, none⟩ = some (.int .i64 x.f2.f0) := (blk_cell HK8.out 0).trans rfl
    have v1 : w8.cell? ⟨b, 1, none⟩ = some (.int .i64 x.f2.f1) := (blk_cell HK8.out 1).trans rfl
    have v2 : w8.cell? ⟨b, 2, none⟩ = some (.slice none 0 0) := (blk_cell HK8.out 2).trans rfl
    have e0 := blk_frozen HK8.out 0
    have e1 := blk_frozen HK8.out 1
    have e2 := blk_frozen HK8.out 2
    go_wp2_with fail
    refine bodyPost_ret (results_ctt rfl _ _ b 70 _ (0, 0) _ rfl (put3 HK8.out (.int .i64 x.f2.f0) (.int .i64 x.f2.f1) (.slice none 0 0)) Tryz.underlying70 rfl (by kernel_rfl)) rfl ?_
    exact BeginPost.mk (begin_same HN.out HX.out (by have := H1.out; omega) H2.out) _ _ rfl (below3 HB8.out HBB.out _ _ _)
  have H2 := Aside0.mk h2
  have e2 : (q == x.f1) = false := beq_eq_false_iff_ne.mpr h2
  clear h2
  go_wp2_with fail
  refine bodyPost_ret (results_ctt rfl _ _ b 70 _ (0, 0) _ rfl (put3 (blk_below HQ1.out y.below) _ _ _) Tryz.underlying70 rfl (by kernel_rfl)) rfl ?_
  exact BeginPost.mk (begin_new HN.out HX.out (by have := H1.out; omega) H2.out) _ _ rfl (below3 (QB.below_trans HB1.out y.below) HBB.out _ _ _)
set_option maxRecDepth 100000 in
set_option maxHeartbeats 4000000 in
theorem begin100 {l0 : List S140} (h : mayP l0) (a q : Int) (hq : numB q 1 = true) (A0 : Option Addr) (c0 : Nat) (w : World) (hr0 : Kd.C k140 w A0 l0.length l0) (hc0 : l0.length ≤ c0) :
    Calls Tryz.prog 100 #[.slice A0 l0.length c0, .int .i64 a, .int .i64 q] w (BeginPost (beginV l0 a q) w) := by
  have HM := Aside0.mk h
  have hu70 := Tryz.underlying70
  have hu140 := Tryz.underlying140
  have HR0 := Aside0.mk hr0
  have HC0 := Aside0.mk hc0
  have HPL : Aside0 (anyS l0 a = true → placeS l0 a < l0.length) := ⟨fun h => placeS_lt h⟩
  obtain ⟨p, hp⟩ : ∃ p, placeS l0 a = p := ⟨_, rfl⟩
  obtain ⟨x, hx⟩ : ∃ x, rd_T140 l0 (placeS l0 a : Int) = x := ⟨_, rfl⟩
  have HX := Aside0.mk hx
  have HP := Aside0.mk hp
  clear hr0 hc0 h hp hx
  go_enter Tryz.func100, Tryz.ntmps100
  go_upto_region 1 with (fail)
  obtain ⟨b, hb⟩ : ∃ b, b = w.heap.size := ⟨_, rfl⟩
  obtain ⟨w1, hw1⟩ : ∃ z, z = w.alloc (.cells #[.int .i64 0, .int .i64 0, .slice none 0 0] 70) := ⟨_, rfl⟩
  have HB1 : Aside0 (Below w.heap.size w w1) := ⟨by rw [hw1]; exact below_alloc (Below.refl _ _) _⟩
  have HQ1 : Aside0 (w1.heap[b]? = some (.cells #[.int .i64 0, .int .i64 0, .slice none 0 0] 70 (0, 0))) := ⟨by rw [hw1, hb]; exact heap_alloc_new w _⟩
  have HBB : Aside0 (w.heap.size ≤ b) := ⟨by omega⟩
  rw [← hw1, ← hb]
  clear hb hw1
  have x0 : ∀ x : QB.Later w1, x.val.cell? ⟨b, 0, none⟩ = some (.int .i64 0) := fun x => (blk_cell (blk_below HQ1.out x.below) 0).trans rfl
  have x1 : ∀ x : QB.Later w1, x.val.cell? ⟨b, 1, none⟩ = some (.int .i64 0) := fun x => (blk_cell (blk_below HQ1.out x.below) 1).trans rfl
  have x2 : ∀ x : QB.Later w1, x.val.cell? ⟨b, 2, none⟩ = some (.slice none 0 0) := fun x => (blk_cell (blk_below HQ1.out x.below) 2).trans rfl
  have f0 : ∀ (x : QB.Later w1), x.val.frozen? ⟨b, 0, none⟩ = false := fun x => blk_frozen (blk_below HQ1.out x.below) 0
  have f1 : ∀ (x : QB.Later w1), x.val.frozen? ⟨b, 1, none⟩ = false := fun x => blk_frozen (blk_below HQ1.out x.below) 1
  have f2 : ∀ (x : QB.Later w1), x.val.frozen? ⟨b, 2, none⟩ = false := fun x => blk_frozen (blk_below HQ1.out x.below) 2
  go_wp2_with fail
  refine (numB96 q (QB.Later.mk (Below.refl _ w1))).mono ?_
  rintro e w' ⟨rfl, y, rfl⟩
  rw [hq]
  clear hq
  obtain ⟨km, HFD⟩ : ∃ k, Aside0 (lecternref14_Find.f k l0 a = some (findV l0 a)) := by
    obtain ⟨k, hk⟩ := Ev.some (sfind_is l0 a (by have := HM.out.2; omega) (mayP_rise HM.out))
    exact ⟨k, ⟨hk⟩⟩
  go_wp2_with fail
  refine (lecternref14_Find.calls km A0 c0 l0 a _ y.val (Kd.C_below HR0.out (QB.below_trans HB1.out y.below)) HC0.out HFD.out).mono ?_
  rintro e w' ⟨rfl, hd⟩
  obtain ⟨y, rfl⟩ : ∃ z : QB.Later w1, w' = z.val := ⟨QB.Later.mk (by obtain ⟨n, rfl⟩ := hd.out; exact pw_below_drewN y.below n), rfl⟩
  clear hd HFD
  cases hany : anyS l0 a
  · have HN := Aside0.mk hany
    rw [findV_no (Bool.eq_false_iff.1 hany)]
    clear hany
    go_wp2_with fail
    refine bodyPost_ret (results_ctt rfl _ _ b 70 _ (0, 0) _ rfl (put3 (blk_below HQ1.out y.below) _ _ _) Tryz.underlying70 rfl (by kernel_rfl)) rfl ?_
    exact BeginPost.mk (begin_none HN.out) _ _ rfl (below3 (QB.below_trans HB1.out y.below) HBB.out _ _ _)
  have HN := Aside0.mk hany
  have hpl := HPL.out hany
  rw [findV_yes hany, HP.out]
  have e0 : decide ((p : Int) < 0) = false := decide_eq_false (by omega)
  rw [HP.out] at hpl
  clear hany
  have hhit : x.f2.f2 = [] := by
    have h2 := (stepB_parts (HM.out.1 p (Nat.zero_le _) hpl)).1
    rw [← HP.out, HX.out] at h2
    exact h2
  obtain ⟨ad, A4, c4, eA, k0, k1, k2, k3, k4, k5, hl4, hi4⟩ := at_T140 HR0.out (p : Int) (by omega) (by omega)
  rw [Int.toNat_natCast, ← HP.out, HX.out, HP.out] at k0 k1 k2 k3 k4 k5
  rw [hhit] at k4
  have KK : Aside0 (∀ {p : Addr} {v : Value}, w.cell? p = some v → ∀ x : QB.Later w1, x.val.cell? p = some v) := ⟨fun h x => ((QB.below_trans HB1.out x.below).cell (World.block_lt_of_cell? w _ h)).trans h⟩
  have y1 := KK.out k1
  have y2 := KK.out k2
  have y3 := KK.out k3
  have y4 := KK.out k4
  have p0 : ((0 : Int) ≤ (p : Int)) = True := eq_true (by omega)
  have q0 : ((p : Int) < (l0.length : Int)) = True := eq_true (by omega)
  subst eA
  clear k0 k1 k2 k3 k4 k5 hl4 hi4 hhit hpl
  by_cases h1 : q < x.f1
  · have e1 : decide (q < x.f1) = true := decide_eq_true h1
    have H1 := Aside0.mk h1
    clear h1
    go_wp2_with fail
    refine bodyPost_ret (results_ctt rfl _ _ b 70 _ (0, 0) _ rfl (put3 (blk_below HQ1.out y.below) _ _ _) Tryz.underlying70 rfl (by kernel_rfl)) rfl ?_
    exact BeginPost.mk (begin_old HN.out HX.out H1.out) _ _ rfl (below3 (QB.below_trans HB1.out y.below) HBB.out _ _ _)
  have e1 : decide (q < x.f1) = false := decide_eq_false h1
  have H1 := Aside0.mk h1
  clear h1
  by_cases h2 : q = x.f1
  · have H2 := Aside0.mk h2
    have e2 : (q == x.f1) = true := beq_iff_eq.mpr h2
    clear h2
    go_wp2_with fail
    refine bodyPost_ret (results_ctt rfl _ _ b 70 _ (0, 0) _ rfl (put3 (blk_below HQ1.out y.below) _ _ _) Tryz.underlying70 rfl (by kernel_rfl)) rfl ?_
    exact BeginPost.mk (begin_same HN.out HX.out (by have := H1.out; omega) H2.out) _ _ rfl (below3 (QB.below_trans HB1.out y.below) HBB.out _ _ _)
  have H2 := Aside0.mk h2
  have e2 : (q == x.f1) = false := beq_eq_false_iff_ne.mpr h2
  clear h2
  go_wp2_with fail
  refine bodyPost_ret (results_ctt rfl _ _ b 70 _ (0, 0) _ rfl (put3 (blk_below HQ1.out y.below) _ _ _) Tryz.underlying70 rfl (by kernel_rfl)) rfl ?_
  exact BeginPost.mk (begin_new HN.out HX.out (by have := H1.out; omega) H2.out) _ _ rfl (below3 (QB.below_trans HB1.out y.below) HBB.out _ _ _)
end Go.Proofs.YtpeldaogdeefeaaGreat.M
