/- Sessions: rows of one's own (MHSearch, Mx49, QB, Mx7). -/
import Derived.Test.YtpeldaogdeefeaaGreatMHFind
import Derived.Lib.SlBytesConst
import Derived.Test.YtpeldaogdeefeaaGreatMx0
import Derived.Deep.QuietTactic
import Derived.BigQuiet
import Derived.Below
/-! MHSearch -/
namespace Go.Proofs.YtpeldaogdeefeaaGreat.M
open Go.Proofs.YtpeldaogdeefeaaGreat.H Go.RowKit Go.Maps Go.Sort Go.Shelf Go.Lib Go.Proofs.YtpeldaogdeefeaaGreatW.PrintWords Go.Proofs.YtpeldaogdeefeaaGreatW.PrintLast Go.Proofs.YtpeldaogdeefeaaGreatW.PrintMore Go.Proofs.YtpeldaogdeefeaaGreat.Base
set_option linter.unusedVariables false
set_option linter.unusedSimpArgs false
set_option maxRecDepth 100000 in
set_option maxHeartbeats 1600000 in
theorem clone_calls (l : List S53) (A : Option Addr) (c n : Nat) (hn : n = l.length) (hl : l.length ≤ 1000000) (w : World) (hC : Kd.C k53 w A l.length l) :
    Calls Tryz.prog 70 #[.slice A n c] w fun e w' => ∃ v, e = .returned v ∧ Kd.R k53 53 w' w.heap.size (fun _ => True) v l ∧ Below w.heap.size w w' := by
  subst hn
  have HC := Aside0.mk hC
  rcases A with _ | ad
  · have h0 : l = [] := by
      rcases Nat.eq_zero_or_pos l.length with h0 | h0
      · exact List.eq_nil_of_length_eq_zero h0
      · obtain ⟨ad, h, _⟩ := hC.2.2 h0
        cases h
    subst h0
    have heq := fun (w : World) => Go.Lib.run_eql_slice_nil (P := Tryz.prog) w 43 53 none 0 c 0 0 Tryz.underlying43
    clear hC HC
    go_enter Tryz.func70, Tryz.ntmps70
    go_wp2_with fail
    go_ret
    exact ⟨_, rfl, Kd.R_nil _ _ _ _ _, Below.refl _ _⟩
  · have heq := fun (w : World) => Go.Lib.run_eql_slice_nil (P := Tryz.prog) w 43 53 (some ad) l.length c 0 0 Tryz.underlying43
    clear hC
    go_enter Tryz.func70, Tryz.ntmps70
    go_wp2_with (first
      | ((with_reducible refine gate_dst (N := 5) rfl ?_); refine Kd.R_lit k53 _ 53 ?hg (N := 5) ?hd (xs := ([] : List S53)) (inner := []) (ok := fun _ => True) (okp := fun _ => True) ?hr ?hp (fun _ hk => hk) trivial (Below.refl _ _) (Nat.le_refl _) (by simp) ?_; (case hd => rfl); (case hg => rfl); (case hr => first | (go_simp; done) | (go_simp; rfl)); (case hp => exact Reps.none _ _); intro v5 w5 ho5 hb5 hg_ hnew_; clear hg_ hnew_; have HO5 := Aside0.mk ho5; have HB5 := Aside0.mk hb5; clear ho5 hb5)
      | ((with_reducible refine gate_builtin (b := .append) (xs := #[.tmp 5, .tmp 6]) rfl ?_); at_builtin; refine Kd.R_append_rows k53 (w0 := w) w.heap.size rfl (.tmp 5) (.tmp 6) 43 53 (.agg #[(.string ⟨#[]⟩), (.int .i64 0)]) 24 rfl Tryz.underlying43 info53 rfl (by decide) (by omega) v5 [] l _ _ _ (fun _ => True) (fun _ => False) rfl rfl HO5.out (Kd.C_below HC.out HB5.out) (fun _ _ h => h) (fun _ h => h.elim) (fun _ _ => trivial) HB5.out HB5.out.size (by simp; omega) ?_; intro v7 w7 ho7 hb7 hg7 hat7; have HO7 := Aside0.mk ho7; have HB7 := Aside0.mk hb7; clear ho7 hb7 hg7 hat7))
    go_ret
    exact ⟨_, rfl, HO7.out, HB7.out⟩
def searchV (M : List (Bs × Bs)) (p : ByteArray) (n : Int) : List S53 × Int × Int :=
  if p.size = 0 then ([], 0, 5) else (if 4096 < p.size ∨ n < 1 ∨ 1000 < n then ([], 0, 2) else ((hitsM M p).take n.toNat, ((hitsM M p).length : Int), 0))
def SearchPost (w : World) (r : List S53) (n e : Int) (en : Ending) (w' : World) : Prop := ∃ v, en = .returned (.tuple #[v, .int .i64 n, .int .i64 e]) ∧ Kd.R k53 53 w' w.heap.size (fun _ => True) v r ∧ Below w.heap.size w w'
set_option maxRecDepth 100000 in
set_option maxHeartbeats 6400000 in
theorem search_calls {w : World} {B U g cnt : Nat} {M : List (Bs × Bs)} (h : Shf w B U g cnt M) (p : ByteArray) (hps : p.size ≤ 1000000000000) (n : Int) (m : Int) (hm : w.cell? ⟨0, 0, none⟩ = some (.int .i64 m)) {r : List S53} {k e : Int} (hs : searchV M p n = (r, k, e)) :
    Calls Tryz.prog 29 #[.pointer (some ⟨g, 0, none⟩), .string p, .int .i64 n] w (SearchPost w r k e) := by
  have HS := Aside0.mk h
  have HM := Aside0.mk hm
  have HV := Aside0.mk hs
  have HPS := Aside0.mk hps
  clear h hm hs hps
  by_cases h0 : p.size = 0
  · have hv : searchV M p n = ([], 0, 5) := by unfold searchV; rw [if_pos h0]
    obtain ⟨rfl, hv2⟩ := Prod.mk.inj (hv.symm.trans HV.out)
    obtain ⟨rfl, rfl⟩ := Prod.mk.inj hv2
    have e1 : (p.toList == []) = true := beq_iff_eq.mpr ((ne_nil p).2 h0)
    have e2 : (p.toList = []) = True := eq_true ((ne_nil p).2 h0)
    clear hv hv2 h0
    go_enter Tryz.func29, Tryz.ntmps29
    go_wp2_with fail
    go_ret3
    exact ⟨_, rfl, Kd.R_nil _ _ _ _ _, Below.refl _ _⟩
  · have e1 : (p.toList == []) = false := by rw [beq_eq_false_iff_ne]; exact fun e => h0 ((ne_nil p).1 e)
    have e2 : (p.toList = []) = False := eq_false (fun e => h0 ((ne_nil p).1 e))
    have HP0 : Aside0 (0 < p.size) := ⟨by omega⟩
    by_cases hb : 4096 < p.size ∨ n < 1 ∨ 1000 < n
    · have hv : searchV M p n = ([], 0, 2) := by unfold searchV; rw [if_neg h0, if_pos hb]
      obtain ⟨rfl, hv2⟩ := Prod.mk.inj (hv.symm.trans HV.out)
      obtain ⟨rfl, rfl⟩ := Prod.mk.inj hv2
      clear hv hv2 h0
      by_cases b1 : 4096 < p.size
      · have f1 : decide ((4096 : Int) < (p.size : Int)) = true := decide_eq_true (by omega)
        have f2 : decide (4096 < p.size) = true := decide_eq_true b1
        clear hb b1
        go_enter Tryz.func29, Tryz.ntmps29
        go_wp2_with fail
        go_ret3
        exact ⟨_, rfl, Kd.R_nil _ _ _ _ _, Below.refl _ _⟩
      · have f1 : decide ((4096 : Int) < (p.size : Int)) = false := decide_eq_false (by omega)
        have f2 : decide (4096 < p.size) = false := decide_eq_false b1
        by_cases b2 : n < 1
        · have f3 : decide (n < 1) = true := decide_eq_true b2
          clear hb b1 b2
          go_enter Tryz.func29, Tryz.ntmps29
          go_wp2_with fail
          go_ret3
          exact ⟨_, rfl, Kd.R_nil _ _ _ _ _, Below.refl _ _⟩
        · have f3 : decide (n < 1) = false := decide_eq_false b2
          have f4 : decide (1000 < n) = true := decide_eq_true (by omega)
          clear hb b1 b2
          go_enter Tryz.func29, Tryz.ntmps29
          go_wp2_with fail
          go_ret3
          exact ⟨_, rfl, Kd.R_nil _ _ _ _ _, Below.refl _ _⟩
    · have hv : searchV M p n = ((hitsM M p).take n.toNat, ((hitsM M p).length : Int), 0) := by unfold searchV; rw [if_neg h0, if_neg hb]
      obtain ⟨rfl, hv2⟩ := Prod.mk.inj (hv.symm.trans HV.out)
      obtain ⟨rfl, rfl⟩ := Prod.mk.inj hv2
      have f1 : decide ((4096 : Int) < (p.size : Int)) = false := decide_eq_false (by omega)
      have f2 : decide (4096 < p.size) = false := decide_eq_false (by omega)
      have f3 : decide (n < 1) = false := decide_eq_false (by omega)
      have f4 : decide (1000 < n) = false := decide_eq_false (by omega)
      have HN : Aside0 (1 ≤ n ∧ n ≤ 1000) := ⟨by omega⟩
      clear hv hv2 h0 hb
      go_enter Tryz.func29, Tryz.ntmps29
      go_wp2_with fail
      refine (hits_calls HS.out p HP0.out m HM.out).mono ?_
      rintro e w1 ⟨v1, rfl, hr1, hb1⟩
      obtain ⟨A1, c1, rfl⟩ := Kd.R_slice hr1
      have HHL : Aside0 ((hitsM M p).length ≤ 131200) := ⟨by
        have h1 := hitsM_len p M (fun q hq => HS.out.tx q hq)
        have h2 := HS.out.few
        have h3 : M.length * 2049 ≤ 64 * 2049 := Nat.mul_le_mul_right _ h2
        omega⟩
      obtain ⟨hl, hhl⟩ : ∃ z, z = hitsM M p := ⟨_, rfl⟩
      have HHh := Aside0.mk hhl
      have HRL : Aside0 (hl.length ≤ c1) := ⟨by rw [hhl]; exact (Kd.R_reads' hr1).2.1⟩
      have HCL : Aside0 (Kd.C k53 w1 A1 hl.length hl) := ⟨by rw [hhl]; exact (Kd.R_reads' hr1).2.2⟩
      rw [← hhl] at HHL ⊢
      have HB1 := Aside0.mk hb1
      clear hr1 hb1 hhl
      obtain ⟨z, hz⟩ : ∃ z, z = min n.toNat hl.length := ⟨_, rfl⟩
      have HZ := Aside0.mk hz
      have hmin : min n (hl.length : Int) = (z : Int) := by have := HN.out; omega
      have hz1 : ((z : Int) ≤ (hl.length : Int)) = True := eq_true (by omega)
      have hz2 : (z ≤ hl.length) = True := eq_true (by omega)
      have hz3 : (z ≤ c1) = True := eq_true (by have := HRL.out; omega)
      clear hz
      go_wp2_with fail
      have HTL : Aside0 (z = (hl.take z).length) := ⟨by rw [List.length_take, HZ.out]; omega⟩
      refine (clone_calls (hl.take z) A1 c1 z HTL.out (by have := HHL.out; rw [← HTL.out]; have := HZ.out; omega) w1 (HTL.out ▸ Kd.C_take (m := z) HCL.out (by have := HZ.out; omega))).mono ?_
      rintro e w2 ⟨v2, rfl, hr2, hb2⟩
      have HR2 := Aside0.mk hr2
      have HB2 := Aside0.mk hb2
      clear hr2 hb2
      go_wp2_with fail
      rw [← HHh.out]
      have HZ2 : hl.take n.toNat = hl.take z := by
        rw [HZ.out]
        rcases Nat.le_total n.toNat hl.length with hx | hx
        · rw [Nat.min_eq_left hx]
        · rw [Nat.min_eq_right hx, List.take_of_length_le hx, List.take_of_length_le (Nat.le_refl _)]
      rw [HZ2]
      go_ret3
      exact ⟨_, rfl, Kd.R_lower HR2.out HB1.out.size, below_step HB1.out HB2.out⟩
end Go.Proofs.YtpeldaogdeefeaaGreat.M
/-! Mx49 -/
namespace Go.Proofs.YtpeldaogdeefeaaGreat.M
open Go.RowKit Go.Proofs.YtpeldaogdeefeaaGreatW.PrintWords Go.Proofs.YtpeldaogdeefeaaGreatW.PrintLast Go.Proofs.YtpeldaogdeefeaaGreatW.PrintMore
attribute [local go_sem] max2_int min2_int max_two min_two max_three min_three max_four min_four   -- for this text's walks alone
set_option linter.unusedVariables false
set_option linter.unusedSimpArgs false

/-! ### lecternref0_Num: function 59 -/
def lecternref0_Num.f (a0 : Int) : Option (Bool) := if a0 ≥ 0 then (some (decide (a0 < 1099511627776))) else (some false)
set_option maxHeartbeats 8000000 in
set_option maxRecDepth 100000 in
theorem lecternref0_Num.calls (a0 : Int) (r : Bool) (w : World) (h : lecternref0_Num.f a0 = some r) :
    Calls Tryz.prog 59 #[.int .i64 a0] w fun e w' => e = .returned (.bool r) ∧ Drawn0 w w' := by
  have H : (if a0 ≥ 0 then (some (decide (a0 < 1099511627776))) else (some false)) = some r := h
  clear h
  by_cases c2 : a0 ≥ 0
  · rw [if_pos c2] at H
    have c2b0 : decide (0 ≤ a0) = true := decide_eq_true c2
    clear c2
    obtain rfl := Option.some.inj H
    go_enter Tryz.func59, Tryz.ntmps59
    go_wp2
    go_ret
    exact ⟨by first | rfl | (simp; done) | (simp [*]; done), by repeat (first | exact Drawn0.refl _ | apply Drawn0.step)⟩
  · rw [if_neg c2] at H
    have c2b0 : decide (0 ≤ a0) = false := decide_eq_false c2
    clear c2
    obtain rfl := Option.some.inj H
    go_enter Tryz.func59, Tryz.ntmps59
    go_wp2
    go_ret
    exact ⟨by first | rfl | (simp; done) | (simp [*]; done), by repeat (first | exact Drawn0.refl _ | apply Drawn0.step)⟩

end Go.Proofs.YtpeldaogdeefeaaGreat.M
/-! QB -/
namespace Go.Proofs.YtpeldaogdeefeaaGreat.QB
open Go.RowKit
/-- A world behind 'w0': what lay below is as it was. -/
def Later (w0 : World) : Type := {W : World // Below w0.heap.size w0 W}
instance Later.inhab (w0 : World) : Nonempty (Later w0) := ⟨⟨w0, Below.refl _ _⟩⟩
theorem Later.below {w0 : World} (x : Later w0) : Below w0.heap.size w0 x.val := x.2
def Later.mk {w0 W : World} (h : Below w0.heap.size w0 W) : Later w0 := ⟨W, h⟩
theorem Later.cell {w0 : World} (x : Later w0) {p : Addr} {v : Value} (h : w0.cell? p = some v) (hp : p.block < w0.heap.size) : x.val.cell? p = some v := (x.below.cell hp).trans h
theorem below_trans {w a b : World} (h : Below w.heap.size w a) (h2 : Below a.heap.size a b) : Below w.heap.size w b := h.trans (h2.mono h.size)
theorem region {P : Program} {id : Nat} {Q : Exit → Act → World → Prop} {a : Act} {w0 w : World} {l : List Oper} (hw : Below w0.heap.size w0 { w with drawn := w.drawn + 1 }) (hm : P.follows .mixedOrders = true) (hB : Region.lexB .any l.toArray = true)
    (h : wpQuiet P l.toArray (fun W => ∃ x : Later w0, W = x.val) (fun a' => ∀ W, (∃ x : Later w0, W = x.val) → Q .normal a' W) l a) : (Code.region id l.toArray true).wp P Q a w :=
  wp_region_quiet (C := fun W => ∃ x : Later w0, W = x.val) hm hB ⟨Later.mk hw, rfl⟩ (by simpa using h)
theorem call {P : Program} {f : FuncId} {args : Array Value} {w0 : World} {x : Later w0} {v : Value}
    (h : Calls P f args x.val fun e w' => e = .returned v ∧ Below x.val.heap.size x.val w') : Calls P f args x.val fun e w'' => e = .returned v ∧ ∃ y : Later w0, w'' = y.val :=
  h.mono fun _ _ ⟨he, hb⟩ => ⟨he, Later.mk (below_trans x.below hb), rfl⟩
theorem drawn {w0 w : World} (h : Below w0.heap.size w0 w) : Below w0.heap.size w0 { w with drawn := w.drawn + 1 } := ⟨h.os, h.tape, h.output, h.size, h.block⟩
end Go.Proofs.YtpeldaogdeefeaaGreat.QB
/-! Mx7 -/
namespace Go.Proofs.YtpeldaogdeefeaaGreat.M
open Go.RowKit Go.Proofs.YtpeldaogdeefeaaGreatW.PrintWords Go.Proofs.YtpeldaogdeefeaaGreatW.PrintLast Go.Proofs.YtpeldaogdeefeaaGreatW.PrintMore
attribute [local go_sem] max2_int min2_int max_two min_two max_three min_three max_four min_four   -- for this text's walks alone
set_option linter.unusedVariables false
set_option linter.unusedSimpArgs false

/-! ### session_Number: function 97 -/
def session_Number.f (a0 : Int) (a1 : Int) : Option (Bool) := if a0 ≥ a1 then (some (decide (a0 < 1099511627776))) else (some false)
set_option maxHeartbeats 8000000 in
set_option maxRecDepth 100000 in
theorem session_Number.calls (a0 : Int) (a1 : Int) (r : Bool) (w : World) (h : session_Number.f a0 a1 = some r) :
    Calls Tryz.prog 97 #[.int .i64 a0, .int .i64 a1] w fun e w' => e = .returned (.bool r) ∧ Drawn0 w w' := by
  have H : (if a0 ≥ a1 then (some (decide (a0 < 1099511627776))) else (some false)) = some r := h
  clear h
  by_cases c3 : a0 ≥ a1
  · rw [if_pos c3] at H
    have c3b0 : decide (a1 ≤ a0) = true := decide_eq_true c3
    clear c3
    obtain rfl := Option.some.inj H
    go_enter Tryz.func97, Tryz.ntmps97
    go_wp2
    go_ret
    exact ⟨by first | rfl | (simp; done) | (simp [*]; done), by repeat (first | exact Drawn0.refl _ | apply Drawn0.step)⟩
  · rw [if_neg c3] at H
    have c3b0 : decide (a1 ≤ a0) = false := decide_eq_false c3
    clear c3
    obtain rfl := Option.some.inj H
    go_enter Tryz.func97, Tryz.ntmps97
    go_wp2
    go_ret
    exact ⟨by first | rfl | (simp; done) | (simp [*]; done), by repeat (first | exact Drawn0.refl _ | apply Drawn0.step)⟩

end Go.Proofs.YtpeldaogdeefeaaGreat.M
