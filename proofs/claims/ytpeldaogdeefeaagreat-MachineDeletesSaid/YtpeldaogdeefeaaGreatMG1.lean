/- Sessions: rows of one's own (Mx49, Mx38, HList, Mx4). -/
import Derived.Test.YtpeldaogdeefeaaGreatMG0
import Derived.Maps.Views
import Derived.Maps.OwnSet
import Derived.Maps.StringElems
import Derived.Sort.KeysCollected
import Derived.Lib.IndexMore
import Derived.Lib.IndexLaws
/-! Mx49 -/
namespace Go.Proofs.YtpeldaogdeefeaaGreat.M
open Go.RowKit Go.Proofs.YtpeldaogdeefeaaGreatW.PrintWords Go.Proofs.YtpeldaogdeefeaaGreatW.PrintLast Go.Proofs.YtpeldaogdeefeaaGreatW.PrintMore
attribute [local go_sem] max2_int min2_int max_two min_two max_three min_three max_four min_four   -- for this text's walks alone
set_option linter.unusedVariables false
set_option linter.unusedSimpArgs false

/-! ### lecternref0_Num: function 59 -/
def lecternref0_Num.f (a0 : Int) : Option (Bool) := if a0 ≥ 0 then (some (decide (a0 < 1099511627776))) else (some false)
set_option maxHeartbeats 8000000 in
set_option maxRecDepth 100000 in
theorem lecternref0_Num.calls (a0 : Int) (r : Bool) (w : World) (h : lecternref0_Num.f a0 = some r) :
    Calls Tryz.prog 59 #[.int .i64 a0] w fun e w' => e = .returned (.bool r) ∧ Drawn0 w w' := by
  have H : (if a0 ≥ 0 then (some (decide (a0 < 1099511627776))) else (some false)) = some r := h
  clear h
  by_cases c2 : a0 ≥ 0
  · rw [if_pos c2] at H
    have c2b0 : decide (0 ≤ a0) = true := decide_eq_true c2
    clear c2
    obtain rfl := Option.some.inj H
    go_enter Tryz.func59, Tryz.ntmps59
    go_wp2
    go_ret
    exact ⟨by first | rfl | (simp; done) | (simp [*]; done), by repeat (first | exact Drawn0.refl _ | apply Drawn0.step)⟩
  · rw [if_neg c2] at H
    have c2b0 : decide (0 ≤ a0) = false := decide_eq_false c2
    clear c2
    obtain rfl := Option.some.inj H
    go_enter Tryz.func59, Tryz.ntmps59
    go_wp2
    go_ret
    exact ⟨by first | rfl | (simp; done) | (simp [*]; done), by repeat (first | exact Drawn0.refl _ | apply Drawn0.step)⟩

end Go.Proofs.YtpeldaogdeefeaaGreat.M
/-! Mx38 -/
namespace Go.Proofs.YtpeldaogdeefeaaGreat.M
open Go.RowKit Go.Proofs.YtpeldaogdeefeaaGreatW.PrintWords Go.Proofs.YtpeldaogdeefeaaGreatW.PrintLast Go.Proofs.YtpeldaogdeefeaaGreatW.PrintMore
attribute [local go_sem] max2_int min2_int max_two min_two max_three min_three max_four min_four   -- for this text's walks alone
set_option linter.unusedVariables false
set_option linter.unusedSimpArgs false

/-! ### lecternlaw0_DocWeight: function 28 -/
def lecternlaw0_DocWeight.l0 : Nat → List (S36) → Int → Int → Option (Int)
  | 0, _, _, _ => none
  | k + 1, x0, x3, x4 => if x4 < (x0.length : Int) then (if x3 < 1048576 then (if 0 ≤ x4 then (lecternlaw0_DocWeight.l0 k x0 (wrap64 ((wrap64 (x3 + (((rd_T36 x0 x4).f0).size : Int))) + (((rd_T36 x0 x4).f1).size : Int))) (wrap64 (x4 + 1))) else (none)) else (some x3)) else (some x3)
def lecternlaw0_DocWeight.f (k : Nat) (l0 : List (S36)) : Option (Int) := lecternlaw0_DocWeight.l0 k l0 (l0.length : Int) 0
set_option maxHeartbeats 8000000 in
set_option maxRecDepth 100000 in
theorem lecternlaw0_DocWeight.calls (k : Nat) (A0 : Option Addr) (c0 : Nat) (l0 : List (S36)) (r : Int) (w : World) (hr0 : Kd.C k36 w A0 l0.length l0) (hc0 : l0.length ≤ c0) (h : lecternlaw0_DocWeight.f k l0 = some r) :
    Calls Tryz.prog 28 #[.slice A0 l0.length c0] w fun e w' => e = .returned (.int .i64 r) ∧ Drawn0 w w' := by
  have HR0 := Aside0.mk hr0
  have HC0 := Aside0.mk hc0
  clear hr0 hc0
  have H : (lecternlaw0_DocWeight.l0 k l0 (l0.length : Int) 0) = some r := h
  clear h
  have H' := Aside0.mk H
  clear H
  go_enter Tryz.func28, Tryz.ntmps28
  go_wp2
  repeat (go_quiet (fail); try go_wp2)
  go_loopg [3, 4] k (fun kq v3 v4 w' => ∃ (x3_1 : Int) (x4_1 : Int), v3 = .int .i64 x3_1 ∧ v4 = .int .i64 x4_1 ∧ Aside0 (lecternlaw0_DocWeight.l0 kq l0 x3_1 x4_1 = some r) ∧ Aside0 (kq ≤ k) ∧ Drawn0 w w')
  case atStart => exact ⟨((l0.length : Int)), (0), (by first | rfl | (simp; done) | (simp [*]; done)), (by first | rfl | (simp; done) | (simp [*]; done)), H', ⟨Nat.le_refl _⟩, by repeat (first | exact Drawn0.refl _ | apply Drawn0.step)⟩
  case round =>
    clear H'
    obtain ⟨x3_1, x4_1, rfl, rfl, HA, HK1, ⟨m1, rfl⟩⟩ := hrel
    cases gk with
    | zero => exact absurd HA.out (by simp [lecternlaw0_DocWeight.l0])
    | succ k1 =>
      have H := HA.out
      clear HA
      simp only [lecternlaw0_DocWeight.l0] at H
      by_cases c2 : x4_1 < (l0.length : Int)
      · rw [if_pos c2] at H
        have c2b0 : decide (x4_1 < (l0.length : Int)) = true := decide_eq_true c2
        clear c2
        by_cases c3 : x3_1 < 1048576
        · rw [if_pos c3] at H
          have c3b0 : decide (x3_1 < 1048576) = true := decide_eq_true c3
          clear c3
          by_cases c4 : 0 ≤ x4_1
          · rw [if_pos c4] at H
            have c4b0 : decide (0 ≤ x4_1) = true := decide_eq_true c4
            clear c4
            have H' := Aside0.mk H
            clear H
            have p101 : 0 ≤ (x4_1 : Int) := of_decide_eq_true (by first | (with_reducible assumption) | assumption)
            have q101 : x4_1 < (l0.length : Int) := of_decide_eq_true (by first | (with_reducible assumption) | assumption)
            obtain ⟨ad101, e101, hx101_0, hx101_1⟩ := at_T36 HR0.out x4_1 p101 q101
            cases e101
            replace p101 := eq_true p101
            replace q101 := eq_true q101
            have p102 : 0 ≤ (x4_1 : Int) := of_decide_eq_true (by first | (with_reducible assumption) | assumption)
            have q102 : x4_1 < (l0.length : Int) := of_decide_eq_true (by first | (with_reducible assumption) | assumption)
            obtain ⟨ad102, e102, hx102_0, hx102_1⟩ := at_T36 HR0.out x4_1 p102 q102
            obtain rfl : ad101 = ad102 := (by injection e102)
            replace p102 := eq_true p102
            replace q102 := eq_true q102
            go_wp2
            repeat (go_quiet (fail); try go_wp2)
            go_roundg k1
            case measure => have := HK1.out; omega
            case rel => exact ⟨(wrap64 ((wrap64 (x3_1 + (((rd_T36 l0 x4_1).f0).size : Int))) + (((rd_T36 l0 x4_1).f1).size : Int))), (wrap64 (x4_1 + 1)), (by first | rfl | (simp; done) | (simp [*]; done)), (by first | rfl | (simp; done) | (simp [*]; done)), H', ⟨by have := HK1.out; omega⟩, by repeat (first | exact Drawn0.refl _ | apply Drawn0.step)⟩
          · rw [if_neg c4] at H
            exact absurd H (by simp)
        · rw [if_neg c3] at H
          have c3b0 : decide (x3_1 < 1048576) = false := decide_eq_false c3
          clear c3
          obtain rfl := Option.some.inj H
          go_wp2
          repeat (go_quiet (fail); try go_wp2)
          go_ret
          exact ⟨by first | rfl | (simp; done) | (simp [*]; done), by repeat (first | exact Drawn0.refl _ | apply Drawn0.step)⟩
      · rw [if_neg c2] at H
        have c2b0 : decide (x4_1 < (l0.length : Int)) = false := decide_eq_false c2
        clear c2
        obtain rfl := Option.some.inj H
        go_wp2
        repeat (go_quiet (fail); try go_wp2)
        go_ret
        exact ⟨by first | rfl | (simp; done) | (simp [*]; done), by repeat (first | exact Drawn0.refl _ | apply Drawn0.step)⟩

end Go.Proofs.YtpeldaogdeefeaaGreat.M
/-! HList -/
namespace Go.Proofs.YtpeldaogdeefeaaGreat.H
open Go.Maps Go.Sort Go.Lib
set_option linter.unusedVariables false
set_option linter.unusedSimpArgs false
abbrev Bs := List UInt8
def Rise (l : List Bs) : Prop := l.Pairwise (· < ·)
theorem lt_tri (a b : Bs) : a < b ∨ a = b ∨ b < a := by
  rcases List.le_iff_lt_or_eq.1 (List.not_lt.1 (List.lt_irrefl a)) with h | _
  · exact absurd h (List.lt_irrefl a)
  · by_cases h : a < b
    · exact .inl h
    · rcases List.le_iff_lt_or_eq.1 (List.not_lt.1 h) with h2 | h2
      · exact .inr (.inr h2)
      · exact .inr (.inl h2.symm)
theorem lt_asymm {a b : Bs} (h : a < b) : ¬ b < a := fun h2 => List.lt_irrefl a (List.lt_trans h h2)
theorem rise_unique : ∀ {l m : List Bs}, Rise l → Rise m → (∀ x, x ∈ l ↔ x ∈ m) → l = m
  | [], [], _, _, _ => rfl
  | [], b :: m, _, _, h => absurd ((h b).2 List.mem_cons_self) List.not_mem_nil
  | a :: l, [], _, _, h => absurd ((h a).1 List.mem_cons_self) List.not_mem_nil
  | a :: l, b :: m, hl, hm, h => by
    have hl' := List.pairwise_cons.1 hl
    have hm' := List.pairwise_cons.1 hm
    have hab : a = b := by
      rcases List.mem_cons.1 ((h a).1 List.mem_cons_self) with e | h1
      · exact e
      · rcases List.mem_cons.1 ((h b).2 List.mem_cons_self) with e | h2
        · exact e.symm
        · exact absurd (hl'.1 b h2) (lt_asymm (hm'.1 a h1))
    subst hab
    rw [rise_unique hl'.2 hm'.2 (fun x => ?_)]
    constructor
    · intro hx
      rcases List.mem_cons.1 ((h x).1 (List.mem_cons_of_mem _ hx)) with e | h1
      · subst e; exact absurd (hl'.1 x hx) (List.lt_irrefl x)
      · exact h1
    · intro hx
      rcases List.mem_cons.1 ((h x).2 (List.mem_cons_of_mem _ hx)) with e | h1
      · subst e; exact absurd (hm'.1 x hx) (List.lt_irrefl x)
      · exact h1
theorem sorted_rise (ss : List Bs) (hn : ss.Nodup) : Rise (ss.mergeSort (fun x y => decide (x ≤ y))) := by
  have hp := List.mergeSort_perm ss (fun x y => decide (x ≤ y))
  have h1 := List.pairwise_mergeSort (le := fun x y : Bs => decide (x ≤ y)) (fun a b c h1 h2 => decide_eq_true (List.le_trans (of_decide_eq_true h1) (of_decide_eq_true h2))) (fun a b => by
    rcases lt_tri a b with h | h | h
    · simp [List.le_of_lt h]
    · subst h; simp
    · simp [List.le_of_lt h]) ss
  have h2 : (ss.mergeSort (fun x y => decide (x ≤ y))).Nodup := hp.nodup_iff.2 hn
  refine (h1.and h2).imp fun {a b} h => ?_
  rcases lt_tri a b with h3 | h3 | h3
  · exact h3
  · exact absurd h3 h.2
  · exact absurd h3 (List.not_lt.2 (of_decide_eq_true h.1))
theorem sorted_eq {ss l m : List Bs} (hp : ss.Perm l) (hn : l.Nodup) (hm : Rise m) (hmem : ∀ x, x ∈ l ↔ x ∈ m) : ss.mergeSort (fun x y => decide (x ≤ y)) = m :=
  rise_unique (sorted_rise ss (hp.nodup_iff.2 hn)) hm (fun x => by rw [(List.mergeSort_perm ss _).mem_iff, hp.mem_iff, hmem])
/-! ### sorted pairs -/
section
variable {β : Type}
def names (M : List (Bs × β)) : List Bs := M.map (·.1)
def ins (k : Bs) (v : β) : List (Bs × β) → List (Bs × β)
  | [] => [(k, v)]
  | p :: t => if p.1 < k then p :: ins k v t else (k, v) :: p :: t
def del (k : Bs) (M : List (Bs × β)) : List (Bs × β) := M.filter (fun p => decide (p.1 ≠ k))
theorem mem_ins (k : Bs) (v : β) : ∀ (M : List (Bs × β)) (p : Bs × β), p ∈ ins k v M ↔ p = (k, v) ∨ p ∈ M
  | [], p => by simp [ins]
  | q :: t, p => by
    unfold ins
    split
    · rw [List.mem_cons, mem_ins k v t p, List.mem_cons]
      constructor
      · rintro (h | h | h)
        · exact .inr (.inl h)
        · exact .inl h
        · exact .inr (.inr h)
      · rintro (h | h | h)
        · exact .inr (.inl h)
        · exact .inl h
        · exact .inr (.inr h)
    · rw [List.mem_cons]
theorem names_ins (k : Bs) (v : β) (M : List (Bs × β)) (x : Bs) : x ∈ names (ins k v M) ↔ x = k ∨ x ∈ names M := by
  simp only [names, List.mem_map, mem_ins]
  constructor
  · rintro ⟨p, rfl | h, rfl⟩
    · exact .inl rfl
    · exact .inr ⟨p, h, rfl⟩
  · rintro (rfl | ⟨p, h, rfl⟩)
    · exact ⟨(x, v), .inl rfl, rfl⟩
    · exact ⟨p, .inr h, rfl⟩
theorem ins_rise (k : Bs) (v : β) : ∀ (M : List (Bs × β)), Rise (names M) → k ∉ names M → Rise (names (ins k v M))
  | [], _, _ => List.pairwise_singleton _ _
  | p :: t, h, hk => by
    have h' := List.pairwise_cons.1 h
    have hk1 : k ≠ p.1 := fun e => hk (by rw [e]; exact List.mem_cons_self)
    have hk2 : k ∉ names t := fun e => hk (List.mem_cons_of_mem _ e)
    unfold ins
    split
    · rename_i hlt
      refine List.pairwise_cons.2 ⟨fun x hx => ?_, ins_rise k v t h'.2 hk2⟩
      rcases (names_ins k v t x).1 hx with e | hx
      · rw [e]; exact hlt
      · exact h'.1 x hx
    · rename_i hnl
      have hkp : k < p.1 := by
        rcases lt_tri p.1 k with h3 | h3 | h3
        · exact absurd h3 hnl
        · exact absurd h3.symm hk1
        · exact h3
      refine List.pairwise_cons.2 ⟨fun x hx => ?_, h⟩
      rcases List.mem_cons.1 hx with e | hx
      · rw [e]; exact hkp
      · exact List.lt_trans hkp (h'.1 x hx)
theorem ins_last (k : Bs) (v : β) : ∀ (M : List (Bs × β)), (∀ p ∈ M, p.1 < k) → ins k v M = M ++ [(k, v)]
  | [], _ => rfl
  | p :: t, h => by
    unfold ins
    rw [if_pos (h p List.mem_cons_self), ins_last k v t (fun q hq => h q (List.mem_cons_of_mem _ hq))]
    rfl
theorem mem_del (k : Bs) (M : List (Bs × β)) (p : Bs × β) : p ∈ del k M ↔ p ∈ M ∧ p.1 ≠ k := by
  unfold del
  rw [List.mem_filter, decide_eq_true_iff]
theorem names_del (k : Bs) (M : List (Bs × β)) (x : Bs) : x ∈ names (del k M) ↔ x ∈ names M ∧ x ≠ k := by
  simp only [names, List.mem_map, mem_del]
  constructor
  · rintro ⟨p, ⟨h1, h2⟩, rfl⟩
    exact ⟨⟨p, h1, rfl⟩, h2⟩
  · rintro ⟨⟨p, h1, rfl⟩, h2⟩
    exact ⟨p, ⟨h1, h2⟩, rfl⟩
theorem del_rise (k : Bs) (M : List (Bs × β)) (h : Rise (names M)) : Rise (names (del k M)) := by
  unfold Rise names del at *
  rw [List.pairwise_map] at *
  exact h.filter _
theorem del_no {k : Bs} {M : List (Bs × β)} (h : k ∉ names M) : del k M = M :=
  List.filter_eq_self.2 (fun p hp => decide_eq_true fun e => h (by rw [← e]; exact List.mem_map_of_mem hp))
/-- A map that reads as a sorted list of pairs. -/
structure DIs (f : β → DataW Unit) (D : DataW Unit) (M : List (Bs × β)) : Prop where
  tidy : Tidy D
  rise : Rise (names M)
  has_ : ∀ k, has D (.string k) = true ↔ k ∈ names M
  at_ : ∀ p ∈ M, ∀ z, D.atKey (.string p.1) z = f p.2
theorem DIs.empty (f : β → DataW Unit) : DIs f (.map []) [] := ⟨tidy_empty, List.Pairwise.nil, fun k => by simp [names, has], fun p hp => absurd hp List.not_mem_nil⟩
theorem strL (k : Bs) : WideAt.IsKeyLit (.string k) := trivial
theorem str_ne {a b : Bs} (h : a ≠ b) : (Lit.string a) ≠ (Lit.string b) := fun e => h (by injection e)
theorem DIs.no {f : β → DataW Unit} {D : DataW Unit} {M : List (Bs × β)} (h : DIs f D M) {k : Bs} (hk : k ∉ names M) : has D (.string k) = false := by
  rw [Bool.eq_false_iff]
  exact fun e => hk ((h.has_ k).1 e)
theorem DIs.put {f : β → DataW Unit} {D : DataW Unit} {M : List (Bs × β)} (h : DIs f D M) (k : Bs) (v : β) (hk : k ∉ names M) : DIs f (D.put (.string k) (f v)) (ins k v M) where
  tidy := h.tidy.put (strL k) _
  rise := ins_rise k v M h.rise hk
  has_ := fun x => by
    rw [names_ins]
    by_cases e : x = k
    · subst e
      rw [has_put_same h.tidy.isMap (strL x)]
      simp
    · rw [has_put_other (str_ne e), h.has_]
      simp [e]
  at_ := fun p hp z => by
    rcases (mem_ins k v M p).1 hp with rfl | hp
    · exact atKey_put_same h.tidy.isMap (strL k) _ _
    · have e : p.1 ≠ k := fun e => hk (by rw [← e]; exact List.mem_map_of_mem hp)
      rw [atKey_put_other (str_ne e)]
      exact h.at_ p hp z
theorem DIs.del {f : β → DataW Unit} {D : DataW Unit} {M : List (Bs × β)} (h : DIs f D M) (k : Bs) : DIs f (D.del (.string k)) (del k M) where
  tidy := h.tidy.del _
  rise := del_rise k M h.rise
  has_ := fun x => by
    rw [names_del]
    by_cases e : x = k
    · subst e
      rw [has_del_same]
      simp
    · rw [has_del_other (str_ne e), h.has_]
      simp [e]
  at_ := fun p hp z => by
    obtain ⟨hp, e⟩ := (mem_del k M p).1 hp
    rw [atKey_del_other (str_ne e)]
    exact h.at_ p hp z
end
/-- The keys of a map that is owned are strings, each once. -/
theorem owns_keys {w : World} {P : Program} {k : TypeId} {R : Value → Option (DataW Unit × List MemPlace)} {b n : Nat} {D : DataW Unit} (hk : P.underlying k = some .string) (h : w.ownsMap P k R b n D) : (strKeys D).Nodup ∧ ∀ x, x ∈ strKeys D ↔ has D (.string x) = true := by
  obtain ⟨es, hD, hpw⟩ := World.ownsMap.tidy h (string_keyed hk)
  obtain ⟨es', hD', hko⟩ := World.ownsMap.keysOf h
  obtain rfl : es = es' := by rw [hD] at hD'; simpa using hD'
  subst hD
  have hk : ∀ p ∈ es, ∃ x, p.1 = .string x := fun p hp => by obtain ⟨v, hv⟩ := hko p hp; obtain ⟨x, _, hx, _⟩ := Maps.keyOf_str hk hv; exact ⟨x, hx⟩
  refine ⟨?_, fun x => ?_⟩
  · show (es.map fun p => strOf p.1).Nodup
    refine List.pairwise_map.2 (hpw.imp_of_mem fun {p q} hp' hq' hne e => hne ?_)
    obtain ⟨a, ha⟩ := hk p hp'
    obtain ⟨b, hb⟩ := hk q hq'
    rw [ha, hb] at e ⊢
    exact congrArg _ e
  · rw [has_eq, List.any_eq_true]
    show x ∈ es.map (fun p => strOf p.1) ↔ _
    rw [List.mem_map]
    constructor
    · rintro ⟨p, hp', rfl⟩
      obtain ⟨a, ha⟩ := hk p hp'
      exact ⟨p, hp', by rw [ha]; simp [Lit.sameKey, strOf]⟩
    · rintro ⟨p, hp', hs⟩
      obtain ⟨a, ha⟩ := hk p hp'
      rw [ha] at hs
      exact ⟨p, hp', by rw [ha]; simpa [Lit.sameKey, strOf] using hs⟩
section
variable {β : Type} {w : World} {P : Program} {k : TypeId} {R : Value → Option (DataW Unit × List MemPlace)} {b n : Nat} {D : DataW Unit} {f : β → DataW Unit} {M : List (Bs × β)}
/-- The keys of such a map, sorted, are the names. -/
theorem keys_names (hk : P.underlying k = some .string) (h : w.ownsMap P k R b n D) (hD : DIs f D M) {ss : List Bs} (hp : ss.Perm (strKeys D)) : ss.mergeSort (fun x y => decide (x ≤ y)) = names M := by
  obtain ⟨h1, h2⟩ := owns_keys hk h
  exact sorted_eq hp h1 hD.rise (fun x => (h2 x).trans (hD.has_ x))
theorem size_names (hk : P.underlying k = some .string) (h : w.ownsMap P k R b n D) (hD : DIs f D M) : Maps.size D = M.length := by
  have h1 := keys_names hk h hD (List.Perm.refl _)
  have h2 : (strKeys D).length = M.length := by
    have := congrArg List.length h1
    rw [List.length_mergeSort] at this
    rw [this]
    exact List.length_map _
  rw [← h2]
  obtain ⟨es, e, _⟩ := hD.tidy
  rw [e]
  exact (List.length_map _).symm
end
/-! ### where a pattern stands -/
end Go.Proofs.YtpeldaogdeefeaaGreat.H
/-! Mx4 -/
namespace Go.Proofs.YtpeldaogdeefeaaGreat.M
open Go.RowKit Go.Proofs.YtpeldaogdeefeaaGreatW.PrintWords Go.Proofs.YtpeldaogdeefeaaGreatW.PrintLast Go.Proofs.YtpeldaogdeefeaaGreatW.PrintMore
attribute [local go_sem] max2_int min2_int max_two min_two max_three min_three max_four min_four   -- for this text's walks alone
set_option linter.unusedVariables false
set_option linter.unusedSimpArgs false

/-! ### segment_Name: function 66 -/
def segment_Name.f (a0 : ByteArray) : Option (Bool) := if a0.toList = ([] : List UInt8) then (some false) else (some (decide ((a0.size : Int) ≤ 64)))
set_option maxHeartbeats 8000000 in
set_option maxRecDepth 100000 in
theorem segment_Name.calls (a0 : ByteArray) (r : Bool) (w : World) (h : segment_Name.f a0 = some r) :
    Calls Tryz.prog 66 #[.string a0] w fun e w' => e = .returned (.bool r) ∧ Drawn0 w w' := by
  have H : (if a0.toList = ([] : List UInt8) then (some false) else (some (decide ((a0.size : Int) ≤ 64)))) = some r := h
  clear h
  by_cases c2 : a0.toList = ([] : List UInt8)
  · rw [if_pos c2] at H
    have c2b0 : (a0.toList == ([] : List UInt8)) = true := beq_iff_eq.mpr c2
    have c2b1 : (a0.toList != ([] : List UInt8)) = false := bne_eq_false_iff_eq.mpr c2
    clear c2
    obtain rfl := Option.some.inj H
    go_enter Tryz.func66, Tryz.ntmps66
    go_wp2
    go_ret
    exact ⟨by first | rfl | (simp; done) | (simp [*]; done), by repeat (first | exact Drawn0.refl _ | apply Drawn0.step)⟩
  · rw [if_neg c2] at H
    have c2b0 : (a0.toList == ([] : List UInt8)) = false := beq_eq_false_iff_ne.mpr c2
    have c2b1 : (a0.toList != ([] : List UInt8)) = true := bne_iff_ne.mpr c2
    obtain rfl := Option.some.inj H
    go_enter Tryz.func66, Tryz.ntmps66
    go_wp2
    go_ret
    exact ⟨by first | rfl | (simp; done) | (simp [*]; done), by repeat (first | exact Drawn0.refl _ | apply Drawn0.step)⟩

end Go.Proofs.YtpeldaogdeefeaaGreat.M
