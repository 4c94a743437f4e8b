/- Hits: slices.SortFunc by name and place. -/
import Derived.Test.YtpeldaogdeefeaaGreatMHDocs
import Derived.Test.YtpeldaogdeefeaaGreatHLayB
import Derived.Sort.OwnSorted
import Derived.Lib.SlKeysI
import Derived.Deep.RegionHeld3
namespace Go.Proofs.YtpeldaogdeefeaaGreat.M
open Go.Proofs.YtpeldaogdeefeaaGreat.H Go.RowKit Go.Shelf Go.Lib Go.Sort Go.Proofs.YtpeldaogdeefeaaGreatW.PrintWords Go.Proofs.YtpeldaogdeefeaaGreatW.PrintLast Go.Proofs.YtpeldaogdeefeaaGreatW.PrintMore
set_option linter.unusedVariables false
set_option linter.unusedSimpArgs false
instance : Inhabited S53 := ⟨z53⟩
def enc (x : S53) : List Value := [.string x.f0, .int .i64 x.f1]
def cmpH (x y : S53) : Int := if Lib.compareBytes x.f0.data.toList y.f0.data.toList = 0 then Lib.compareInt x.f1 y.f1 else Lib.compareBytes x.f0.data.toList y.f0.data.toList
def cf (x y : S53) : Int := cmpH x y
def ltk (x y : S53) : Bool := decide (x.f0.data.toList < y.f0.data.toList ∨ x.f0.data.toList = y.f0.data.toList ∧ x.f1 < y.f1)
theorem enc_len (x : S53) : (enc x).length = 2 := rfl
theorem enc_one (x : S53) : ∀ v ∈ enc x, v.oneCell' = true := fun v hv => by
  simp [enc] at hv
  rcases hv with rfl | rfl <;> rfl
theorem compare_lt : ∀ (a b : List UInt8), (Lib.compareBytes a b < 0) ↔ a < b
  | [], [] => by simp [Lib.compareBytes]
  | [], _ :: _ => by simp [Lib.compareBytes]
  | _ :: _, [] => by simp [Lib.compareBytes]
  | a :: s, b :: t => by
    have ih := compare_lt s t
    unfold Lib.compareBytes
    rw [List.cons_lt_cons_iff]
    by_cases h1 : a < b
    · simp [h1]
    · rw [if_neg h1]
      by_cases h2 : b < a
      · rw [if_pos h2]
        have h3 : a ≠ b := fun e => by subst e; exact h1 h2
        simp [h1, h3]
      · rw [if_neg h2, ih]
        have h3 : a = b := UInt8.le_antisymm (UInt8.not_lt.1 h2) (UInt8.not_lt.1 h1)
        simp [h3]
theorem compare_eq : ∀ (a b : List UInt8), (Lib.compareBytes a b = 0) ↔ a = b
  | [], [] => by simp [Lib.compareBytes]
  | [], _ :: _ => by simp [Lib.compareBytes]
  | _ :: _, [] => by simp [Lib.compareBytes]
  | a :: s, b :: t => by
    have ih := compare_eq s t
    unfold Lib.compareBytes
    by_cases h1 : a < b
    · have h3 : a ≠ b := fun e => by subst e; exact absurd h1 (UInt8.lt_irrefl a)
      simp [h1, h3]
    · rw [if_neg h1]
      by_cases h2 : b < a
      · rw [if_pos h2]
        have h3 : a ≠ b := fun e => by subst e; exact h1 h2
        simp [h3]
      · rw [if_neg h2, ih]
        have h3 : a = b := UInt8.le_antisymm (UInt8.not_lt.1 h2) (UInt8.not_lt.1 h1)
        simp [h3]
theorem compareInt_lt (a b : Int) : (Lib.compareInt a b < 0) ↔ a < b := by
  unfold Lib.compareInt
  repeat' split
  all_goals omega
theorem lt_is (x y : S53) : ltOf cf x y = ltk x y := decide_eq_decide.2 (by
  show cmpH x y < 0 ↔ _
  unfold cmpH
  by_cases h : Lib.compareBytes x.f0.data.toList y.f0.data.toList = 0
  · have h2 := (compare_eq _ _).1 h
    rw [if_pos h, compareInt_lt]
    constructor
    · exact fun h3 => .inr ⟨h2, h3⟩
    · rintro (h3 | h3)
      · rw [h2] at h3; exact absurd h3 (List.lt_irrefl _)
      · exact h3.2
  · rw [if_neg h, compare_lt]
    constructor
    · exact .inl
    · rintro (h3 | h3)
      · exact h3
      · exact absurd ((compare_eq _ _).2 h3.1) h)
theorem ltk_irrefl (x : S53) : ltk x x = false := decide_eq_false (by
  rintro (h | h)
  · exact List.lt_irrefl _ h
  · exact absurd h.2 (Int.lt_irrefl _))
theorem ltk_trans {x y z : S53} (h1 : ltk x y = true) (h2 : ltk y z = true) : ltk x z = true := by
  unfold ltk at *
  have a := of_decide_eq_true h1
  have b := of_decide_eq_true h2
  refine decide_eq_true ?_
  rcases a with a | ⟨a, a'⟩ <;> rcases b with b | ⟨b, b'⟩
  · exact .inl (List.lt_trans a b)
  · exact .inl (b ▸ a)
  · exact .inl (a ▸ b)
  · exact .inr ⟨a.trans b, Int.lt_trans a' b'⟩
/-- Of two that aren't alike one is below the other. -/
theorem ltk_tri (x y : S53) : ltk x y = true ∨ (x.f0.data.toList = y.f0.data.toList ∧ x.f1 = y.f1) ∨ ltk y x = true := by
  unfold ltk
  rcases lt_tri x.f0.data.toList y.f0.data.toList with h | h | h
  · exact .inl (decide_eq_true (.inl h))
  · rcases Int.lt_trichotomy x.f1 y.f1 with h2 | h2 | h2
    · exact .inl (decide_eq_true (.inr ⟨h, h2⟩))
    · exact .inr (.inl ⟨h, h2⟩)
    · exact .inr (.inr (decide_eq_true (.inr ⟨h.symm, h2⟩)))
  · exact .inr (.inr (decide_eq_true (.inl h)))
theorem ltk_ntrans {x y z : S53} (h1 : ltk x y = false) (h2 : ltk y z = false) : ltk x z = false := by
  rw [Bool.eq_false_iff]
  intro h
  rcases ltk_tri x y with a | a | a
  · rw [a] at h1; exact absurd h1 (by decide)
  · have e : ltk y z = ltk x z := by unfold ltk; rw [a.1, a.2]
    rw [← e, h2] at h
    exact absurd h (by decide)
  · have := ltk_trans a h
    rw [this] at h2
    exact absurd h2 (by decide)
theorem swo : SWO (ltOf cf) where
  irrefl x := by rw [lt_is]; exact ltk_irrefl x
  trans x y z h1 h2 := by rw [lt_is] at *; exact ltk_trans h1 h2
  ntrans x y z h1 h2 := by rw [lt_is] at *; exact ltk_ntrans h1 h2
set_option maxHeartbeats 1000000 in
theorem or_calls (g : Nat) (a b : Int) (w : World) (h0 : w.cell? ⟨g, 0, none⟩ = some (.int .i64 a)) (h1 : w.cell? ⟨g, 1, none⟩ = some (.int .i64 b)) :
    Calls Tryz.prog 112 #[.slice (some ⟨g, 0, none⟩) 2 2] w fun e w' => e = .returned (.int .i64 (if a = 0 then b else a)) ∧ w' = w := by
  obtain ⟨r, hr⟩ : ∃ r, r = if a = 0 then b else a := ⟨_, rfl⟩
  rw [← hr]
  have HR := Aside0.mk hr
  have H0 := Aside0.mk h0
  have H1 := Aside0.mk h1
  clear hr h0 h1
  go_enter Tryz.func112, Tryz.ntmps112
  go_wp2_with fail
  go_loopg [8] 2 (fun kq v8 w' => ∃ i : Nat, Aside0 (i + kq = 2) ∧ v8 = .int .i64 i ∧ Aside0 (1 ≤ i → a = 0) ∧ Aside0 (2 ≤ i → b = 0) ∧ Aside0 (w' = w))
  case atStart => exact ⟨0, ⟨rfl⟩, rfl, ⟨fun h => by omega⟩, ⟨fun h => by omega⟩, ⟨rfl⟩⟩
  case round =>
    obtain ⟨i, HIK, rfl, HA, HB, HW⟩ := hrel
    obtain rfl := HW.out
    have hi : i = 0 ∨ i = 1 ∨ i = 2 := by have := HIK.out; omega
    rcases hi with rfl | rfl | rfl
    · have c0 := H0.out
      by_cases ha : a = 0
      · have e1 : (a == 0) = true := beq_iff_eq.mpr ha
        have e2 : (a != 0) = false := by simp [ha]
        have HZ := Aside0.mk ha
        clear ha
        go_wp2_with fail
        go_roundg 1
        case measure => have := HIK.out; omega
        case rel => exact ⟨1, ⟨rfl⟩, rfl, ⟨fun _ => HZ.out⟩, ⟨fun h => by omega⟩, ⟨rfl⟩⟩
      · have e1 : (a == 0) = false := beq_eq_false_iff_ne.mpr ha
        have e2 : (a != 0) = true := by simp [ha]
        have hr := HR.out
        rw [if_neg ha] at hr
        subst hr
        clear ha
        go_wp2_with fail
        go_ret
        exact ⟨rfl, rfl⟩
    · have c1 := H1.out
      by_cases hb : b = 0
      · have e1 : (b == 0) = true := beq_iff_eq.mpr hb
        have e2 : (b != 0) = false := by simp [hb]
        have HZ := Aside0.mk hb
        clear hb
        go_wp2_with fail
        go_roundg 0
        case measure => have := HIK.out; omega
        case rel => exact ⟨2, ⟨rfl⟩, rfl, ⟨fun _ => HA.out (by omega)⟩, ⟨fun _ => HZ.out⟩, ⟨rfl⟩⟩
      · have e1 : (b == 0) = false := beq_eq_false_iff_ne.mpr hb
        have e2 : (b != 0) = true := by simp [hb]
        have hr := HR.out
        rw [if_pos (HA.out (by omega))] at hr
        subst hr
        clear hb
        go_wp2_with fail
        go_ret
        exact ⟨rfl, rfl⟩
    · have hr := HR.out
      rw [if_pos (HA.out (by omega)), HB.out (by omega)] at hr
      subst hr
      go_wp2_with fail
      go_ret
      exact ⟨rfl, rfl⟩
theorem or_calls' (g : Nat) (a b r : Int) (hr : (if a = 0 then b else a) = r) (w : World) (h0 : w.cell? ⟨g, 0, none⟩ = some (.int .i64 a)) (h1 : w.cell? ⟨g, 1, none⟩ = some (.int .i64 b)) :
    Calls Tryz.prog 112 #[.slice (some ⟨g, 0, none⟩) 2 2] w fun e w' => e = .returned (.int .i64 r) ∧ w' = w := by
  subst hr
  exact or_calls g a b w h0 h1
set_option maxRecDepth 100000 in
set_option maxHeartbeats 2000000 in
theorem closure111 (x y : S53) (W : World) : Calls Tryz.prog 111 #[.agg #[.string x.f0, .int .i64 x.f1], .agg #[.string y.f0, .int .i64 y.f1]] W fun e w' => e = .returned (.int .i64 (cf x y)) ∧ ∃ q os', w' = grow (W.drewN q) os' := by
  obtain ⟨r1, hr1⟩ : ∃ r, r = Lib.compareBytes x.f0.data.toList y.f0.data.toList := ⟨_, rfl⟩
  obtain ⟨r2, hr2⟩ : ∃ r, r = Lib.compareInt x.f1 y.f1 := ⟨_, rfl⟩
  have hcf : (if r1 = 0 then r2 else r1) = cf x y := by rw [hr1, hr2]; rfl
  have h113 : ∀ W', Calls Tryz.prog 113 #[.string x.f0, .string y.f0] W' fun e w' => e = .returned (.int .i64 r1) ∧ w' = W' := fun W' => by rw [hr1]; exact Any.strings_Compare Tryz.lays113 x.f0 y.f0 W'
  have h114 : ∀ W', Calls Tryz.prog 114 #[.int .i64 x.f1, .int .i64 y.f1] W' fun e w' => e = .returned (.int .i64 r2) ∧ w' = W' := fun W' => by rw [hr2]; exact Any.cmp_Compare_int Tryz.lays114 x.f1 y.f1 W'
  have H113 := Aside0.mk h113
  have H114 := Aside0.mk h114
  have HCF := Aside0.mk hcf
  generalize cf x y = r at HCF ⊢
  clear h113 h114 hcf hr1 hr2
  have hu53 := Tryz.underlying53
  go_enter Tryz.func111, Tryz.ntmps111
  go_upto_region 1 with (fail)
  have hq1 := blk_alloc (heap_alloc_new W (.cells #[.string x.f0, .int .i64 x.f1] 53)) (.cells #[.string y.f0, .int .i64 y.f1] 53)
  have hq2 := heap_alloc_new (W.alloc (.cells #[.string x.f0, .int .i64 x.f1] 53)) (.cells #[.string y.f0, .int .i64 y.f1] 53)
  rw [show (W.alloc (.cells #[.string x.f0, .int .i64 x.f1] 53)).heap.size = W.heap.size + 1 by simp] at hq2
  obtain ⟨q1, hqe1⟩ : ∃ q, q = W.heap.size := ⟨_, rfl⟩
  obtain ⟨q2, hqe2⟩ : ∃ q, q = W.heap.size + 1 := ⟨_, rfl⟩
  obtain ⟨W2, hW2⟩ : ∃ z, z = (W.alloc (.cells #[.string x.f0, .int .i64 x.f1] 53)).alloc (.cells #[.string y.f0, .int .i64 y.f1] 53) := ⟨_, rfl⟩
  rw [← hqe1, ← hW2] at hq1
  rw [← hqe2, ← hW2] at hq2
  rw [← hqe2, ← hqe1, ← hW2]
  have HW2 := Aside0.mk hW2
  have KP : Aside0 (∀ V, Below W2.heap.size W2 V → V.cell? ⟨q1, 0, none⟩ = some (.string x.f0) ∧ V.cell? ⟨q1, 1, none⟩ = some (.int .i64 x.f1) ∧ V.cell? ⟨q2, 0, none⟩ = some (.string y.f0) ∧ V.cell? ⟨q2, 1, none⟩ = some (.int .i64 y.f1)) := ⟨fun V hb => ⟨(blk_cell (blk_below hq1 hb) 0).trans rfl, (blk_cell (blk_below hq1 hb) 1).trans rfl, (blk_cell (blk_below hq2 hb) 0).trans rfl, (blk_cell (blk_below hq2 hb) 1).trans rfl⟩⟩
  clear hq1 hq2 hqe1 hqe2 hW2
  obtain ⟨k0, k1, k2, k3⟩ := KP.out W2 (Below.refl _ _)
  go_region_held3 (fun w' => w'.cell? ⟨q1, 0, none⟩ = some (.string x.f0) ∧ w'.cell? ⟨q1, 1, none⟩ = some (.int .i64 x.f1) ∧ w'.cell? ⟨q2, 0, none⟩ = some (.string y.f0) ∧ w'.cell? ⟨q2, 1, none⟩ = some (.int .i64 y.f1))
    (exact KP.out _ (by repeat (first | exact Below.refl _ _ | apply pw_below_drewN | apply below_drew1 | apply below_alloc)))
    (first
      | (go_at_call 113; refine (H113.out _).mono ?_; rintro e w' ⟨rfl, rfl⟩)
      | (go_at_call 114; refine (H114.out _).mono ?_; rintro e w' ⟨rfl, rfl⟩)
      | (go_at_call 112; refine (or_calls' W2.heap.size r1 r2 r HCF.out (W2.alloc (.cells #[.int .i64 r1, .int .i64 r2] 3)).drew ((blk_cell (blk_drew (heap_alloc_new W2 (.cells #[.int .i64 r1, .int .i64 r2] 3))) 0).trans rfl) ((blk_cell (blk_drew (heap_alloc_new W2 (.cells #[.int .i64 r1, .int .i64 r2] 3))) 1).trans rfl)).mono ?_; rintro e w' ⟨rfl, rfl⟩))
  go_wp2_with fail
  go_ret
  rw [HW2.out]
  exact ⟨rfl, 1, _, by rw [alloc_eq_grow, alloc_eq_grow, alloc_eq_grow, grow_grow, grow_grow]; rfl⟩
theorem cmpLays111 (blk off size : Nat) (w : World) : CmpLays Tryz.prog 111 #[] enc 2 cf blk off size w := fun _ _ _ _ x y => closure111 x y _
/-! ### a row of documents, as its cells -/
def flatL (xs : List S53) : List Value := xs.flatMap enc
theorem flatL_len (xs : List S53) : (flatL xs).length = xs.length * 2 := by
  induction xs with
  | nil => rfl
  | cons x xs ih => simp only [flatL, List.flatMap_cons, List.length_append] at *; rw [ih, enc_len, List.length_cons]; omega
theorem flatL_at (xs : List S53) : ∀ (j : Nat) (p : S53), xs[j]? = some p → ((flatL xs).drop (j * 2)).take 2 = enc p := by
  induction xs with
  | nil => intro j p h; simp at h
  | cons x xs ih =>
    intro j p h
    cases j with
    | zero =>
      simp at h; subst h
      simp [flatL, enc]
    | succ j =>
      have := ih j p (by simpa using h)
      rw [show (j + 1) * 2 = j * 2 + 2 by omega]
      rw [← this]
      simp only [flatL, List.flatMap_cons]
      rw [Nat.add_comm, ← List.drop_drop]
      rfl
theorem flat_of_reps {R : S53 → List Value → Prop} (hR : ∀ p c, R p c → c = enc p) : ∀ {xs : List S53} {cs : List Value}, Reps R 2 xs cs → cs = flatL xs
  | [], cs, h => by
    have := h.1
    exact List.eq_nil_of_length_eq_zero (by rw [this]; rfl)
  | x :: xs, cs, h => by
    have h0 := hR _ _ (h.2 0 x rfl)
    have hl := h.1
    simp only [List.length_cons] at hl
    have ht : Reps R 2 xs (cs.drop 2) := ⟨by rw [List.length_drop, hl]; omega, fun j p hj => by
      have := h.2 (j + 1) p (by simpa using hj)
      rw [show (j + 1) * 2 = 2 + j * 2 by omega, ← List.drop_drop] at this
      exact this⟩
    have e := flat_of_reps hR ht
    have : cs = cs.take 2 ++ cs.drop 2 := (List.take_append_drop 2 cs).symm
    rw [this, e]
    simp only [Nat.zero_mul, List.drop_zero] at h0
    rw [h0]
    rfl
theorem M_enc {w : World} {base : Nat} {ok : Nat → Prop} {p : S53} {c : List Value} (h : k53.M w base ok p c) : c = enc p := by
  have := k53_openM h
  exact this
theorem own_flat {w : World} {base : Nat} {ok : Nat → Prop} {v : Value} {xs : List S53} (h : Kd.R k53 53 w base ok v xs) : w.ownsRow base 53 2 v xs.length (flatL xs) := by
  obtain ⟨_, inner, ho, hr⟩ := h
  have e : inner = flatL xs := flat_of_reps (fun p c hp => M_enc hp) hr
  rw [← e]
  exact ho
theorem flat_own {w : World} {base : Nat} {ok : Nat → Prop} {v : Value} {xs : List S53} (h : w.ownsRow base 53 2 v xs.length (flatL xs)) (hok : ∀ k, v.ownBlock = some k → ok k) : Kd.R k53 53 w base ok v xs :=
  ⟨hok, flatL xs, h, ⟨flatL_len xs, fun j p hj => by rw [show k53.sz = 2 from rfl, flatL_at xs j p hj]; exact k53_mkM w base _ p⟩⟩
theorem bang {α : Type} [Inhabited α] (a : Array α) (i : Nat) (h : i < a.size) : a[i]! = a[i] := by simp [h]
theorem bangL {α : Type} [Inhabited α] (a : List α) (i : Nat) (h : i < a.length) : a[i]! = a[i] := by simp [h]
theorem flatK_at (xs : List S53) (t : Nat) (h : t < xs.length * 2) : ∃ u, (flatL xs)[t]? = some u ∧ (flatK enc 2 xs.toArray)[t]? = some u := by
  have hj : t / 2 < xs.length := by omega
  have hp : xs[t / 2]? = some xs[t / 2] := List.getElem?_eq_getElem hj
  have h1 := flatL_at xs (t / 2) _ hp
  have h2 : (((flatL xs).drop (t / 2 * 2)).take 2)[t % 2]? = (enc xs[t / 2])[t % 2]? := by rw [h1]
  rw [List.getElem?_take_of_lt (by omega), List.getElem?_drop, show t / 2 * 2 + t % 2 = t by omega] at h2
  have hlt : t % 2 < (enc xs[t / 2]).length := by rw [enc_len]; omega
  rw [List.getElem?_eq_getElem hlt] at h2
  refine ⟨_, h2, ?_⟩
  have hsz : t < (flatK enc 2 xs.toArray).size := by rw [size_flatK]; simpa using h
  rw [Array.getElem?_eq_getElem hsz]
  have h3 := get_flatK enc 2 xs.toArray t (by simpa using h)
  rw [bang _ _ hsz] at h3
  rw [h3, bang xs.toArray (t / 2) (by simpa using hj)]
  show some (enc xs[t / 2])[t % 2]! = _
  rw [bangL _ _ hlt]
theorem flatK_toList (xs : List S53) : (flatK enc 2 xs.toArray).toList = flatL xs := by
  apply List.ext_getElem?
  intro t
  by_cases h : t < xs.length * 2
  · obtain ⟨u, h1, h2⟩ := flatK_at xs t h
    rw [h1, Array.getElem?_toList, h2]
  · rw [List.getElem?_eq_none (by rw [Array.length_toList, size_flatK]; simpa using h), List.getElem?_eq_none (by rw [flatL_len]; omega)]
theorem holds_docs {w : World} {g : Nat} {cur : Array Value} {e : TypeId} {xs : List S53} (hb : w.heap[g]? = some (.cells cur e (0, 0))) (ht : cur.toList.take (xs.length * 2) = flatL xs) : HoldsK enc 2 w g 0 xs.toArray := by
  intro j hj
  have hj' : j < xs.length * 2 := by simpa using hj
  refine ⟨?_, by simp [World.frozen?, hb]⟩
  obtain ⟨u, h1, h2⟩ := flatK_at xs j hj'
  rw [← ht, List.getElem?_take_of_lt hj'] at h1
  simp only [World.cell?, hb, Nat.zero_add]
  simp only [Option.isSome_none, Bool.false_eq_true, if_false]
  rw [← Array.getElem?_toList, h1, id]
  rw [bang _ _ hj]
  rw [Array.getElem?_eq_getElem hj] at h2
  exact h2.symm
theorem heap_sortedK {w : World} {g n : Nat} {os : Array Obj} {cur : Array Value} {e : TypeId} {fr : Nat × Nat} (F : Array Value) (hb : w.heap[g]? = some (.cells cur e fr)) :
    (grow (putRow id (Sort.ahead w n) g 0 F) os).heap[g]? = some (.cells (putCells id 0 F cur) e fr) := by
  have hg : g < w.heap.size := (Array.getElem?_eq_some_iff.1 hb).1
  rw [heap_grow_old _ _ (by simpa using hg)]
  simp [putRow, mapBlock, Sort.ahead, Array.getElem?_modify, hb, onCells]
theorem grownBy_sortedK {w : World} {g n : Nat} {os : Array Obj} (F : Array Value) : w.grownBy (grow (putRow id (Sort.ahead w n) g 0 F) os) (some g) := by
  refine ⟨rfl, rfl, rfl, by simp, fun k hk hne => ?_⟩
  rw [heap_grow_old _ _ (by simpa using hk)]
  have : g ≠ k := fun e => hne (by rw [e])
  simp [putRow, mapBlock, Sort.ahead, Array.getElem?_modify, this]
theorem take_putCellsK (cur : Array Value) (F : Array Value) (h : F.size ≤ cur.size) : (putCells id 0 F cur).toList.take F.size = F.toList := by
  apply List.ext_getElem?
  intro j
  by_cases hj : j < F.size
  · rw [List.getElem?_take_of_lt hj, Array.getElem?_toList, Array.getElem?_toList]
    simp [putCells, hj, show j < cur.size by omega]
  · rw [List.getElem?_take_eq_none (by omega), List.getElem?_eq_none (by simp; omega)]
set_option maxHeartbeats 1000000 in
/-- slices.SortFunc over a row of documents of the call's own. -/
theorem sortHits_calls {w : World} {base : Nat} {ok : Nat → Prop} {v : Value} {xs : List S53} (h : Kd.R k53 53 w base ok v xs) (hn : xs.length ≤ 1000000000) :
    Calls Tryz.prog 110 #[v, .func (.func 111) #[] #[]] w fun e w' => e = .returned (.tuple #[]) ∧ ∃ ys, ys.Perm xs ∧ ys.Pairwise (fun a b => ltk b a = false) ∧ Kd.R k53 53 w' base ok v ys ∧ w.grownBy w' v.ownBlock := by
  have ho := own_flat h
  rcases ho.2 with ⟨rfl, hz⟩ | ⟨g, cap, cur, rfl, hbase, hg, r1, r2, r3, r4⟩
  · have hx : xs = [] := List.eq_nil_of_length_eq_zero hz
    subst hx
    have hcon : Calls Tryz.prog 110 #[.slice none 0 0, .func (.func 111) #[] #[]] w fun e w' => e = .returned (.tuple #[]) ∧ w' = w := AnyF.slices_SortFunc_none Tryz.sortf110 none 0 _ w
    refine hcon.mono ?_
    rintro e w' ⟨rfl, rfl⟩
    exact ⟨rfl, [], .refl _, .nil, h, World.grownBy.refl _ _⟩
  · have eg : ∀ args w, (callFunc 111 args).run Tryz.prog w = .ok (.enter 111 args) w := enters_of Tryz.func111 (by kernel_rfl) rfl
    have hgl : g < w.heap.size := (Array.getElem?_eq_some_iff.1 hg).1
    have hcon : Calls Tryz.prog 110 #[.slice (some ⟨g, 0, none⟩) xs.toArray.size cap, .func (.func 111) #[] #[]] w fun e w' => e = .returned (.tuple #[]) ∧ ∃ d' n os, PermIn 0 xs.toArray.size xs.toArray d' ∧ SortedIn (ltOf cf) 0 xs.toArray.size d' ∧ w' = sortWorldK enc 2 w g 0 n d' os :=
      AnyQ.slices_SortFunc Tryz.sortf110 2 Tryz.isAgg53 Tryz.sizeOf53 enc enc_len enc_one cf swo 111 #[] g 0 cap xs.toArray w eg (cmpLays111 g 0 xs.toArray.size w) (holds_docs hg (by simpa using r4)) hgl (by simp; omega)
    refine hcon.mono ?_
    rintro e w' ⟨rfl, d', n, os, hp, hs, rfl⟩
    have hsz : d'.size = xs.length := by simpa using hp.1
    have hperm : d'.toList.Perm xs := by
      have := hp.2.2
      rw [show xs.toArray.size = d'.size by rw [hsz]; simp] at this
      have e : List.take xs.length d'.toList = d'.toList := List.take_of_length_le (by rw [Array.length_toList, hsz]; exact Nat.le_refl _)
      simpa [hsz, e] using this
    have hlen : d'.toList.length = xs.length := hperm.length_eq
    have hgr : w.grownBy (sortWorldK enc 2 w g 0 n d' os) (some g) := grownBy_sortedK _
    have hF : (flatK enc 2 d').toList = flatL d'.toList := by
      have := flatK_toList d'.toList
      simpa using this
    have hFs : (flatK enc 2 d').size = xs.length * 2 := by rw [size_flatK, hsz]
    have hh : (sortWorldK enc 2 w g 0 n d' os).heap[g]? = some (.cells (putCells id 0 (flatK enc 2 d') cur) 53 (0, 0)) := heap_sortedK _ hg
    have htk : (putCells id 0 (flatK enc 2 d') cur).toList.take (xs.length * 2) = flatL d'.toList := by
      rw [← hFs, take_putCellsK cur _ (by rw [hFs, r3]; omega), hF]
    refine ⟨rfl, d'.toList, hperm, ?_, ?_, hgr⟩
    · rw [List.pairwise_iff_getElem]
      intro i j hi hj hij
      have h1 := hs i j (Nat.zero_le _) hij (by rw [hlen] at hj; simpa using hj)
      rw [lt_is] at h1
      rw [Array.length_toList] at hi hj
      rw [bang d' i hi, bang d' j hj] at h1
      simpa using h1
    · have hrow : (sortWorldK enc 2 w g 0 n d' os).ownsRow base 53 2 (.slice (some ⟨g, 0, none⟩) xs.length cap) d'.toList.length (flatL d'.toList) := by
        refine ⟨flatL_len _, .inr ⟨g, cap, _, by rw [hlen], hbase, hh, by rw [hlen]; exact r1, r2, by simp [putCells, r3], by rw [hlen]; exact htk⟩⟩
      exact flat_own hrow h.1
end Go.Proofs.YtpeldaogdeefeaaGreat.M
