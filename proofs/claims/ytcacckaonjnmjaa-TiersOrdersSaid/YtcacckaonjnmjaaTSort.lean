/- slices.SortFunc over documents: the row holds the same documents, sorted by their names. -/
import Derived.Test.YtcacckaonjnmjaaTx0
import Derived.Test.YtcacckaonjnmjaaTLay
import Derived.Sort.OwnSorted
import Derived.Lib.SlKeysI
namespace Go.Proofs.Ytcacckaonjnmjaa.T
open Go.RowKit Go.Shelf Go.Lib Go.Sort Go.Proofs.YtcacckaonjnmjaaW.PrintWords Go.Proofs.YtcacckaonjnmjaaW.PrintLast Go.Proofs.YtcacckaonjnmjaaW.PrintMore
set_option linter.unusedVariables false
set_option linter.unusedSimpArgs false
instance : Inhabited S104 := ⟨z104⟩
def enc (x : S104) : List Value := [.string x.f0, .string x.f1]
def cf (x y : S104) : Int := Lib.compareBytes x.f0.data.toList y.f0.data.toList
def ltk (x y : S104) : Bool := decide (x.f0.data.toList < y.f0.data.toList)
theorem enc_len (x : S104) : (enc x).length = 2 := rfl
theorem enc_one (x : S104) : ∀ v ∈ enc x, v.oneCell' = true := fun v hv => by
  simp [enc] at hv
  rcases hv with rfl | rfl <;> rfl
theorem compare_lt : ∀ (a b : List UInt8), (Lib.compareBytes a b < 0) ↔ a < b
  | [], [] => by simp [Lib.compareBytes]
  | [], _ :: _ => by simp [Lib.compareBytes]
  | _ :: _, [] => by simp [Lib.compareBytes]
  | a :: s, b :: t => by
    have ih := compare_lt s t
    unfold Lib.compareBytes
    rw [List.cons_lt_cons_iff]
    by_cases h1 : a < b
    · simp [h1]
    · rw [if_neg h1]
      by_cases h2 : b < a
      · rw [if_pos h2]
        have h3 : a ≠ b := fun e => by subst e; exact h1 h2
        simp [h1, h3]
      · rw [if_neg h2, ih]
        have h3 : a = b := UInt8.le_antisymm (UInt8.not_lt.1 h2) (UInt8.not_lt.1 h1)
        simp [h3]
theorem lt_is (x y : S104) : ltOf cf x y = ltk x y := decide_eq_decide.2 (compare_lt _ _)
theorem ltk_irrefl (x : S104) : ltk x x = false := decide_eq_false (List.lt_irrefl _)
theorem ltk_trans {x y z : S104} (h1 : ltk x y = true) (h2 : ltk y z = true) : ltk x z = true := by
  unfold ltk at *
  exact decide_eq_true (List.lt_trans (of_decide_eq_true h1) (of_decide_eq_true h2))
theorem ltk_ntrans {x y z : S104} (h1 : ltk x y = false) (h2 : ltk y z = false) : ltk x z = false := by
  unfold ltk at *
  have a := List.not_lt.1 (of_decide_eq_false h1)
  have b := List.not_lt.1 (of_decide_eq_false h2)
  exact decide_eq_false (List.not_lt.2 (List.le_trans b a))
theorem swo : SWO (ltOf cf) where
  irrefl x := by rw [lt_is]; exact ltk_irrefl x
  trans x y z h1 h2 := by rw [lt_is] at *; exact ltk_trans h1 h2
  ntrans x y z h1 h2 := by rw [lt_is] at *; exact ltk_ntrans h1 h2
set_option maxHeartbeats 1000000 in
theorem closure75 (x y : S104) (W : World) : Calls Try.prog 75 #[.agg #[.string x.f0, .string x.f1], .agg #[.string y.f0, .string y.f1]] W fun e w' => e = .returned (.int .i64 (cf x y)) ∧ ∃ q os', w' = grow (W.drewN q) os' := by
  have hcon : ∀ W', Calls Try.prog 76 #[.string x.f0, .string y.f0] W' fun e w' => e = .returned (.int .i64 (cf x y)) ∧ w' = W' := fun W' => Any.strings_Compare Try.lays106 x.f0 y.f0 W'
  have hu104 := Try.underlying104
  generalize cf x y = r at hcon ⊢
  go_enter Try.func75, Try.ntmps75
  go_wp2_with (go_at_call 76; refine (hcon _).mono ?_; rintro e w' ⟨rfl, rfl⟩)
  go_ret
  exact ⟨rfl, 0, _, by rw [alloc_eq_grow, alloc_eq_grow, grow_grow]; rfl⟩
theorem cmpLays75 (blk off size : Nat) (w : World) : CmpLays Try.prog 75 #[] enc 2 cf blk off size w := fun _ _ _ _ x y => closure75 x y _
/-! ### a row of documents, as its cells -/
def flatL (xs : List S104) : List Value := xs.flatMap enc
theorem flatL_len (xs : List S104) : (flatL xs).length = xs.length * 2 := by
  induction xs with
  | nil => rfl
  | cons x xs ih => simp only [flatL, List.flatMap_cons, List.length_append] at *; rw [ih, enc_len, List.length_cons]; omega
theorem flatL_at (xs : List S104) : ∀ (j : Nat) (p : S104), xs[j]? = some p → ((flatL xs).drop (j * 2)).take 2 = enc p := by
  induction xs with
  | nil => intro j p h; simp at h
  | cons x xs ih =>
    intro j p h
    cases j with
    | zero =>
      simp at h; subst h
      simp [flatL, enc]
    | succ j =>
      have := ih j p (by simpa using h)
      rw [show (j + 1) * 2 = j * 2 + 2 by omega]
      rw [← this]
      simp only [flatL, List.flatMap_cons]
      rw [Nat.add_comm, ← List.drop_drop]
      rfl
theorem flat_of_reps {R : S104 → List Value → Prop} (hR : ∀ p c, R p c → c = enc p) : ∀ {xs : List S104} {cs : List Value}, Reps R 2 xs cs → cs = flatL xs
  | [], cs, h => by
    have := h.1
    exact List.eq_nil_of_length_eq_zero (by rw [this]; rfl)
  | x :: xs, cs, h => by
    have h0 := hR _ _ (h.2 0 x rfl)
    have hl := h.1
    simp only [List.length_cons] at hl
    have ht : Reps R 2 xs (cs.drop 2) := ⟨by rw [List.length_drop, hl]; omega, fun j p hj => by
      have := h.2 (j + 1) p (by simpa using hj)
      rw [show (j + 1) * 2 = 2 + j * 2 by omega, ← List.drop_drop] at this
      exact this⟩
    have e := flat_of_reps hR ht
    have : cs = cs.take 2 ++ cs.drop 2 := (List.take_append_drop 2 cs).symm
    rw [this, e]
    simp only [Nat.zero_mul, List.drop_zero] at h0
    rw [h0]
    rfl
theorem M_enc {w : World} {base : Nat} {ok : Nat → Prop} {p : S104} {c : List Value} (h : k104.M w base ok p c) : c = enc p := by
  have := k104_openM h
  exact this
theorem own_flat {w : World} {base : Nat} {ok : Nat → Prop} {v : Value} {xs : List S104} (h : Kd.R k104 104 w base ok v xs) : w.ownsRow base 104 2 v xs.length (flatL xs) := by
  obtain ⟨_, inner, ho, hr⟩ := h
  have e : inner = flatL xs := flat_of_reps (fun p c hp => M_enc hp) hr
  rw [← e]
  exact ho
theorem flat_own {w : World} {base : Nat} {ok : Nat → Prop} {v : Value} {xs : List S104} (h : w.ownsRow base 104 2 v xs.length (flatL xs)) (hok : ∀ k, v.ownBlock = some k → ok k) : Kd.R k104 104 w base ok v xs :=
  ⟨hok, flatL xs, h, ⟨flatL_len xs, fun j p hj => by rw [show k104.sz = 2 from rfl, flatL_at xs j p hj]; exact k104_mkM w base _ p⟩⟩
theorem bang {α : Type} [Inhabited α] (a : Array α) (i : Nat) (h : i < a.size) : a[i]! = a[i] := by simp [h]
theorem bangL {α : Type} [Inhabited α] (a : List α) (i : Nat) (h : i < a.length) : a[i]! = a[i] := by simp [h]
theorem flatK_at (xs : List S104) (t : Nat) (h : t < xs.length * 2) : ∃ u, (flatL xs)[t]? = some u ∧ (flatK enc 2 xs.toArray)[t]? = some u := by
  have hj : t / 2 < xs.length := by omega
  have hp : xs[t / 2]? = some xs[t / 2] := List.getElem?_eq_getElem hj
  have h1 := flatL_at xs (t / 2) _ hp
  have h2 : (((flatL xs).drop (t / 2 * 2)).take 2)[t % 2]? = (enc xs[t / 2])[t % 2]? := by rw [h1]
  rw [List.getElem?_take_of_lt (by omega), List.getElem?_drop, show t / 2 * 2 + t % 2 = t by omega] at h2
  have hlt : t % 2 < (enc xs[t / 2]).length := by rw [enc_len]; omega
  rw [List.getElem?_eq_getElem hlt] at h2
  refine ⟨_, h2, ?_⟩
  have hsz : t < (flatK enc 2 xs.toArray).size := by rw [size_flatK]; simpa using h
  rw [Array.getElem?_eq_getElem hsz]
  have h3 := get_flatK enc 2 xs.toArray t (by simpa using h)
  rw [bang _ _ hsz] at h3
  rw [h3, bang xs.toArray (t / 2) (by simpa using hj)]
  show some (enc xs[t / 2])[t % 2]! = _
  rw [bangL _ _ hlt]
theorem flatK_toList (xs : List S104) : (flatK enc 2 xs.toArray).toList = flatL xs := by
  apply List.ext_getElem?
  intro t
  by_cases h : t < xs.length * 2
  · obtain ⟨u, h1, h2⟩ := flatK_at xs t h
    rw [h1, Array.getElem?_toList, h2]
  · rw [List.getElem?_eq_none (by rw [Array.length_toList, size_flatK]; simpa using h), List.getElem?_eq_none (by rw [flatL_len]; omega)]
theorem holds_docs {w : World} {g : Nat} {cur : Array Value} {e : TypeId} {xs : List S104} (hb : w.heap[g]? = some (.cells cur e (0, 0))) (ht : cur.toList.take (xs.length * 2) = flatL xs) : HoldsK enc 2 w g 0 xs.toArray := by
  intro j hj
  have hj' : j < xs.length * 2 := by simpa using hj
  refine ⟨?_, by simp [World.frozen?, hb]⟩
  obtain ⟨u, h1, h2⟩ := flatK_at xs j hj'
  rw [← ht, List.getElem?_take_of_lt hj'] at h1
  simp only [World.cell?, hb, Nat.zero_add]
  simp only [Option.isSome_none, Bool.false_eq_true, if_false]
  rw [← Array.getElem?_toList, h1, id]
  rw [bang _ _ hj]
  rw [Array.getElem?_eq_getElem hj] at h2
  exact h2.symm
theorem heap_sortedK {w : World} {g n : Nat} {os : Array Obj} {cur : Array Value} {e : TypeId} {fr : Nat × Nat} (F : Array Value) (hb : w.heap[g]? = some (.cells cur e fr)) :
    (grow (putRow id (Sort.ahead w n) g 0 F) os).heap[g]? = some (.cells (putCells id 0 F cur) e fr) := by
  have hg : g < w.heap.size := (Array.getElem?_eq_some_iff.1 hb).1
  rw [heap_grow_old _ _ (by simpa using hg)]
  simp [putRow, mapBlock, Sort.ahead, Array.getElem?_modify, hb, onCells]
theorem grownBy_sortedK {w : World} {g n : Nat} {os : Array Obj} (F : Array Value) : w.grownBy (grow (putRow id (Sort.ahead w n) g 0 F) os) (some g) := by
  refine ⟨rfl, rfl, rfl, by simp, fun k hk hne => ?_⟩
  rw [heap_grow_old _ _ (by simpa using hk)]
  have : g ≠ k := fun e => hne (by rw [e])
  simp [putRow, mapBlock, Sort.ahead, Array.getElem?_modify, this]
theorem take_putCellsK (cur : Array Value) (F : Array Value) (h : F.size ≤ cur.size) : (putCells id 0 F cur).toList.take F.size = F.toList := by
  apply List.ext_getElem?
  intro j
  by_cases hj : j < F.size
  · rw [List.getElem?_take_of_lt hj, Array.getElem?_toList, Array.getElem?_toList]
    simp [putCells, hj, show j < cur.size by omega]
  · rw [List.getElem?_take_eq_none (by omega), List.getElem?_eq_none (by simp; omega)]
set_option maxHeartbeats 1000000 in
/-- slices.SortFunc over a row of documents of the call's own. -/
theorem sort_calls {w : World} {base : Nat} {ok : Nat → Prop} {v : Value} {xs : List S104} (h : Kd.R k104 104 w base ok v xs) (hn : xs.length ≤ 1000000000) :
    Calls Try.prog 74 #[v, .func (.func 75) #[] #[]] w fun e w' => e = .returned (.tuple #[]) ∧ ∃ ys, ys.Perm xs ∧ ys.Pairwise (fun a b => ltk b a = false) ∧ Kd.R k104 104 w' base ok v ys ∧ w.grownBy w' v.ownBlock := by
  have ho := own_flat h
  rcases ho.2 with ⟨rfl, hz⟩ | ⟨g, cap, cur, rfl, hbase, hg, r1, r2, r3, r4⟩
  · have hx : xs = [] := List.eq_nil_of_length_eq_zero hz
    subst hx
    have hcon : Calls Try.prog 74 #[.slice none 0 0, .func (.func 75) #[] #[]] w fun e w' => e = .returned (.tuple #[]) ∧ w' = w := AnyF.slices_SortFunc_none Try.sortf74 none 0 _ w
    refine hcon.mono ?_
    rintro e w' ⟨rfl, rfl⟩
    exact ⟨rfl, [], .refl _, .nil, h, World.grownBy.refl _ _⟩
  · have eg : ∀ args w, (callFunc 75 args).run Try.prog w = .ok (.enter 75 args) w := enters_of Try.func75 (by kernel_rfl) rfl
    have hgl : g < w.heap.size := (Array.getElem?_eq_some_iff.1 hg).1
    have hcon : Calls Try.prog 74 #[.slice (some ⟨g, 0, none⟩) xs.toArray.size cap, .func (.func 75) #[] #[]] w fun e w' => e = .returned (.tuple #[]) ∧ ∃ d' n os, PermIn 0 xs.toArray.size xs.toArray d' ∧ SortedIn (ltOf cf) 0 xs.toArray.size d' ∧ w' = sortWorldK enc 2 w g 0 n d' os :=
      AnyQ.slices_SortFunc Try.sortf74 2 Try.isAgg104 Try.sizeOf104 enc enc_len enc_one cf swo 75 #[] g 0 cap xs.toArray w eg (cmpLays75 g 0 xs.toArray.size w) (holds_docs hg (by simpa using r4)) hgl (by simp; omega)
    refine hcon.mono ?_
    rintro e w' ⟨rfl, d', n, os, hp, hs, rfl⟩
    have hsz : d'.size = xs.length := by simpa using hp.1
    have hperm : d'.toList.Perm xs := by
      have := hp.2.2
      rw [show xs.toArray.size = d'.size by rw [hsz]; simp] at this
      have e : List.take xs.length d'.toList = d'.toList := List.take_of_length_le (by rw [Array.length_toList, hsz]; exact Nat.le_refl _)
      simpa [hsz, e] using this
    have hlen : d'.toList.length = xs.length := hperm.length_eq
    have hgr : w.grownBy (sortWorldK enc 2 w g 0 n d' os) (some g) := grownBy_sortedK _
    have hF : (flatK enc 2 d').toList = flatL d'.toList := by
      have := flatK_toList d'.toList
      simpa using this
    have hFs : (flatK enc 2 d').size = xs.length * 2 := by rw [size_flatK, hsz]
    have hh : (sortWorldK enc 2 w g 0 n d' os).heap[g]? = some (.cells (putCells id 0 (flatK enc 2 d') cur) 104 (0, 0)) := heap_sortedK _ hg
    have htk : (putCells id 0 (flatK enc 2 d') cur).toList.take (xs.length * 2) = flatL d'.toList := by
      rw [← hFs, take_putCellsK cur _ (by rw [hFs, r3]; omega), hF]
    refine ⟨rfl, d'.toList, hperm, ?_, ?_, hgr⟩
    · rw [List.pairwise_iff_getElem]
      intro i j hi hj hij
      have h1 := hs i j (Nat.zero_le _) hij (by rw [hlen] at hj; simpa using hj)
      rw [lt_is] at h1
      rw [Array.length_toList] at hi hj
      rw [bang d' i hi, bang d' j hj] at h1
      simpa using h1
    · have hrow : (sortWorldK enc 2 w g 0 n d' os).ownsRow base 104 2 (.slice (some ⟨g, 0, none⟩) xs.length cap) d'.toList.length (flatL d'.toList) := by
        refine ⟨flatL_len _, .inr ⟨g, cap, _, by rw [hlen], hbase, hh, by rw [hlen]; exact r1, r2, by simp [putCells, r3], by rw [hlen]; exact htk⟩⟩
      exact flat_own hrow h.1
end Go.Proofs.Ytcacckaonjnmjaa.T
