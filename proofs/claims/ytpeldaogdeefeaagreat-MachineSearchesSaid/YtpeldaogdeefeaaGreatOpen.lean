/- An argument of a law that can be read is a Lean value of the kind that its type has: numbers fit their kinds, strings and slices are within the reach. -/
import Derived.Test.YtpeldaogdeefeaaGreatMWords
import Derived.SizedLaws
import Derived.ChangeArms
import Derived.ChangeSlices
namespace Go.Proofs.YtpeldaogdeefeaaGreat.Opening
open Go.ChangeShapes Go.WideShapes Go.RowKit Go.Proofs.YtpeldaogdeefeaaGreatW.PrintWords

def Small (l : List Nat) : Prop := l.all (· ≤ reachBytes) = true
theorem small_mem {l : List Nat} (h : Small l) {n : Nat} (hn : n ∈ l) : n ≤ 140737488351232 := by
  have := List.all_eq_true.1 h n hn
  exact (of_decide_eq_true this : n ≤ reachBytes)
theorem small_left {l m : List Nat} (h : Small (l ++ m)) : Small l := by
  unfold Small at *; rw [List.all_append, Bool.and_eq_true] at h; exact h.1
theorem small_right {l m : List Nat} (h : Small (l ++ m)) : Small m := by
  unfold Small at *; rw [List.all_append, Bool.and_eq_true] at h; exact h.2
theorem small_all {H : Type} {P : Program} {e : TypeId} : ∀ {ds : List (DataW H)}, Small (DataW.weightsAll P e ds) → ∀ d ∈ ds, Small (d.weights P e)
  | [], _, d, hd => by simp at hd
  | x :: r, h, d, hd => by
    simp only [DataW.weightsAll] at h
    rcases List.mem_cons.1 hd with rfl | hd
    · exact small_left h
    · exact small_all (small_right h) d hd

/-- Whatever reads as data of type t is of kind d, and what 'ok' says holds of it. -/
structure Opens {α : Type} (P : Program) (t : TypeId) (d : Kd α) (ok : α → Prop) : Prop where
  sz : P.cellsOf t = d.sz
  rd : ∀ {H : Type} {enc : TypeId × Value → H} {w : World} {base : Nat} {spare : Nat → Bool} {held : Bool} {fuel : Nat} {cs : List Value} {x : DataW H × List MemPlace},
    DataW.trod enc P w base spare held fuel t cs = some x → Small (x.1.weights P t) → ∃ a, d.K w a cs ∧ ok a

theorem opens_int {P : Program} {t : TypeId} {k : IntKind} (ht : P.underlying t = some (.int k)) (hc : P.cellsOf t = 1) : Opens P t (Kd.int k) (fun n => (Lit.int k n).wf = true) where
  sz := hc
  rd := fun h _ => by
    obtain ⟨n, rfl, rfl, hw⟩ := DataW.trod_int ht h
    exact ⟨n, rfl, hw⟩
theorem opens_bool {P : Program} {t : TypeId} (ht : P.underlying t = some .bool) (hc : P.cellsOf t = 1) : Opens P t Kd.bool (fun _ => True) where
  sz := hc
  rd := fun h _ => by
    obtain ⟨n, rfl, rfl⟩ := DataW.trod_bool ht h
    exact ⟨n, rfl, trivial⟩
theorem opens_string {P : Program} {t : TypeId} (ht : P.underlying t = some .string) (hc : P.cellsOf t = 1) : Opens P t Kd.string (fun s => s.size ≤ 140737488351232) where
  sz := hc
  rd := fun h hs => by
    obtain ⟨s, rfl, rfl, _⟩ := DataW.trod_string ht h
    refine ⟨s, rfl, ?_⟩
    have := small_mem hs (n := s.data.toList.length) (by simp [DataW.weights])
    simpa [Array.length_toList] using this
theorem choose_list {α β : Type} {R : α → β → Prop} : ∀ (l : List β), (∀ b ∈ l, ∃ a, R a b) → ∃ as : List α, as.length = l.length ∧ ∀ (i : Nat) (b : β), l[i]? = some b → ∃ a, as[i]? = some a ∧ R a b
  | [], _ => ⟨[], rfl, fun i b h => by simp at h⟩
  | b :: r, h => by
    obtain ⟨a, ha⟩ := h b (by simp)
    obtain ⟨as, hl, hr⟩ := choose_list r (fun x hx => h x (by simp [hx]))
    refine ⟨a :: as, by simp [hl], fun i x hx => ?_⟩
    cases i with
    | zero => simp at hx; subst hx; exact ⟨a, rfl, ha⟩
    | succ i => simp at hx; simpa using hr i x hx
theorem opens_slice {α : Type} {P : Program} {t e : TypeId} {d : Kd α} {ok : α → Prop} {B : Nat} (ht : P.underlying t = some (.slice e)) (hc : P.cellsOf t = 1) (hB : P.bytesOf e = B) (he : Opens P e d ok) :
    Opens P t (Kd.slice e d) (fun l => l.length * B ≤ 140737488351232 ∧ ∀ x ∈ l, ok x) where
  sz := hc
  rd := fun {H enc w base spare held fuel cs x} h hs => by
    rcases DataW.trod_slice ht h with ⟨rfl, rfl⟩ | ⟨a, len, cap, elems, rest, n, _, rfl, rfl, hb, hl, hm, hlen, hel, _, _⟩
    · exact ⟨[], ⟨none, 0, rfl, Nat.le_refl _, rfl, by simp, fun h => absurd h (Nat.lt_irrefl 0)⟩, by simp, by simp⟩
    · simp only [DataW.weights, ht] at hs
      have hs0 := small_mem hs (List.mem_cons_self ..)
      have hs1 : Small (DataW.weightsAll P e (elems.map (·.1))) := by
        have hs' : Small ([((elems.map (·.1)).length + (rest.map (·.1)).length) * P.bytesOf e] ++ (DataW.weightsAll P e (elems.map (·.1)) ++ DataW.weightsAll P e (rest.map (·.1)))) := hs
        exact small_left (small_right hs')
      have each : ∀ p ∈ (elems.zipIdx), ∃ y : α, (∃ c, w.cells? base (a.add (p.2 * P.cellsOf e)) (P.cellsOf e) = some c ∧ d.K w y c) ∧ ok y := by
        rintro ⟨p, i⟩ hp
        have hpi := List.mem_zipIdx hp
        have hi : i < elems.length := by have := hpi.2.1; omega
        have hget : elems[i]? = some p := by rw [List.getElem?_eq_getElem hi]; have := hpi.2.2; simp at this; rw [this]
        have h1 := hel i (by omega)
        rw [hget, Option.bind_eq_some_iff] at h1
        obtain ⟨c, hc1, hc2⟩ := h1
        obtain ⟨y, hy, hok⟩ := he.rd hc2 (small_all hs1 p.1 (List.mem_map_of_mem (List.mem_of_getElem? hget)))
        exact ⟨y, ⟨c, hc1, hy⟩, hok⟩
      obtain ⟨as, hal, har⟩ := choose_list _ each
      rw [List.length_zipIdx] at hal
      have hlen' : as.length = len := by omega
      have atI : ∀ i, i < len → ∃ y, as[i]? = some y ∧ (∃ c, w.cells? base (a.add (i * P.cellsOf e)) (P.cellsOf e) = some c ∧ d.K w y c) ∧ ok y := by
        intro i hi
        obtain ⟨y, hy1, hy2⟩ := har i (elems[i]'(by omega), i) (by rw [List.getElem?_zipIdx, List.getElem?_eq_getElem (by omega)]; simp)
        exact ⟨y, hy1, hy2⟩
      refine ⟨as, ⟨some a, cap, by rw [hlen'], by omega, rfl, by unfold maxLen at hm; omega, fun hp => ?_⟩, ?_, ?_⟩
      · refine ⟨a, rfl, ?_⟩
        intro i p hi
        have hlt : i < len := by have := (List.getElem?_eq_some_iff.1 hi).1; omega
        obtain ⟨y, hy, ⟨c, hc1, hc2⟩, _⟩ := atI i hlt
        rw [hi] at hy
        obtain rfl := Option.some.inj hy
        rw [he.sz] at hc1
        obtain ⟨_, hcl, hat⟩ := World.cells?_some hc1
        refine ⟨c, hcl, hc2, fun j u hu => ?_⟩
        have hj : j < d.sz := by have := (List.getElem?_eq_some_iff.1 hu).1; omega
        have := hat j hj
        have ha : (a.add (i * d.sz)).add j = a.add (i * d.sz + j) := by
          unfold Addr.add
          by_cases h1 : i * d.sz = 0 <;> by_cases h2 : j = 0 <;> simp [h1, h2, Nat.add_assoc]
        rw [← ha, this, hu]
      · simp only [List.length_map, hlen, hB] at hs0
        rw [hlen']
        exact Nat.le_trans (Nat.mul_le_mul_right _ (Nat.le_add_right _ _)) hs0
      · intro y hy
        obtain ⟨i, hi⟩ := List.getElem?_of_mem hy
        have hlt : i < len := by have := (List.getElem?_eq_some_iff.1 hi).1; omega
        obtain ⟨y', hy', _, hok⟩ := atI i hlt
        rw [hi] at hy'
        obtain rfl := Option.some.inj hy'
        exact hok

/-- Fields in line. -/
def cellsOfAll (P : Program) (ts : List TypeId) : Nat := (ts.map P.cellsOf).sum
structure OpensFs {α : Type} (P : Program) (ts : List TypeId) (d : Kd α) (ok : α → Prop) : Prop where
  sz : cellsOfAll P ts = d.sz
  rd : ∀ {H : Type} {enc : TypeId × Value → H} {w : World} {base : Nat} {spare : Nat → Bool} {held : Bool} {n : Nat} {cs : List Value} {xs : List (DataW H × List MemPlace)},
    cs.length = cellsOfAll P ts → xs.length = ts.length →
    (∀ (i : Nat) (t : TypeId), ts[i]? = some t → DataW.trod enc P w base spare held n t ((cs.drop (cellsOfAll P (ts.take i))).take (P.cellsOf t)) = xs[i]?) →
    Small (DataW.weightsEach P ts (xs.map (·.1))) → ∃ a, d.K w a cs ∧ ok a
theorem opens_last {α : Type} {P : Program} {t : TypeId} {d : Kd α} {ok : α → Prop} (h : Opens P t d ok) : OpensFs P [t] d ok where
  sz := by simp [cellsOfAll, h.sz]
  rd := fun {H enc w base spare held n cs xs} hl hx hf hs => by
    obtain ⟨x, rfl⟩ := List.length_eq_one_iff.1 hx
    have h0 := hf 0 t rfl
    simp [cellsOfAll] at h0 hl
    rw [List.take_of_length_le (by omega)] at h0
    refine h.rd h0 ?_
    simpa [DataW.weightsEach] using hs
theorem opens_cons {α β : Type} {P : Program} {t : TypeId} {ts : List TypeId} {d : Kd α} {d' : Kd β} {ok : α → Prop} {ok' : β → Prop} (h : Opens P t d ok) (h' : OpensFs P ts d' ok') : OpensFs P (t :: ts) (Kd.pair d d') (fun p => ok p.1 ∧ ok' p.2) where
  sz := by
    have := h'.sz
    simp only [cellsOfAll, List.map_cons, List.sum_cons, h.sz] at *
    rw [this]; rfl
  rd := fun {H enc w base spare held n cs xs} hl hx hf hs => by
    cases xs with
    | nil => simp at hx
    | cons x xs =>
      have hl' : cs.length = P.cellsOf t + cellsOfAll P ts := by rw [hl]; simp [cellsOfAll]
      have h0 := hf 0 t rfl
      simp [cellsOfAll] at h0
      have hs' : Small (x.1.weights P t ++ DataW.weightsEach P ts (xs.map (·.1))) := by simpa [DataW.weightsEach] using hs
      obtain ⟨a, ha, hoa⟩ := h.rd h0 (small_left hs')
      obtain ⟨b, hb, hob⟩ := h'.rd (cs := cs.drop (P.cellsOf t)) (xs := xs) (enc := enc) (w := w) (base := base) (spare := spare) (held := held) (n := n) (by rw [List.length_drop]; omega) (by simpa using hx) (fun i u hu => by
        have := hf (i + 1) u (by simpa using hu)
        simp only [List.take_succ_cons, List.getElem?_cons_succ] at this
        rw [← this, List.drop_drop]
        simp [cellsOfAll]) (small_right hs')
      exact ⟨(a, b), ⟨cs.take (P.cellsOf t), cs.drop (P.cellsOf t), (List.take_append_drop _ _).symm, ha, hb⟩, hoa, hob⟩
def offsetsOk (P : Program) (t : TypeId) (fs : Array Field) : Bool :=
  P.cellsOf t == cellsOfAll P (fs.toList.map (·.type)) && (List.range fs.size).all fun i => match fs[i]? with | some f => f.offset == cellsOfAll P ((fs.toList.map (·.type)).take i) | none => false
theorem opens_struct {α β : Type} {P : Program} {t : TypeId} {fs : Array Field} {d : Kd α} {ok : α → Prop} (f : β → α) (g : α → β) (hfg : ∀ a, f (g a) = a) (ht : P.underlying t = some (.struct fs)) (ho : offsetsOk P t fs = true) (h : OpensFs P (fs.toList.map (·.type)) d ok) :
    Opens P t (Kd.iso d f) (fun b => ok (f b)) where
  sz := by
    unfold offsetsOk at ho
    rw [Bool.and_eq_true, beq_iff_eq] at ho
    rw [ho.1]; exact h.sz
  rd := fun {H enc w base spare held fuel cs x} hx hs => by
    obtain ⟨xs, n, _, rfl, hl, hlen, hf⟩ := DataW.trod_struct ht hx
    unfold offsetsOk at ho
    rw [Bool.and_eq_true, beq_iff_eq] at ho
    obtain ⟨ho1, ho2⟩ := ho
    simp only [DataW.weights, ht] at hs
    obtain ⟨a, ha, hoa⟩ := h.rd (enc := enc) (w := w) (base := base) (spare := spare) (held := held) (n := n) (cs := cs) (xs := xs) (by rw [hl, ho1]) (by simpa using hlen) (fun i u hu => by
      simp only [List.getElem?_map, Option.map_eq_some_iff] at hu
      obtain ⟨fl, hfl, rfl⟩ := hu
      rw [Array.getElem?_toList] at hfl
      have hi : i < fs.size := (Array.getElem?_eq_some_iff.1 hfl).1
      have h2 := List.all_eq_true.1 ho2 i (by simpa using hi)
      rw [hfl] at h2
      simp only [beq_iff_eq] at h2
      rw [← h2]
      exact hf i fl hfl) hs
    exact ⟨g a, by show d.K w (f (g a)) cs; rw [hfg]; exact ha, by rw [hfg]; exact hoa⟩
/-- An argument. -/
theorem opens_arg {α : Type} {P : Program} {t : TypeId} {d : Kd α} {ok : α → Prop} (h : Opens P t d ok) {H : Type} {enc : TypeId × Value → H} {w : World} {base : Nat} {spare : Nat → Bool} {held : Bool} {v : Value} {x : DataW H} {p : List MemPlace}
    {ts : List TypeId} {ds : List (DataW H)} {j : Nat} (hsz : (DataW.weightsEach P ts ds).all (· ≤ reachBytes) = true) (htj : ts[j]? = some t) (hdj : ds[j]? = some x)
    (hv : DataW.Trod enc P w base spare held t v x p) : ∃ a, d.K w a v.cells.toList ∧ ok a := by
  obtain ⟨fuel, hf⟩ := hv
  refine h.rd hf ?_
  unfold Small
  rw [List.all_eq_true]
  intro n hn
  exact List.all_eq_true.1 hsz n (DataW.weights_mem_each htj hdj n hn)
end Go.Proofs.YtpeldaogdeefeaaGreat.Opening
