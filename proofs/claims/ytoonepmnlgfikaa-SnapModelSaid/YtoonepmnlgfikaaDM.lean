/- Disk (merged). -/
import Derived.Test.YtoonepmnlgfikaaDTWalk
/-! DModel -/
namespace Go.Proofs.Ytoonepmnlgfikaa.D
open Go.RowKit Go.Proofs.YtoonepmnlgfikaaW.PrintWords Go.Proofs.YtoonepmnlgfikaaW.PrintLast Go.Proofs.YtoonepmnlgfikaaW.PrintMore Go.Proofs.Ytoonepmnlgfikaa.Base Go.Maps Go.Sort Go.Shelf
set_option linter.unusedVariables false
set_option linter.unusedSimpArgs false
/-- The keys of a disk's map are its names, each once. -/
theorem Files.keys {w : World} {b n : Nat} {D : DataW Unit} (h : Files w b n D) : (strKeys D).Nodup ∧ ∀ x, x ∈ strKeys D ↔ has D (.string x) = true := by
  obtain ⟨es, hD, hpw⟩ := World.ownsMap.tidy h K9
  obtain ⟨es', hD', hko⟩ := World.ownsMap.keysOf h
  obtain rfl : es = es' := by rw [hD] at hD'; simpa using hD'
  subst hD
  have hk : ∀ p ∈ es, ∃ x, p.1 = .string x := fun p hp => by obtain ⟨v, hv⟩ := hko p hp; obtain ⟨x, _, hx, _⟩ := Maps.keyOf_str Try.underlying9 hv; exact ⟨x, hx⟩
  refine ⟨?_, fun x => ?_⟩
  · show (es.map fun p => strOf p.1).Nodup
    refine List.pairwise_map.2 (hpw.imp_of_mem fun {p q} hp' hq' hne e => hne ?_)
    obtain ⟨a, ha⟩ := hk p hp'
    obtain ⟨b, hb⟩ := hk q hq'
    rw [ha, hb] at e ⊢
    exact congrArg _ e
  · rw [has_eq, List.any_eq_true]
    show x ∈ es.map (fun p => strOf p.1) ↔ _
    rw [List.mem_map]
    constructor
    · rintro ⟨p, hp', rfl⟩
      obtain ⟨a, ha⟩ := hk p hp'
      exact ⟨p, hp', by rw [ha]; simp [Lit.sameKey, strOf]⟩
    · rintro ⟨p, hp', hs⟩
      obtain ⟨a, ha⟩ := hk p hp'
      rw [ha] at hs
      exact ⟨p, hp', by rw [ha]; simpa [Lit.sameKey, strOf] using hs⟩
/-- What lies below B, and every row of bytes, stays. -/
structure Calm (B : Nat) (w W : World) : Prop where
  size : w.heap.size ≤ W.heap.size
  kept : ∀ i, i < w.heap.size → (i < B ∨ ∃ c t z, w.heap[i]? = some (.cells c t z) ∧ t ≠ 59 ∧ t ≠ 82) → W.heap[i]? = w.heap[i]?
theorem Calm.refl (B : Nat) (w : World) : Calm B w w := ⟨Nat.le_refl _, fun _ _ _ => rfl⟩
theorem Calm.trans {B : Nat} {w w1 w2 : World} (h : Calm B w w1) (k : Calm B w1 w2) : Calm B w w2 :=
  ⟨Nat.le_trans h.size k.size, fun i hi hc => by
    have e := h.kept i hi hc
    refine (k.kept i (Nat.lt_of_lt_of_le hi h.size) ?_).trans e
    rcases hc with hc | ⟨c, t, z, hc, h1, h2⟩
    · exact .inl hc
    · exact .inr ⟨c, t, z, e.trans hc, h1, h2⟩⟩
theorem Calm.below {B : Nat} {w W : World} (h : Below w.heap.size w W) : Calm B w W := ⟨h.size, fun i hi _ => h.block i hi⟩
theorem Calm.drewN {B : Nat} {w : World} (n : Nat) : Calm B w (w.drewN n) := Calm.below (pw_below_drewN (Below.refl _ _) n)
/-- A call that turned the power's block, the map's block and one file's block alone. -/
theorem Calm.of_kept {B g b f : Nat} {w W : World} {cg : Array Value} {eb : Array MapEntry} {kb : Nat} {cf : Array Value} (hg : w.heap[g]? = some (.cells cg 59 (0, 0))) (hb : w.heap[b]? = some (.map eb kb)) (hf : f < w.heap.size → w.heap[f]? = some (.cells cf 82 (0, 0)))
    (hgB : B ≤ g) (hbB : B ≤ b) (hfB : B ≤ f) (hs : w.heap.size ≤ W.heap.size) (hk : ∀ i, i < w.heap.size → i ≠ g → i ≠ b → i ≠ f → W.heap[i]? = w.heap[i]?) : Calm B w W :=
  ⟨hs, fun i hi hc => hk i hi
    (by rintro rfl; rcases hc with hc | ⟨c, t, z, hc, ht1, ht2⟩
        · omega
        · rw [hg] at hc; injection hc with hc; injection hc with _ hc _; exact ht1 hc.symm)
    (by rintro rfl; rcases hc with hc | ⟨c, t, z, hc, ht1, ht2⟩
        · omega
        · rw [hb] at hc; injection hc with hc; cases hc)
    (by rintro rfl; rcases hc with hc | ⟨c, t, z, hc, ht1, ht2⟩
        · omega
        · rw [hf hi] at hc; injection hc with hc; injection hc with _ hc _; exact ht2 hc.symm)⟩
theorem Calm.row {B B' : Nat} {w W : World} {v : Value} {l : List Int} (h : Calm B' w W) (hr : Kd.R (Kd.int .u8) 5 w B (fun _ => True) v l) : Kd.R (Kd.int .u8) 5 W B (fun _ => True) v l :=
  Kd.R_mono (Kd.R_step (Kd.R_bound hr) (fun k hk hl => h.kept k hl (.inr (by
    obtain ⟨q, hq, c, hc⟩ := hk.2.2.2
    obtain rfl : q = 5 := by
      rcases List.mem_cons.1 hq with h | h
      · exact h
      · cases h
    exact ⟨c, 5, _, hc, by decide, by decide⟩)))) (fun _ _ => trivial)
theorem Calm.bytes {B : Nat} {w W : World} {A : Option Addr} {l : List Int} (h : Calm B w W) (hB : w.heap.size ≤ B) (hr : Kd.C (Kd.int .u8) w A l.length l) : Kd.C (Kd.int .u8) W A l.length l :=
  C_heap hr (fun i hi => h.kept i hi (.inl (by omega)))
/-- A file's block: two rows of one's own. -/
structure FileR (w : World) (B f : Nat) (s l : List Int) : Prop where
  at_ : ∃ v0 v1, w.heap[f]? = some (.cells #[v0, v1] 82 (0, 0)) ∧ Kd.R (Kd.int .u8) 5 w B (fun _ => True) v0 s ∧ Kd.R (Kd.int .u8) 5 w B (fun _ => True) v1 l
  low : B ≤ f
  ls : s.length ≤ 1048576
  ll : l.length ≤ 1048576
theorem FileR.calm {w W : World} {B f : Nat} {s l : List Int} (h : FileR w B f s l) (hc : Calm B w W) (hf : W.heap[f]? = w.heap[f]?) : FileR W B f s l := by
  obtain ⟨⟨v0, v1, h1, h2, h3⟩, h4, h5, h6⟩ := h
  exact ⟨⟨v0, v1, hf.trans h1, hc.row h2, hc.row h3⟩, h4, h5, h6⟩
theorem FileR.ok {w : World} {B f : Nat} {s l : List Int} (h : FileR w B f s l) : FileOk w f s l := by
  obtain ⟨⟨v0, v1, h1, h2, h3⟩, h4, h5, h6⟩ := h
  obtain ⟨A0, c0, rfl⟩ := Kd.R_slice h2
  obtain ⟨A1, c1, rfl⟩ := Kd.R_slice h3
  have r0 := Kd.R_reads' h2
  have r1 := Kd.R_reads' h3
  exact ⟨A0, c0, A1, c1, h1, r0.2.2, r0.2.1, r1.2.2, r1.2.1, by omega, by omega⟩
abbrev Model := List UInt8 → Option (List Int × List Int)
def Model.put (F : Model) (nm : List UInt8) (x : Option (List Int × List Int)) : Model := fun k => if k = nm then x else F k
theorem Model.put_same (F : Model) (nm : List UInt8) (x : Option (List Int × List Int)) : F.put nm x nm = x := if_pos rfl
theorem Model.put_other (F : Model) {nm k : List UInt8} (x : Option (List Int × List Int)) (h : k ≠ nm) : F.put nm x k = F k := if_neg h
/-- A disk whose files are F's. -/
structure Dsk (w : World) (B g b cnt : Nat) (n : Int) (D : DataW Unit) (F : Model) : Prop where
  lowg : B ≤ g
  lowb : B ≤ b
  gb : b ≠ g
  pow : PowAt w g b n
  files : Files w b cnt D
  none_ : ∀ nm, F nm = none → has D (.string nm) = false
  some_ : ∀ nm s l, F nm = some (s, l) → ∃ f, (∀ z, D.atKey (.string nm) z = pe (some f)) ∧ FileR w B f s l
  apart : ∀ nm nm' f, D.atKey (.string nm) (pe none) = pe (some f) → D.atKey (.string nm') (pe none) = pe (some f) → nm = nm'
  good : ∀ nm, F nm ≠ none → nameB ⟨nm.toArray⟩ = true
  few : Maps.size D ≤ 16
theorem Dsk.tidy {w : World} {B g b cnt : Nat} {n : Int} {D : DataW Unit} {F : Model} (h : Dsk w B g b cnt n D F) : Tidy D := World.ownsMap.tidy h.files K9
/-- Nothing of it was touched. -/
theorem Dsk.calm {w W : World} {B g b cnt : Nat} {n n' : Int} {D : DataW Unit} {F : Model} (h : Dsk w B g b cnt n D F) (hg : PowAt W g b n') (hm : W.heap[b]? = w.heap[b]?) (hc : Calm B w W) (hk : ∀ (i : Nat) (c : Array Value), w.heap[i]? = some (.cells c 82 (0, 0)) → W.heap[i]? = w.heap[i]?) : Dsk W B g b cnt n' D F :=
  { h with
    pow := hg
    files := Files.of_block h.files hm
    some_ := fun nm s l e => by
      obtain ⟨f, h1, h2⟩ := h.some_ nm s l e
      obtain ⟨v0, v1, h3, _⟩ := h2.at_
      exact ⟨f, h1, h2.calm hc (hk f _ h3)⟩ }
theorem Dsk.below {w W : World} {B g b cnt : Nat} {n : Int} {D : DataW Unit} {F : Model} (h : Dsk w B g b cnt n D F) (hb : Below w.heap.size w W) : Dsk W B g b cnt n D F :=
  h.calm ((hb.block g (blk_lt h.pow)).trans h.pow) (hb.block b (World.ownsMap.lt h.files)) (Calm.below hb) (fun i c hi => hb.block i (blk_lt hi))
theorem Dsk.drewN {w : World} {B g b cnt : Nat} {n : Int} {D : DataW Unit} {F : Model} (h : Dsk w B g b cnt n D F) (m : Nat) : Dsk (w.drewN m) B g b cnt n D F := h.below (pw_below_drewN (Below.refl _ _) m)
/-- One file's block was turned, beside the power's. -/
theorem Dsk.turn {w W : World} {B g b cnt : Nat} {n n' : Int} {D : DataW Unit} {F : Model} (h : Dsk w B g b cnt n D F) (nm : List UInt8) (s l s' l' : List Int) (f : Nat) (hF : F nm = some (s, l)) (hf : D.atKey (.string nm) (pe none) = pe (some f)) (hg : PowAt W g b n') (hm : W.heap[b]? = w.heap[b]?) (hc : Calm B w W) (hk : ∀ (i : Nat) (c : Array Value), i ≠ f → w.heap[i]? = some (.cells c 82 (0, 0)) → W.heap[i]? = w.heap[i]?) (hR : FileR W B f s' l') : Dsk W B g b cnt n' D (F.put nm (some (s', l'))) :=
  { h with
    pow := hg
    files := Files.of_block h.files hm
    none_ := fun k e => by
      by_cases hk : k = nm
      · subst hk; rw [Model.put_same] at e; cases e
      · rw [Model.put_other _ _ hk] at e; exact h.none_ k e
    some_ := fun k s1 l1 e => by
      by_cases hkn : k = nm
      · subst hkn
        rw [Model.put_same] at e
        obtain ⟨f', h1, h2⟩ := h.some_ k s l hF
        obtain rfl : f = f' := by have := (h1 (pe none)).symm.trans hf; injection (pe_inj this.symm)
        injection e with e
        injection e with e1 e2
        subst e1 e2
        exact ⟨f, h1, hR⟩
      · rw [Model.put_other _ _ hkn] at e
        obtain ⟨f', h1, h2⟩ := h.some_ k s1 l1 e
        obtain ⟨v0, v1, h3, _⟩ := h2.at_
        exact ⟨f', h1, h2.calm hc (hk f' _ (by rintro rfl; exact hkn (h.apart k nm f' (h1 _) hf)) h3)⟩
    good := fun k e => by
      by_cases hk : k = nm
      · subst hk; exact h.good k (by rw [hF]; exact Option.some_ne_none _)
      · rw [Model.put_other _ _ hk] at e; exact h.good k e }
/-- A file more. -/
theorem Dsk.more {w W : World} {B g b cnt cnt' : Nat} {n n' : Int} {D : DataW Unit} {F : Model} (h : Dsk w B g b cnt n D F) (nm : List UInt8) (s' l' : List Int) (f : Nat) (hF : F nm = none) (hgd : nameB ⟨nm.toArray⟩ = true) (hsz : Maps.size D < 16) (hg : PowAt W g b n') (hm : Files W b cnt' (D.put (.string nm) (pe (some f)))) (hc : Calm B w W) (hk : ∀ (i : Nat) (c : Array Value), w.heap[i]? = some (.cells c 82 (0, 0)) → W.heap[i]? = w.heap[i]?) (hnew : w.heap.size ≤ f) (hR : FileR W B f s' l') : Dsk W B g b cnt' n' (D.put (.string nm) (pe (some f))) (F.put nm (some (s', l'))) := by
  have ht := h.tidy
  have hl : WideAt.IsKeyLit (.string nm) := trivial
  have hfr : ∀ k f', k ≠ nm → (D.put (.string nm) (pe (some f))).atKey (.string k) (pe none) = pe (some f') → f' < w.heap.size := fun k f' hkn e => by
    rw [atKey_put_other (by simpa using hkn)] at e
    cases hx : F k with
    | none => rw [atKey_of_not_has (h.none_ k hx)] at e; cases pe_inj e
    | some p =>
      obtain ⟨s1, l1⟩ := p
      obtain ⟨f1, h1, h2⟩ := h.some_ k s1 l1 hx
      obtain ⟨v0, v1, h3, _⟩ := h2.at_
      have := pe_inj ((h1 _).symm.trans e)
      injection this with this
      rw [← this]; exact blk_lt h3
  have hsame : ∀ z, (D.put (.string nm) (pe (some f))).atKey (.string nm) z = pe (some f) := fun z => atKey_put_same ht.isMap hl _ _
  refine { h with
    pow := hg
    files := hm
    none_ := fun k e => ?_
    some_ := fun k s1 l1 e => ?_
    apart := fun k k' f' e1 e2 => ?_
    good := fun k e => ?_
    few := ?_ }
  · by_cases hk : k = nm
    · subst hk; rw [Model.put_same] at e; cases e
    · rw [Model.put_other _ _ hk] at e; rw [has_put_other (by simpa using hk)]; exact h.none_ k e
  · by_cases hkn : k = nm
    · subst hkn
      rw [Model.put_same] at e
      injection e with e
      injection e with e1 e2
      subst e1 e2
      exact ⟨f, hsame, hR⟩
    · rw [Model.put_other _ _ hkn] at e
      obtain ⟨f', h1, h2⟩ := h.some_ k s1 l1 e
      obtain ⟨v0, v1, h3, _⟩ := h2.at_
      exact ⟨f', fun z => by rw [atKey_put_other (by simpa using hkn)]; exact h1 z, h2.calm hc (hk f' _ h3)⟩
  · by_cases hk : k = nm
    · by_cases hk' : k' = nm
      · rw [hk, hk']
      · subst hk
        have h1 := hfr k' f' hk' e2
        rw [hsame] at e1
        injection (pe_inj e1) with e1
        omega
    · by_cases hk' : k' = nm
      · subst hk'
        have h1 := hfr k f' hk e1
        rw [hsame] at e2
        injection (pe_inj e2) with e2
        omega
      · rw [atKey_put_other (by simpa using hk)] at e1
        rw [atKey_put_other (by simpa using hk')] at e2
        exact h.apart k k' f' e1 e2
  · by_cases hk : k = nm
    · subst hk; exact hgd
    · rw [Model.put_other _ _ hk] at e; exact h.good k e
  · rw [size_put ht]
    split
    · exact h.few
    · omega
/-- A file less. -/
theorem Dsk.less {w W : World} {B g b cnt cnt' : Nat} {n n' : Int} {D : DataW Unit} {F : Model} (h : Dsk w B g b cnt n D F) (nm : List UInt8) (hg : PowAt W g b n') (hm : Files W b cnt' (D.del (.string nm))) (hc : Calm B w W) (hk : ∀ (i : Nat) (c : Array Value), w.heap[i]? = some (.cells c 82 (0, 0)) → W.heap[i]? = w.heap[i]?) : Dsk W B g b cnt' n' (D.del (.string nm)) (F.put nm none) := by
  have ht := h.tidy
  refine { h with
    pow := hg
    files := hm
    none_ := fun k e => ?_
    some_ := fun k s1 l1 e => ?_
    apart := fun k k' f' e1 e2 => ?_
    good := fun k e => ?_
    few := ?_ }
  · by_cases hk : k = nm
    · subst hk; exact has_del_same
    · rw [Model.put_other _ _ hk] at e; rw [has_del_other (by simpa using hk)]; exact h.none_ k e
  · by_cases hkn : k = nm
    · subst hkn
      rw [Model.put_same] at e
      cases e
    · rw [Model.put_other _ _ hkn] at e
      obtain ⟨f', h1, h2⟩ := h.some_ k s1 l1 e
      obtain ⟨v0, v1, h3, _⟩ := h2.at_
      exact ⟨f', fun z => by rw [atKey_del_other (by simpa using hkn)]; exact h1 z, h2.calm hc (hk f' _ h3)⟩
  · by_cases hk : k = nm
    · subst hk
      rw [atKey_del_same] at e1
      cases pe_inj e1
    · by_cases hk' : k' = nm
      · subst hk'
        rw [atKey_del_same] at e2
        cases pe_inj e2
      · rw [atKey_del_other (by simpa using hk)] at e1
        rw [atKey_del_other (by simpa using hk')] at e2
        exact h.apart k k' f' e1 e2
  · by_cases hk : k = nm
    · subst hk; rw [Model.put_same] at e; exact absurd rfl e
    · rw [Model.put_other _ _ hk] at e; exact h.good k e
  · have := size_del (k := .string nm) ht
    have := h.few
    omega
theorem Dsk.at_none {w : World} {B g b cnt : Nat} {n : Int} {D : DataW Unit} {F : Model} (h : Dsk w B g b cnt n D F) {nm : List UInt8} (hF : F nm = none) : D.atKey (.string nm) (pe none) = pe none := atKey_of_not_has (h.none_ nm hF) _
theorem Dsk.maxn {nm : List UInt8} (h : nameB ⟨nm.toArray⟩ = true) : nm.length ≤ 64 := by
  unfold nameB at h
  rw [Bool.and_eq_true, decide_eq_true_eq] at h
  simpa [ByteArray.size] using h.1.2
theorem Dsk.crashable {w : World} {B g b cnt : Nat} {n : Int} {D : DataW Unit} {F : Model} (h : Dsk w B g b cnt n D F) : FilesOk w D (fun nm => (F nm).getD ([], [])) := fun nm hnm => by
  have hh := ((Files.keys h.files).2 nm).1 hnm
  cases hF : F nm with
  | none => rw [h.none_ nm hF] at hh; cases hh
  | some p =>
    obtain ⟨s, l⟩ := p
    obtain ⟨f, h1, h2⟩ := h.some_ nm s l hF
    exact ⟨by have := Dsk.maxn (h.good nm (by rw [hF]; exact Option.some_ne_none _)); omega, f, h1 _, by show FileOk w f ((F nm).getD ([], [])).1 ((F nm).getD ([], [])).2; rw [hF]; exact h2.ok⟩
theorem Dsk.mem {w : World} {B g b cnt : Nat} {n : Int} {D : DataW Unit} {F : Model} (h : Dsk w B g b cnt n D F) (nm : List UInt8) : nm ∈ strKeys D ↔ F nm ≠ none := by
  rw [(Files.keys h.files).2 nm]
  constructor
  · intro hh hF
    rw [h.none_ nm hF] at hh; cases hh
  · intro hF
    cases hx : F nm with
    | none => exact absurd hx hF
    | some p =>
      obtain ⟨f, h1, _⟩ := h.some_ nm p.1 p.2 hx
      exact has_true_of_atKey h1
/-- What a call leaves: a disk, and all else. -/
structure DskStep (w : World) (B g b : Nat) (n : Int) (F : Model) (w' : World) : Prop where
  disk : ∃ cnt D, Dsk w' B g b cnt n D F ∧ cnt ≤ 100000
  calm : Calm B w w'
  below : Below B w w'
end Go.Proofs.Ytoonepmnlgfikaa.D
/-! DRaw -/
namespace Go.Proofs.Ytoonepmnlgfikaa.D
open Go.RowKit Go.Proofs.YtoonepmnlgfikaaW.PrintWords Go.Proofs.YtoonepmnlgfikaaW.PrintLast Go.Proofs.YtoonepmnlgfikaaW.PrintMore Go.Proofs.Ytoonepmnlgfikaa.Base Go.Maps Go.Sort Go.Shelf
set_option linter.unusedVariables false
set_option linter.unusedSimpArgs false
set_option maxRecDepth 100000 in
set_option maxHeartbeats 1600000 in
theorem call_notok (g : Nat) (name : ByteArray) (there : Bool) (w : World) :
    Calls Try.prog 39 #[.pointer (some ⟨g, 0, none⟩), .bool false, .string name, .bool there] w fun e w' => e = .returned (.tuple #[.pointer none, .int .i64 1]) ∧ Drawn0 w w' := by
  go_enter Try.func39, Try.ntmps39
  go_wp2_with fail
  go_ret2
  exact ⟨rfl, Drawn0.refl _⟩
set_option maxRecDepth 100000 in
set_option maxHeartbeats 1600000 in
theorem sync_none (g b cnt : Nat) (n : Int) (h0 : 0 ≤ n) (h1 : n ≤ 1000000) (D : DataW Unit) (name : ByteArray) (hs : name.size ≤ maxLen) (w : World) (h : nameB name = true) (hg : PowAt w g b n) (hm : Files w b cnt D) (hgb : b ≠ g) (hp : D.atKey (.string name.data.toList) (pe none) = pe none) :
    Calls Try.prog 12 #[.pointer (some ⟨g, 0, none⟩), .string name] w fun e w' => e = .returned (.int .i64 3) ∧ DiskStep w g b (n + 1) cnt D w' := by
  go_enter Try.func12, Try.ntmps12
  go_wp2_with fail
  refine (call_yes g b cnt n h0 h1 D name hs true w h hg hm hgb none hp).mono ?_
  rintro e w2 ⟨rfl, hg2, hgr, hm2⟩
  rw [if_pos ⟨rfl, rfl⟩]
  go_wp2_with fail
  go_ret
  exact ⟨rfl, DiskStep.of_grown hg2 hm2 hgr⟩
set_option maxRecDepth 100000 in
set_option maxHeartbeats 1600000 in
theorem append_full (g b cnt : Nat) (n : Int) (h0 : 0 ≤ n) (h1 : n ≤ 1000000) (D : DataW Unit) (name : ByteArray) (hs : name.size ≤ maxLen) (l : Nat) (A : Option Addr) (c : Nat) (hl : l ≤ 1048576) (w : World) (h : nameB name = true) (hg : PowAt w g b n) (hm : Files w b cnt D) (hgb : b ≠ g) (hp : D.atKey (.string name.data.toList) (pe none) = pe none) (hsz : Maps.size D = 16) :
    Calls Try.prog 11 #[.pointer (some ⟨g, 0, none⟩), .string name, .slice A l c] w fun e w' => e = .returned (.int .i64 6) ∧ DiskStep w g b (n + 1) cnt D w' := by
  have hu122 := Try.underlying82
  have hu119 := Try.underlying59
  go_enter Try.func11, Try.ntmps11
  go_wp2_with fail
  refine (call_yes g b cnt n h0 h1 D name hs false w h hg hm hgb none hp).mono ?_
  rintro e w2 ⟨rfl, hg2, hgr, hm2⟩
  rw [if_neg (by simp)]
  simp only [pv]
  have hb1 : decide ((1048576 : Int) < (l : Int)) = false := decide_eq_false (by omega)
  have k3 : w2.cell? ⟨g, 3, none⟩ = some (.map (some b)) := (blk_cell hg2 3).trans rfl
  have hlen := World.ownsMap.len (w := w2) hm2 Try.underlying57 3
  have hb2 : ((Maps.size D : Int) == 16) = true := by rw [hsz]; rfl
  have HST := Aside0.mk (DiskStep.of_grown hg2 hm2 hgr)
  clear hsz hg2 hm2 hgr
  go_wp2_with fail
  go_ret
  exact ⟨rfl, HST.out⟩
set_option maxRecDepth 100000 in
set_option maxHeartbeats 1600000 in
theorem cut_no (g : Nat) (name : ByteArray) (hs : name.size ≤ maxLen) (m : Int) (w : World) (h : nameB name = false ∨ m < 0) :
    Calls Try.prog 22 #[.pointer (some ⟨g, 0, none⟩), .string name, .int .i64 m] w fun e w' => e = .returned (.int .i64 1) ∧ Drawn0 w w' := by
  by_cases hm : m < 0
  · have hd : decide (0 ≤ m) = false := decide_eq_false (by omega)
    have hd2 : decide (m ≥ 0) = false := decide_eq_false (by omega)
    clear h hm
    go_enter Try.func22, Try.ntmps22
    go_wp2_with fail
    refine (call_notok g name true w).mono ?_
    rintro e w' ⟨rfl, ⟨n1, rfl⟩⟩
    go_wp2_with fail
    go_ret
    exact ⟨rfl, n1, rfl⟩
  · have hd : decide (0 ≤ m) = true := decide_eq_true (by omega)
    have hd2 : decide (m ≥ 0) = true := decide_eq_true (by omega)
    have h := h.resolve_right hm
    clear hm
    go_enter Try.func22, Try.ntmps22
    go_wp2_with fail
    refine (call_no g name hs true w h).mono ?_
    rintro e w' ⟨rfl, ⟨n1, rfl⟩⟩
    go_wp2_with fail
    go_ret
    exact ⟨rfl, n1, rfl⟩
set_option maxRecDepth 100000 in
set_option maxHeartbeats 1600000 in
theorem cut_none (g b cnt : Nat) (n : Int) (h0 : 0 ≤ n) (h1 : n ≤ 1000000) (D : DataW Unit) (name : ByteArray) (hs : name.size ≤ maxLen) (m : Int) (hm0 : 0 ≤ m) (w : World) (h : nameB name = true) (hg : PowAt w g b n) (hm : Files w b cnt D) (hgb : b ≠ g) (hp : D.atKey (.string name.data.toList) (pe none) = pe none) :
    Calls Try.prog 22 #[.pointer (some ⟨g, 0, none⟩), .string name, .int .i64 m] w fun e w' => e = .returned (.int .i64 3) ∧ DiskStep w g b (n + 1) cnt D w' := by
  have hd : decide (0 ≤ m) = true := decide_eq_true (by omega)
  have hd2 : decide (m ≥ 0) = true := decide_eq_true (by omega)
  go_enter Try.func22, Try.ntmps22
  go_wp2_with fail
  refine (call_yes g b cnt n h0 h1 D name hs true w h hg hm hgb none hp).mono ?_
  rintro e w2 ⟨rfl, hg2, hgr, hm2⟩
  rw [if_pos ⟨rfl, rfl⟩]
  go_wp2_with fail
  go_ret
  exact ⟨rfl, DiskStep.of_grown hg2 hm2 hgr⟩
set_option maxRecDepth 100000 in
set_option maxHeartbeats 1600000 in
theorem cut_form (g b cnt f : Nat) (v0 : Value) (A1 : Option Addr) (l1 c1 : Nat) (n : Int) (h0 : 0 ≤ n) (h1 : n ≤ 1000000) (D : DataW Unit) (name : ByteArray) (hs : name.size ≤ maxLen) (m : Int) (hm0 : 0 ≤ m) (hml : (l1 : Int) < m) (w : World) (h : nameB name = true) (hg : PowAt w g b n) (hm : Files w b cnt D) (hgb : b ≠ g) (hp : D.atKey (.string name.data.toList) (pe none) = pe (some f))
    (hf : w.heap[f]? = some (.cells #[v0, .slice A1 l1 c1] 82 (0, 0))) :
    Calls Try.prog 22 #[.pointer (some ⟨g, 0, none⟩), .string name, .int .i64 m] w fun e w' => e = .returned (.int .i64 1) ∧ DiskStep w g b (n + 1) cnt D w' := by
  have hu122 := Try.underlying82
  have hd : decide (0 ≤ m) = true := decide_eq_true (by omega)
  have hd2 : decide (m ≥ 0) = true := decide_eq_true (by omega)
  have hfg : f ≠ g := blk_ne hf hg (by decide)
  go_enter Try.func22, Try.ntmps22
  go_wp2_with fail
  refine (call_yes g b cnt n h0 h1 D name hs true w h hg hm hgb (some f) hp).mono ?_
  rintro e w2 ⟨rfl, hg2, hgr, hm2⟩
  rw [if_neg (by simp)]
  simp only [pv]
  have hf2 : w2.heap[f]? = some (.cells #[v0, .slice A1 l1 c1] 82 (0, 0)) := blk_grown hf hgr (by simpa using hfg)
  have k1 : w2.cell? ⟨f, 1, none⟩ = some (.slice A1 l1 c1) := (blk_cell hf2 1).trans rfl
  have hb1 : decide ((l1 : Int) < m) = true := decide_eq_true hml
  have HST := Aside0.mk (DiskStep.of_grown hg2 hm2 hgr)
  clear hg2 hm2 hgr hml
  go_wp2_with fail
  go_ret
  exact ⟨rfl, HST.out⟩
set_option maxRecDepth 100000 in
set_option maxHeartbeats 1600000 in
theorem cut_hit (g b cnt f : Nat) (v0 : Value) (A1 : Option Addr) (c1 : Nat) (l1 : List Int) (n : Int) (h0 : 0 ≤ n) (h1 : n ≤ 1000000) (D : DataW Unit) (name : ByteArray) (hs : name.size ≤ maxLen) (m : Nat) (hml : m ≤ l1.length) (hll : l1.length ≤ 1048576) (hc1 : l1.length ≤ c1) (w : World)
    (hC1 : ∀ W : World, (∀ i, i < w.heap.size → i ≠ g → i ≠ f → W.heap[i]? = w.heap[i]?) → Kd.C (Kd.int .u8) W A1 l1.length l1)
    (h : nameB name = true) (hg : PowAt w g b n) (hm : Files w b cnt D) (hgb : b ≠ g) (hfb : f ≠ b) (hp : D.atKey (.string name.data.toList) (pe none) = pe (some f)) (hf : w.heap[f]? = some (.cells #[v0, .slice A1 l1.length c1] 82 (0, 0))) :
    Calls Try.prog 22 #[.pointer (some ⟨g, 0, none⟩), .string name, .int .i64 (m : Int)] w fun e w' => e = .returned (.int .i64 0) ∧ PowAt w' g b (n + 1) ∧ Files w' b cnt D ∧ ∃ v,
      w'.heap[f]? = some (.cells #[v0, v] 82 (0, 0)) ∧ Kd.R (Kd.int .u8) 5 w' w.heap.size (fun k => k ≠ f) v (l1.take m) ∧ (∀ i, i < w.heap.size → i ≠ g → i ≠ f → w'.heap[i]? = w.heap[i]?) ∧ w.heap.size ≤ w'.heap.size ∧ (∀ B, B ≤ g → B ≤ f → B ≤ w.heap.size → Below B w w') := by
  have hu122 := Try.underlying82
  have hu119 := Try.underlying59
  have HC1 := Aside0.mk hC1
  have hfg : f ≠ g := blk_ne hf hg (by decide)
  have hd : decide (0 ≤ (m : Int)) = true := decide_eq_true (by omega)
  have hd2 : decide ((m : Int) ≥ 0) = true := decide_eq_true (by omega)
  have hlt : (l1.take m).length = m := by rw [List.length_take]; omega
  clear hC1
  go_enter Try.func22, Try.ntmps22
  go_wp2_with fail
  refine (call_yes g b cnt n h0 h1 D name hs true w h hg hm hgb (some f) hp).mono ?_
  rintro e w2 ⟨rfl, hg2, hgr, hm2⟩
  rw [if_neg (by simp)]
  simp only [pv]
  have hf2 : w2.heap[f]? = some (.cells #[v0, .slice A1 l1.length c1] 82 (0, 0)) := blk_grown hf hgr (by simpa using hfg)
  have k1 : w2.cell? ⟨f, 1, none⟩ = some (.slice A1 l1.length c1) := (blk_cell hf2 1).trans rfl
  have hb1 : decide ((l1.length : Int) < (m : Int)) = false := decide_eq_false (by omega)
  have hb1n : decide (l1.length < m) = false := decide_eq_false (by omega)
  obtain ⟨i5, hi5, _, hsz5, _⟩ := info_parts info5
  have hcut : ∀ W : World, (Instr.slice 27 (.slice A1 l1.length c1) none (some (.int .i64 (m : Int))) none).run Try.prog W = .ok (.slice A1 m c1) W := fun W => by
    have := cut_to (P := Try.prog) 27 5 .i64 Try.underlying27 hi5 A1 l1.length c1 (m : Int) (by omega) (by omega) hc1 W
    rwa [Int.toNat_natCast] at this
  have HG2 := Aside0.mk hg2
  have HM2 := Aside0.mk hm2
  have HF2 := Aside0.mk hf2
  have HK2 : Aside0 (∀ i, i < w.heap.size → i ≠ g → i ≠ f → w2.heap[i]? = w.heap[i]?) := ⟨fun i hi hig hif => hgr.block i hi (by simpa using hig)⟩
  have HS2 : Aside0 (w.heap.size ≤ w2.heap.size) := ⟨hgr.size⟩
  have HB2 : Aside0 (∀ B, B ≤ g → B ≤ w.heap.size → Below B w w2) := ⟨fun B hBg hBs => pw_below_grown (Below.refl _ _) _ hBs hgr (fun k hk => by cases hk; exact hBg)⟩
  have HFL : Aside0 (f < w.heap.size) := ⟨blk_lt hf⟩
  have HGL : Aside0 (g < w.heap.size) := ⟨blk_lt hg⟩
  have HBL : Aside0 (b < w.heap.size) := ⟨World.ownsMap.lt hm⟩
  have H38 : Aside0 (Calls Try.prog 38 #[.slice A1 m c1] w2 fun e w' => ∃ v, e = .returned v ∧ Kd.R (Kd.int .u8) 5 w' w2.heap.size (fun _ => True) v (l1.take m) ∧ Below w2.heap.size w2 w') := ⟨by
    have h2 := Kd.C_take (m := m) (HC1.out _ (fun i hi hig hif => HK2.out i hi hig hif)) hml
    have h3 := clone_calls (l1.take m) A1 c1 (by omega) w2 h2
    rw [hlt] at h3
    exact h3⟩
  clear hg2 hm2 hf2 hgr hg hm hf hi5 hsz5 hml
  go_wp2_with (go_at_call 38; refine H38.out.mono ?_; rintro e w5 ⟨v5, rfl, hr, hb⟩; have hf5 := (hb.block f (by have := HS2.out; have := HFL.out; omega)).trans HF2.out; have k5 : w5.cell? ⟨f, 1, none⟩ = some (.slice A1 l1.length c1) := (blk_cell hf5 1).trans rfl; have f5 := blk_frozen hf5 1; obtain ⟨A5, c5, rfl⟩ := Kd.R_slice hr; have HR5 := Aside0.mk hr; have HB5 := Aside0.mk hb; have HF5 := Aside0.mk hf5; clear hr hb hf5)
  go_ret
  have hs2 := HS2.out
  have hfl := HFL.out
  have hgl := HGL.out
  have hbl := HBL.out
  have hs5 := HB5.out.size
  rw [hlt] at HR5
  have hset : ∀ i, i ≠ f → (w5.setCell ⟨f, 1, none⟩ (.slice A5 m c5)).heap[i]? = w5.heap[i]? := fun i hi => Below.heap_setCell _ _ _ i hi
  refine ⟨rfl, (hset g (Ne.symm hfg)).trans ((HB5.out.block g (by omega)).trans HG2.out), Files.of_block HM2.out ((hset b (Ne.symm hfb)).trans (HB5.out.block b (by omega))), _, blk_set HF5.out 1 _, ?_, fun i hi hig hif => (hset i hif).trans ((HB5.out.block i (by omega)).trans (HK2.out i hi hig hif)), ?_, ?_⟩
  · have h1 := Kd.R_mono (Kd.R_bound HR5.out) (fun k hk => show k ≠ f by have := hk.2.1; omega)
    exact Kd.R_step (Kd.R_lower h1 (by omega)) (fun k hk _ => hset k hk)
  · have : (w5.setCell ⟨f, 1, none⟩ (.slice A5 m c5)).heap.size = w5.heap.size := by simp [World.setCell]
    omega
  · intro B hBg hBf hBs
    exact ((HB2.out B hBg hBs).trans (HB5.out.mono (by omega))).setCell (by show B ≤ f; exact hBf) _
set_option maxRecDepth 100000 in
set_option maxHeartbeats 1600000 in
theorem read_none (g b cnt : Nat) (n : Int) (D : DataW Unit) (name : ByteArray) (hs : name.size ≤ maxLen) (w : World) (h : nameB name = true) (hg : PowAt w g b n) (hm : Files w b cnt D) (hp : D.atKey (.string name.data.toList) (pe none) = pe none) :
    Calls Try.prog 20 #[.pointer (some ⟨g, 0, none⟩), .string name] w fun e w' => e = .returned (.tuple #[.slice none 0 0, .int .i64 3]) ∧ Drawn0 w w' := by
  have HG : Aside0 (disk_good.f (3 * name.size + 1) name = some true) := ⟨by rw [good_is name (by unfold maxLen at hs; omega) _ (Nat.le_refl _), h]⟩
  have hu119 := Try.underlying59
  have hu117 := Try.underlying56
  have hlk := look hm name hs hp
  simp only [pv] at hlk
  have c3 : w.cell? ⟨g, 3, none⟩ = some (.map (some b)) := (blk_cell hg 3).trans rfl
  have c1' : w.cell? ⟨g, 1, none⟩ = some (.bool false) := (blk_cell hg 1).trans rfl
  clear hm hp hg
  go_enter Try.func20, Try.ntmps20
  go_wp2_with fail
  refine (disk_good.calls _ _ _ _ HG.out).mono ?_
  rintro e w' ⟨rfl, ⟨n1, rfl⟩⟩
  go_wp2_with fail
  go_ret2
  exact ⟨rfl, n1, rfl⟩
set_option maxRecDepth 100000 in
set_option maxHeartbeats 1600000 in
theorem list_calls (g b cnt : Nat) (n : Int) (D : DataW Unit) (w : World) (hg : PowAt w g b n) (hm : Files w b cnt D) (hs : Maps.size D ≤ 1000) :
    Calls Try.prog 19 #[.pointer (some ⟨g, 0, none⟩)] w fun e w' => ∃ A c, e = .returned (.tuple #[.slice A (Maps.size D) c, .int .i64 0]) ∧ Below w.heap.size w w' := by
  have hu119 := Try.underlying59
  have hu117 := Try.underlying56
  have c3 : w.cell? ⟨g, 3, none⟩ = some (.map (some b)) := (blk_cell hg 3).trans rfl
  have c1' : w.cell? ⟨g, 1, none⟩ = some (.bool false) := (blk_cell hg 1).trans rfl
  have HM := Aside0.mk hm
  have HS := Aside0.mk hs
  clear hm hg hs
  go_enter Try.func19, Try.ntmps19
  go_wp2_with (first
    | (go_at_call 41; refine (keys41 b _).mono ?_; rintro e w1 ⟨rfl, rfl⟩)
    | (go_at_call 40; refine (sorted40 b cnt D w HM.out (by have := HS.out; omega)).mono ?_; rintro e w2 ⟨v2, ss, rfl, hns, hrow, hnil, hb2⟩; obtain ⟨An, cn, rfl, hnm⟩ := names_row hrow; have HNS := Aside0.mk hns; have HB2 := Aside0.mk hb2; clear hns hrow hnil hnm hb2))
  go_ret2
  have hl : ss.length = Maps.size D := by
    obtain ⟨l, hl, e⟩ := HNS.out
    rw [e, List.length_mergeSort, hl.length_eq]
    obtain ⟨es, hD, _⟩ := World.ownsMap.tidy HM.out K9
    rw [hD]
    exact List.length_map ..
  exact ⟨An, cn, by rw [hl]; rfl, HB2.out⟩
end Go.Proofs.Ytoonepmnlgfikaa.D
/-! DCalls -/
namespace Go.Proofs.Ytoonepmnlgfikaa.D
open Go.RowKit Go.Proofs.YtoonepmnlgfikaaW.PrintWords Go.Proofs.YtoonepmnlgfikaaW.PrintLast Go.Proofs.YtoonepmnlgfikaaW.PrintMore Go.Proofs.Ytoonepmnlgfikaa.Base Go.Maps Go.Sort Go.Shelf
set_option linter.unusedVariables false
set_option linter.unusedSimpArgs false
/-- The bytes handed in are read whatever the disk does to its own blocks. -/
def ArgOk (B : Nat) (w : World) (A : Option Addr) (l : List Int) : Prop := ∀ W : World, (∀ i, i < w.heap.size → (i < B ∨ ∃ c z, w.heap[i]? = some (.cells c 5 z)) → W.heap[i]? = w.heap[i]?) → Kd.C (Kd.int .u8) W A l.length l
theorem ArgOk.of_low {B : Nat} {w : World} {A : Option Addr} {l : List Int} {w0 : World} (h : Kd.C (Kd.int .u8) w0 A l.length l) (hB : w0.heap.size ≤ B) (hc : Below B w0 w) : ArgOk B w A l := fun W hW =>
  C_heap h (fun i hi => (hW i (by have := hc.size; omega) (.inl (by omega))).trans (hc.block i (by omega)))
theorem ArgOk.of_row {B B' : Nat} {w : World} {A : Option Addr} {c : Nat} {l : List Int} (h : Kd.R (Kd.int .u8) 5 w B' (fun _ => True) (.slice A l.length c) l) : ArgOk B w A l := fun W hW =>
  (Kd.R_reads' (Kd.R_step (w1 := W) (Kd.R_bound h) (fun k hk hl => hW k hl (.inr (by
    obtain ⟨q, hq, c, hc⟩ := hk.2.2.2
    obtain rfl : q = 5 := by
      rcases List.mem_cons.1 hq with h | h
      · exact h
      · cases h
    exact ⟨c, _, hc⟩))))).2.2
/-- What a call leaves: a disk whose files are F's; all else. -/
structure Step (w : World) (B g b : Nat) (n : Int) (cmax : Nat) (F : Model) (w' : World) : Prop where
  disk : ∃ cnt D, Dsk w' B g b cnt n D F ∧ cnt ≤ cmax
  calm : Calm B w w'
  below : Below B w w'
section
variable {w : World} {B g b cnt : Nat} {n : Int} {D : DataW Unit} {F : Model}
theorem Dsk.ne82 (h : Dsk w B g b cnt n D F) {i : Nat} {c : Array Value} (hi : w.heap[i]? = some (.cells c 82 (0, 0))) : i ≠ g ∧ i ≠ b := by
  constructor
  · rintro rfl
    have := h.pow
    unfold PowAt at this
    rw [hi] at this
    injection this with this
    injection this with _ this _
    exact absurd this (by decide)
  · rintro rfl
    obtain ⟨es, clock, hb, _⟩ := h.files
    rw [hi] at hb
    injection hb with hb
    cases hb
theorem Dsk.base (h : Dsk w B g b cnt n D F) : B ≤ w.heap.size := Nat.le_trans h.lowg (Nat.le_of_lt (blk_lt h.pow))
theorem Dsk.calm_of (h : Dsk w B g b cnt n D F) {W : World} (hs : w.heap.size ≤ W.heap.size) (hk : ∀ i, i < w.heap.size → i ≠ g → i ≠ b → W.heap[i]? = w.heap[i]?) : Calm B w W := by
  obtain ⟨es, clock, hb, _⟩ := h.files
  exact Calm.of_kept (f := w.heap.size) (cf := #[]) h.pow hb (fun hx => absurd hx (Nat.lt_irrefl _)) h.lowg h.lowb h.base hs (fun i h1 h2 h3 _ => hk i h1 h2 h3)
theorem Dsk.calm_file (h : Dsk w B g b cnt n D F) {W : World} {f : Nat} {c : Array Value} (hf : w.heap[f]? = some (.cells c 82 (0, 0))) (hfB : B ≤ f) (hs : w.heap.size ≤ W.heap.size) (hk : ∀ i, i < w.heap.size → i ≠ g → i ≠ b → i ≠ f → W.heap[i]? = w.heap[i]?) : Calm B w W := by
  obtain ⟨es, clock, hb, _⟩ := h.files
  exact Calm.of_kept (f := f) h.pow hb (fun _ => hf) h.lowg h.lowb hfB hs (fun i h1 h2 h3 h4 => hk i h1 h2 h3 h4)
theorem Dsk.same (h : Dsk w B g b cnt n D F) {W : World} {cnt' : Nat} {n' : Int} (hg : PowAt W g b n') (hm : Files W b cnt' D) (hc : Calm B w W) (hk : ∀ (i : Nat) (c : Array Value), w.heap[i]? = some (.cells c 82 (0, 0)) → W.heap[i]? = w.heap[i]?) : Dsk W B g b cnt' n' D F :=
  { h with
    pow := hg
    files := hm
    some_ := fun nm s l e => by
      obtain ⟨f, h1, h2⟩ := h.some_ nm s l e
      obtain ⟨v0, v1, h3, _⟩ := h2.at_
      exact ⟨f, h1, h2.calm hc (hk f _ h3)⟩ }
theorem Dsk.idle (h : Dsk w B g b cnt n D F) {W : World} {n' : Int} (hd : DiskStep w g b n' cnt D W) : Step w B g b n' cnt F W := by
  have hc := h.calm_of hd.size (fun i h1 h2 h3 => hd.kept i h1 h2 h3)
  exact ⟨⟨cnt, D, h.same hd.pow hd.files hc (fun i c hi => hd.kept i (blk_lt hi) (h.ne82 hi).1 (h.ne82 hi).2), Nat.le_refl _⟩, hc, hd.below B h.lowg h.lowb h.base⟩
theorem Dsk.drawn (h : Dsk w B g b cnt n D F) {W : World} (hd : Drawn0 w W) : Step w B g b n cnt F W := by
  obtain ⟨m, rfl⟩ := hd
  exact ⟨⟨cnt, D, h.drewN m, Nat.le_refl _⟩, Calm.drewN m, pw_below_drewN (Below.refl _ _) m⟩
theorem arr_name (name : ByteArray) : (⟨name.data.toList.toArray⟩ : ByteArray) = name := by simp
/-- How Append turns the files. -/
def Appended (nm : List UInt8) (l : List Int) (F F' : Model) (e : Int) : Prop :=
  (e ≠ 0 ∧ F' = F) ∨ (e = 0 ∧ ((F nm = none ∧ F' = F.put nm (some ([], l))) ∨ ∃ s q, F nm = some (s, q) ∧ F' = F.put nm (some (s, q ++ l))))
theorem dsk_append (h : Dsk w B g b cnt n D F) (h0 : 0 ≤ n) (h1 : n ≤ 1000000) (hcnt : cnt < 1000) (name : ByteArray) (hs : name.size ≤ maxLen) (l : List Int) (A : Option Addr) (c : Nat) (hl : l.length ≤ 10000) (hsh : ∀ s q, F name.data.toList = some (s, q) → q.length + l.length ≤ 1048576) (hA : ArgOk B w A l) :
    Calls Try.prog 11 #[.pointer (some ⟨g, 0, none⟩), .string name, .slice A l.length c] w fun e w' => ∃ e' F' n', e = .returned (.int .i64 e') ∧ 0 ≤ n' ∧ n' ≤ n + 1 ∧ Step w B g b n' (cnt + 1) F' w' ∧ Appended name.data.toList l F F' e' := by
  cases hn : nameB name with
  | false =>
    refine (append_no g name hs A l.length c w hn).mono ?_
    rintro e w' ⟨rfl, hd⟩
    obtain ⟨⟨c1, D1, hD, hc⟩, hcalm, hbel⟩ := h.drawn hd
    exact ⟨1, F, n, rfl, h0, by omega, ⟨⟨c1, D1, hD, by omega⟩, hcalm, hbel⟩, .inl ⟨by decide, rfl⟩⟩
  | true =>
    cases hF : F name.data.toList with
    | none =>
      have hp := h.at_none hF
      rcases Nat.lt_or_ge (Maps.size D) 16 with hlt | hge
      · refine (append_new g b cnt hcnt n h0 h1 D name hs l A c (by omega) w (fun W hW => hA W (fun i hi hc => hW i hi ?_ ?_)) hn h.pow h.files h.gb hp hlt).mono ?_
        · rintro rfl
          rcases hc with hc | ⟨c, z, hc⟩
          · have := h.lowg; omega
          · have := h.pow
            unfold PowAt at this
            rw [hc] at this
            injection this with this
            injection this with _ this _
            exact absurd this (by decide)
        · rintro rfl
          rcases hc with hc | ⟨c, z, hc⟩
          · have := h.lowb; omega
          · obtain ⟨es, clock, hb, _⟩ := h.files
            rw [hc] at hb
            injection hb with hb
            cases hb
        · rintro e w' ⟨rfl, hg', f, v, hm', hfl, hf', hr', hk', hs', hbel⟩
          have hc := h.calm_of hs' hk'
          have hR : FileR w' B f [] l := ⟨⟨_, v, hf', Kd.R_nil _ _ _ _ _, Kd.R_lower (Kd.R_mono hr' (fun _ _ => trivial)) h.base⟩, Nat.le_trans h.base hfl, by simp, by omega⟩
          have hmore := h.more name.data.toList [] l f hF (by rw [arr_name]; exact hn) hlt hg' hm' hc (fun i c hi => hk' i (blk_lt hi) (h.ne82 hi).1 (h.ne82 hi).2) hfl hR
          exact ⟨0, _, n + 1, rfl, by omega, Int.le_refl _, ⟨⟨cnt + 1, _, hmore, Nat.le_refl _⟩, hc, hbel B h.lowg h.lowb h.base⟩, .inr ⟨rfl, .inl ⟨hF, rfl⟩⟩⟩
      · refine (append_full g b cnt n h0 h1 D name hs l.length A c (by omega) w hn h.pow h.files h.gb hp (by have := h.few; omega)).mono ?_
        rintro e w' ⟨rfl, hd⟩
        obtain ⟨⟨c1, D1, hD, hc⟩, hcalm, hbel⟩ := h.idle hd
        exact ⟨6, F, n + 1, rfl, by omega, Int.le_refl _, ⟨⟨c1, D1, hD, by omega⟩, hcalm, hbel⟩, .inl ⟨by decide, rfl⟩⟩
    | some p =>
      obtain ⟨s, q⟩ := p
      obtain ⟨f, hp, hR⟩ := h.some_ _ s q hF
      obtain ⟨⟨v0, v1, hf, hr0, hr1⟩, hfB, hls, hll⟩ := hR
      obtain ⟨A1, c1, rfl⟩ := Kd.R_slice hr1
      have hne := h.ne82 hf
      have hq := hsh s q hF
      refine (append_hit g b cnt f v0 A1 c1 q n h0 h1 D name hs l A c (by omega) w (fun W hW => hA W (fun i hi hc => hW i hi ?_ ?_)) (fun W hW => (ArgOk.of_row (B := B) hr1) W (fun i hi hc => hW i hi ?_ ?_)) hn h.pow h.files h.gb hne.2 (hp _) hf).mono ?_
      · rintro rfl
        rcases hc with hc | ⟨c, z, hc⟩
        · have := h.lowg; omega
        · have := h.pow
          unfold PowAt at this
          rw [hc] at this
          injection this with this
          injection this with _ this _
          exact absurd this (by decide)
      · rintro rfl
        rcases hc with hc | ⟨c, z, hc⟩
        · omega
        · rw [hc] at hf
          injection hf with hf
          injection hf with _ hf _
          exact absurd hf (by decide)
      · rintro rfl
        rcases hc with hc | ⟨c, z, hc⟩
        · have := h.lowg; omega
        · have := h.pow
          unfold PowAt at this
          rw [hc] at this
          injection this with this
          injection this with _ this _
          exact absurd this (by decide)
      · rintro rfl
        rcases hc with hc | ⟨c, z, hc⟩
        · omega
        · rw [hc] at hf
          injection hf with hf
          injection hf with _ hf _
          exact absurd hf (by decide)
      · rintro e w' ⟨rfl, hg', hm', v, hf', hr', hk', hs', hbel⟩
        have hc := h.calm_file hf hfB hs' (fun i h1 h2 h3 h4 => hk' i h1 h2 h4)
        have hR' : FileR w' B f s (q ++ l) := ⟨⟨v0, v, hf', hc.row hr0, Kd.R_lower (Kd.R_mono hr' (fun _ _ => trivial)) h.base⟩, hfB, hls, by rw [List.length_append]; omega⟩
        have hb' : w'.heap[b]? = w.heap[b]? := hk' b (World.ownsMap.lt h.files) h.gb (Ne.symm hne.2)
        have ht := h.turn name.data.toList s q s (q ++ l) f hF (hp _) hg' hb' hc (fun i c hif hi => hk' i (blk_lt hi) (h.ne82 hi).1 hif) hR'
        exact ⟨0, _, n + 1, rfl, by omega, Int.le_refl _, ⟨⟨cnt, _, ht, by omega⟩, hc, hbel B h.lowg hfB h.base⟩, .inr ⟨rfl, .inr ⟨s, q, hF, rfl⟩⟩⟩
/-- How Cut turns the files. -/
def CutTo (nm : List UInt8) (m : Int) (F F' : Model) (e : Int) : Prop :=
  (e ≠ 0 ∧ F' = F) ∨ (e = 0 ∧ ∃ s q, F nm = some (s, q) ∧ F' = F.put nm (some (s, q.take m.toNat)))
theorem dsk_cut (h : Dsk w B g b cnt n D F) (h0 : 0 ≤ n) (h1 : n ≤ 1000000) (name : ByteArray) (hs : name.size ≤ maxLen) (m : Int) :
    Calls Try.prog 22 #[.pointer (some ⟨g, 0, none⟩), .string name, .int .i64 m] w fun e w' => ∃ e' F' n', e = .returned (.int .i64 e') ∧ 0 ≤ n' ∧ n' ≤ n + 1 ∧ Step w B g b n' cnt F' w' ∧ CutTo name.data.toList m F F' e' := by
  by_cases hno : nameB name = false ∨ m < 0
  · refine (cut_no g name hs m w hno).mono ?_
    rintro e w' ⟨rfl, hd⟩
    exact ⟨1, F, n, rfl, h0, by omega, h.drawn hd, .inl ⟨by decide, rfl⟩⟩
  · have hn : nameB name = true := by
      cases hx : nameB name
      · exact absurd (.inl hx) hno
      · rfl
    have hm0 : 0 ≤ m := by
      have : ¬ m < 0 := fun hx => hno (.inr hx)
      omega
    cases hF : F name.data.toList with
    | none =>
      refine (cut_none g b cnt n h0 h1 D name hs m hm0 w hn h.pow h.files h.gb (h.at_none hF)).mono ?_
      rintro e w' ⟨rfl, hd⟩
      exact ⟨3, F, n + 1, rfl, by omega, Int.le_refl _, h.idle hd, .inl ⟨by decide, rfl⟩⟩
    | some p =>
      obtain ⟨s, q⟩ := p
      obtain ⟨f, hp, hR⟩ := h.some_ _ s q hF
      obtain ⟨⟨v0, v1, hf, hr0, hr1⟩, hfB, hls, hll⟩ := hR
      obtain ⟨A1, c1, rfl⟩ := Kd.R_slice hr1
      have hne := h.ne82 hf
      by_cases hmq : (q.length : Int) < m
      · refine (cut_form g b cnt f v0 A1 q.length c1 n h0 h1 D name hs m hm0 hmq w hn h.pow h.files h.gb (hp _) hf).mono ?_
        rintro e w' ⟨rfl, hd⟩
        exact ⟨1, F, n + 1, rfl, by omega, Int.le_refl _, h.idle hd, .inl ⟨by decide, rfl⟩⟩
      · obtain ⟨k, rfl⟩ : ∃ k : Nat, m = (k : Int) := ⟨m.toNat, by omega⟩
        refine (cut_hit g b cnt f v0 A1 c1 q n h0 h1 D name hs k (by omega) hll (Kd.R_reads' hr1).2.1 w (fun W hW => (ArgOk.of_row (B := B) hr1) W (fun i hi hc => hW i hi ?_ ?_)) hn h.pow h.files h.gb hne.2 (hp _) hf).mono ?_
        · rintro rfl
          rcases hc with hc | ⟨c, z, hc⟩
          · have := h.lowg; omega
          · have := h.pow
            unfold PowAt at this
            rw [hc] at this
            injection this with this
            injection this with _ this _
            exact absurd this (by decide)
        · rintro rfl
          rcases hc with hc | ⟨c, z, hc⟩
          · omega
          · rw [hc] at hf
            injection hf with hf
            injection hf with _ hf _
            exact absurd hf (by decide)
        · rintro e w' ⟨rfl, hg', hm', v, hf', hr', hk', hs', hbel⟩
          have hc := h.calm_file hf hfB hs' (fun i h1 h2 h3 h4 => hk' i h1 h2 h4)
          have hR' : FileR w' B f s (q.take k) := ⟨⟨v0, v, hf', hc.row hr0, Kd.R_lower (Kd.R_mono hr' (fun _ _ => trivial)) h.base⟩, hfB, hls, by rw [List.length_take]; omega⟩
          have hb' : w'.heap[b]? = w.heap[b]? := hk' b (World.ownsMap.lt h.files) h.gb (Ne.symm hne.2)
          have ht := h.turn name.data.toList s q s (q.take k) f hF (hp _) hg' hb' hc (fun i c hif hi => hk' i (blk_lt hi) (h.ne82 hi).1 hif) hR'
          exact ⟨0, _, n + 1, rfl, by omega, Int.le_refl _, ⟨⟨cnt, _, ht, Nat.le_refl _⟩, hc, hbel B h.lowg hfB h.base⟩, .inr ⟨rfl, s, q, hF, by rw [Int.toNat_natCast]⟩⟩
/-- How Sync turns the files. -/
def Synced (nm : List UInt8) (F F' : Model) (e : Int) : Prop :=
  (e ≠ 0 ∧ F' = F) ∨ (e = 0 ∧ ∃ s q, F nm = some (s, q) ∧ F' = F.put nm (some (q, q)))
theorem dsk_sync (h : Dsk w B g b cnt n D F) (h0 : 0 ≤ n) (h1 : n ≤ 1000000) (name : ByteArray) (hs : name.size ≤ maxLen) :
    Calls Try.prog 12 #[.pointer (some ⟨g, 0, none⟩), .string name] w fun e w' => ∃ e' F' n', e = .returned (.int .i64 e') ∧ 0 ≤ n' ∧ n' ≤ n + 1 ∧ Step w B g b n' cnt F' w' ∧ Synced name.data.toList F F' e' := by
  cases hn : nameB name with
  | false =>
    refine (sync_no g name hs w hn).mono ?_
    rintro e w' ⟨rfl, hd⟩
    exact ⟨1, F, n, rfl, h0, by omega, h.drawn hd, .inl ⟨by decide, rfl⟩⟩
  | true =>
    cases hF : F name.data.toList with
    | none =>
      refine (sync_none g b cnt n h0 h1 D name hs w hn h.pow h.files h.gb (h.at_none hF)).mono ?_
      rintro e w' ⟨rfl, hd⟩
      exact ⟨3, F, n + 1, rfl, by omega, Int.le_refl _, h.idle hd, .inl ⟨by decide, rfl⟩⟩
    | some p =>
      obtain ⟨s, q⟩ := p
      obtain ⟨f, hp, hR⟩ := h.some_ _ s q hF
      obtain ⟨⟨v0, v1, hf, hr0, hr1⟩, hfB, hls, hll⟩ := hR
      obtain ⟨A1, c1, rfl⟩ := Kd.R_slice hr1
      have hne := h.ne82 hf
      refine (sync_hit g b cnt f v0 A1 q.length c1 n h0 h1 D name hs w hn h.pow h.files h.gb (hp _) hf).mono ?_
      rintro e w' ⟨rfl, hg', hf', hk', hs', hbel⟩
      have hc := h.calm_file hf hfB hs' (fun i h1 h2 h3 h4 => hk' i h1 h2 h4)
      have hR' : FileR w' B f q q := ⟨⟨_, _, hf', hc.row hr1, hc.row hr1⟩, hfB, hll, hll⟩
      have hb' : w'.heap[b]? = w.heap[b]? := hk' b (World.ownsMap.lt h.files) h.gb (Ne.symm hne.2)
      have ht := h.turn name.data.toList s q q q f hF (hp _) hg' hb' hc (fun i c hif hi => hk' i (blk_lt hi) (h.ne82 hi).1 hif) hR'
      exact ⟨0, _, n + 1, rfl, by omega, Int.le_refl _, ⟨⟨cnt, _, ht, Nat.le_refl _⟩, hc, hbel B h.lowg hfB h.base⟩, .inr ⟨rfl, s, q, hF, rfl⟩⟩
/-- How Remove turns the files. -/
def Removed (nm : List UInt8) (F F' : Model) (e : Int) : Prop :=
  (F nm = none ∧ e = 3 ∧ F' = F) ∨ (∃ s q, F nm = some (s, q)) ∧ e = 0 ∧ F' = F.put nm none
theorem dsk_remove (h : Dsk w B g b cnt n D F) (h0 : 0 ≤ n) (h1 : n ≤ 1000000) (name : ByteArray) (hs : name.size ≤ maxLen) (hn : nameB name = true) :
    Calls Try.prog 18 #[.pointer (some ⟨g, 0, none⟩), .string name] w fun e w' => ∃ e' F', e = .returned (.int .i64 e') ∧ Step w B g b (n + 1) cnt F' w' ∧ Removed name.data.toList F F' e' := by
  cases hF : F name.data.toList with
  | none =>
    refine (remove_none g b cnt n h0 h1 D name hs w hn h.pow h.files h.gb (h.at_none hF)).mono ?_
    rintro e w' ⟨rfl, hd⟩
    exact ⟨3, F, rfl, h.idle hd, .inl ⟨hF, rfl, rfl⟩⟩
  | some p =>
    obtain ⟨s, q⟩ := p
    obtain ⟨f, hp, hR⟩ := h.some_ _ s q hF
    refine (remove_hit g b cnt f n h0 h1 D name hs w hn h.pow h.files h.gb (hp _)).mono ?_
    rintro e w' ⟨rfl, hd⟩
    have hc := h.calm_of hd.size (fun i h1 h2 h3 => hd.kept i h1 h2 h3)
    have hl := h.less name.data.toList hd.pow hd.files hc (fun i c hi => hd.kept i (blk_lt hi) (h.ne82 hi).1 (h.ne82 hi).2)
    exact ⟨0, _, rfl, ⟨⟨cnt, _, hl, Nat.le_refl _⟩, hc, hd.below B h.lowg h.lowb h.base⟩, .inr ⟨⟨s, q, hF⟩, rfl, rfl⟩⟩
end
end Go.Proofs.Ytoonepmnlgfikaa.D
/-! DRen -/
namespace Go.Proofs.Ytoonepmnlgfikaa.D
open Go.RowKit Go.Proofs.YtoonepmnlgfikaaW.PrintWords Go.Proofs.YtoonepmnlgfikaaW.PrintLast Go.Proofs.YtoonepmnlgfikaaW.PrintMore Go.Proofs.Ytoonepmnlgfikaa.Base Go.Maps Go.Sort Go.Shelf
set_option linter.unusedVariables false
set_option linter.unusedSimpArgs false
set_option maxRecDepth 100000 in
set_option maxHeartbeats 1600000 in
theorem rename_no (g : Nat) (name to_ : ByteArray) (hs : name.size ≤ maxLen) (hs2 : to_.size ≤ maxLen) (w : World) (h : nameB to_ = false ∨ nameB name = false) :
    Calls Try.prog 16 #[.pointer (some ⟨g, 0, none⟩), .string name, .string to_] w fun e w' => e = .returned (.int .i64 1) ∧ Drawn0 w w' := by
  cases ht : nameB to_ with
  | false =>
    have HG : Aside0 (disk_good.f (3 * to_.size + 1) to_ = some false) := ⟨by rw [good_is to_ (by unfold maxLen at hs2; omega) _ (Nat.le_refl _), ht]⟩
    clear h ht
    go_enter Try.func16, Try.ntmps16
    go_wp2_with fail
    refine (disk_good.calls _ _ _ _ HG.out).mono ?_
    rintro e w1 ⟨rfl, ⟨n1, rfl⟩⟩
    go_wp2_with fail
    refine (call_notok g name true _).mono ?_
    rintro e w' ⟨rfl, ⟨n2, rfl⟩⟩
    go_wp2_with fail
    go_ret
    exact ⟨rfl, _, rfl⟩
  | true =>
    have HG : Aside0 (disk_good.f (3 * to_.size + 1) to_ = some true) := ⟨by rw [good_is to_ (by unfold maxLen at hs2; omega) _ (Nat.le_refl _), ht]⟩
    have hn : nameB name = false := h.resolve_left (by rw [ht]; decide)
    clear h ht
    go_enter Try.func16, Try.ntmps16
    go_wp2_with fail
    refine (disk_good.calls _ _ _ _ HG.out).mono ?_
    rintro e w1 ⟨rfl, ⟨n1, rfl⟩⟩
    go_wp2_with fail
    refine (call_no g name hs true _ hn).mono ?_
    rintro e w' ⟨rfl, ⟨n2, rfl⟩⟩
    go_wp2_with fail
    go_ret
    exact ⟨rfl, _, rfl⟩
section
variable {w : World} {B g b cnt : Nat} {n : Int} {D : DataW Unit} {F : Model}
/-- A file under another name. -/
theorem Dsk.moved (h : Dsk w B g b cnt n D F) {W : World} {cnt' : Nat} {n' : Int} (a t : List UInt8) (s l : List Int) (f : Nat) (hF : F a = some (s, l)) (hf : D.atKey (.string a) (pe none) = pe (some f)) (hgd : nameB ⟨t.toArray⟩ = true) (hg : PowAt W g b n') (hm : Files W b cnt' ((D.del (.string a)).put (.string t) (pe (some f)))) (hc : Calm B w W) (hk : ∀ (i : Nat) (c : Array Value), w.heap[i]? = some (.cells c 82 (0, 0)) → W.heap[i]? = w.heap[i]?) :
    Dsk W B g b cnt' n' ((D.del (.string a)).put (.string t) (pe (some f))) ((F.put a none).put t (some (s, l))) := by
  have ht := h.tidy
  have ht1 := ht.del (.string a)
  have hl : WideAt.IsKeyLit (.string t) := trivial
  have hsame : ∀ z, ((D.del (.string a)).put (.string t) (pe (some f))).atKey (.string t) z = pe (some f) := fun z => atKey_put_same ht1.isMap hl _ _
  have hhas : has D (.string a) = true := by
    obtain ⟨f1, h1, _⟩ := h.some_ a s l hF
    exact has_true_of_atKey h1
  have hR : FileR W B f s l := by
    obtain ⟨f1, h1, h2⟩ := h.some_ a s l hF
    obtain rfl : f = f1 := by have := pe_inj (hf.symm.trans (h1 _)); injection this
    obtain ⟨v0, v1, h3, _⟩ := h2.at_
    exact h2.calm hc (hk f _ h3)
  refine { h with
    pow := hg
    files := hm
    none_ := fun k e => ?_
    some_ := fun k s1 l1 e => ?_
    apart := fun k k' f' e1 e2 => ?_
    good := fun k e => ?_
    few := ?_ }
  · by_cases hk : k = t
    · subst hk; rw [Model.put_same] at e; cases e
    · rw [Model.put_other _ _ hk] at e
      rw [has_put_other (by simpa using hk)]
      by_cases hka : k = a
      · subst hka; exact has_del_same
      · rw [Model.put_other _ _ hka] at e
        rw [has_del_other (by simpa using hka)]
        exact h.none_ k e
  · by_cases hkn : k = t
    · subst hkn
      rw [Model.put_same] at e
      injection e with e
      injection e with e1 e2
      subst e1 e2
      exact ⟨f, hsame, hR⟩
    · rw [Model.put_other _ _ hkn] at e
      by_cases hka : k = a
      · subst hka; rw [Model.put_same] at e; cases e
      · rw [Model.put_other _ _ hka] at e
        obtain ⟨f', h1, h2⟩ := h.some_ k s1 l1 e
        obtain ⟨v0, v1, h3, _⟩ := h2.at_
        exact ⟨f', fun z => by rw [atKey_put_other (by simpa using hkn), atKey_del_other (by simpa using hka)]; exact h1 z, h2.calm hc (hk f' _ h3)⟩
  · have hoff : ∀ k, k ≠ t → ((D.del (.string a)).put (.string t) (pe (some f))).atKey (.string k) (pe none) = pe (some f') → k ≠ a ∧ D.atKey (.string k) (pe none) = pe (some f') := fun k hk e => by
      rw [atKey_put_other (by simpa using hk)] at e
      by_cases hka : k = a
      · subst hka; rw [atKey_del_same] at e; cases pe_inj e
      · rw [atKey_del_other (by simpa using hka)] at e; exact ⟨hka, e⟩
    by_cases hk1 : k = t
    · by_cases hk2 : k' = t
      · rw [hk1, hk2]
      · obtain ⟨q1, q2⟩ := hoff k' hk2 e2
        subst hk1
        rw [hsame] at e1
        obtain rfl : f = f' := by have := pe_inj e1; injection this
        exact absurd (h.apart k' a f q2 hf) q1
    · by_cases hk2 : k' = t
      · obtain ⟨q1, q2⟩ := hoff k hk1 e1
        subst hk2
        rw [hsame] at e2
        obtain rfl : f = f' := by have := pe_inj e2; injection this
        exact absurd (h.apart k a f q2 hf) q1
      · exact h.apart k k' f' (hoff k hk1 e1).2 (hoff k' hk2 e2).2
  · by_cases hk : k = t
    · subst hk; exact hgd
    · rw [Model.put_other _ _ hk] at e
      by_cases hka : k = a
      · subst hka; rw [Model.put_same] at e; exact absurd rfl e
      · rw [Model.put_other _ _ hka] at e; exact h.good k e
  · have h1 := size_del (k := .string a) ht
    rw [if_pos hhas] at h1
    have h2 := h.few
    rw [size_put ht1]
    split <;> omega
/-- How Rename turns the files. -/
def Renamed (a t : ByteArray) (F F' : Model) (e : Int) : Prop :=
  (nameB a = true ∧ nameB t = true ∧ (F a.data.toList = none ∧ e = 3 ∧ F' = F ∨ ∃ s q, F a.data.toList = some (s, q) ∧ e = 0 ∧ F' = (F.put a.data.toList none).put t.data.toList (some (s, q)))) ∨ ((nameB t = false ∨ nameB a = false) ∧ e = 1 ∧ F' = F)
theorem dsk_rename (h : Dsk w B g b cnt n D F) (h0 : 0 ≤ n) (h1 : n ≤ 1000000) (hcnt : cnt < 100000) (name to_ : ByteArray) (hs : name.size ≤ maxLen) (hs2 : to_.size ≤ maxLen) :
    Calls Try.prog 16 #[.pointer (some ⟨g, 0, none⟩), .string name, .string to_] w fun e w' => ∃ e' F' n', e = .returned (.int .i64 e') ∧ 0 ≤ n' ∧ n' ≤ n + 1 ∧ Step w B g b n' (cnt + 1) F' w' ∧ Renamed name to_ F F' e' := by
  by_cases hno : nameB to_ = false ∨ nameB name = false
  · refine (rename_no g name to_ hs hs2 w hno).mono ?_
    rintro e w' ⟨rfl, hd⟩
    obtain ⟨⟨c1, D1, hD, hc⟩, hcalm, hbel⟩ := h.drawn hd
    exact ⟨1, F, n, rfl, h0, by omega, ⟨⟨c1, D1, hD, by omega⟩, hcalm, hbel⟩, .inr ⟨hno, rfl, rfl⟩⟩
  · have ht : nameB to_ = true := by
      cases hx : nameB to_
      · exact absurd (.inl hx) hno
      · rfl
    have hn : nameB name = true := by
      cases hx : nameB name
      · exact absurd (.inr hx) hno
      · rfl
    cases hF : F name.data.toList with
    | none =>
      refine (rename_none g b cnt n h0 h1 D name to_ hs hs2 w hn ht h.pow h.files h.gb (h.at_none hF)).mono ?_
      rintro e w' ⟨rfl, hd⟩
      obtain ⟨⟨c1, D1, hD, hc⟩, hcalm, hbel⟩ := h.idle hd
      exact ⟨3, F, n + 1, rfl, by omega, Int.le_refl _, ⟨⟨c1, D1, hD, by omega⟩, hcalm, hbel⟩, .inl ⟨hn, ht, .inl ⟨hF, rfl, rfl⟩⟩⟩
    | some p =>
      obtain ⟨s, q⟩ := p
      obtain ⟨f, hp, hR⟩ := h.some_ _ s q hF
      refine (rename_hit g b cnt f (by omega) n h0 h1 D name to_ hs hs2 w hn ht h.pow h.files h.gb (hp _)).mono ?_
      rintro e w' ⟨rfl, hd⟩
      have hc := h.calm_of hd.size (fun i h1 h2 h3 => hd.kept i h1 h2 h3)
      have hl := h.moved name.data.toList to_.data.toList s q f hF (hp _) (by rw [arr_name]; exact ht) hd.pow hd.files hc (fun i c hi => hd.kept i (blk_lt hi) (h.ne82 hi).1 (h.ne82 hi).2)
      exact ⟨0, _, n + 1, rfl, by omega, Int.le_refl _, ⟨⟨cnt + 1, _, hl, Nat.le_refl _⟩, hc, hd.below B h.lowg h.lowb h.base⟩, .inl ⟨hn, ht, .inr ⟨s, q, hF, rfl, rfl⟩⟩⟩
theorem remove_no (g : Nat) (name : ByteArray) (hs : name.size ≤ maxLen) (w : World) (h : nameB name = false) :
    Calls Try.prog 18 #[.pointer (some ⟨g, 0, none⟩), .string name] w fun e w' => e = .returned (.int .i64 1) ∧ Drawn0 w w' := by
  go_enter Try.func18, Try.ntmps18
  go_wp2_with fail
  refine (call_no g name hs true w h).mono ?_
  rintro e w' ⟨rfl, ⟨n1, rfl⟩⟩
  go_wp2_with fail
  go_ret
  exact ⟨rfl, n1, rfl⟩
/-- Read. -/
theorem dsk_read (h : Dsk w B g b cnt n D F) (name : ByteArray) (hs : name.size ≤ maxLen) (s q : List Int) (hF : F name.data.toList = some (s, q)) :
    Calls Try.prog 20 #[.pointer (some ⟨g, 0, none⟩), .string name] w fun e w' => ∃ v, e = .returned (.tuple #[v, .int .i64 0]) ∧ Kd.R (Kd.int .u8) 5 w' w.heap.size (fun _ => True) v q ∧ Below w.heap.size w w' := by
  obtain ⟨f, hp, hR⟩ := h.some_ _ s q hF
  obtain ⟨⟨v0, v1, hf, hr0, hr1⟩, hfB, hls, hll⟩ := hR
  obtain ⟨A1, c1, rfl⟩ := Kd.R_slice hr1
  have hgd := h.good name.data.toList (by rw [hF]; exact Option.some_ne_none _)
  rw [arr_name] at hgd
  exact read_hit g b cnt f v0 A1 q c1 n D name hs w hgd h.pow h.files (hp _) hf (by omega) (Kd.R_reads' hr1).2.2
theorem dsk_crash (h : Dsk w B g b cnt n D F) (P0 : Option Addr) (pc : Nat) (ps : List Int) (hp : Kd.C (Kd.int .i64) w P0 ps.length ps) (hpc : ps.length ≤ pc) :
    Calls Try.prog 13 #[.pointer (some ⟨g, 0, none⟩), .slice P0 ps.length pc] w fun e w' => ∃ v L ss, e = .returned v ∧ namesOf D ss ∧ Kd.S k40 40 w' w.heap.size (fun _ => True) v L ∧ L.length = ss.length ∧ CrashL (fun nm => (F nm).getD ([], [])) ss L ∧ Below w.heap.size w w' :=
  crash_calls g b cnt n D _ P0 pc ps w h.pow h.files (by have := h.few; omega) h.crashable hp hpc
end
end Go.Proofs.Ytoonepmnlgfikaa.D
