/- DiskSafe: the plain part. -/
import Derived.Test.YtoonepmnlgfikaaDMPure
import Derived.Test.YtoonepmnlgfikaaDOff
import Derived.Test.YtoonepmnlgfikaaDx51
namespace Go.Proofs.Ytoonepmnlgfikaa.D
open Go.RowKit Go.Proofs.YtoonepmnlgfikaaW.PrintWords Go.Proofs.YtoonepmnlgfikaaW.PrintLast Go.Proofs.YtoonepmnlgfikaaW.PrintMore Go.Proofs.Ytoonepmnlgfikaa.Base Go.Maps Go.Sort Go.Shelf
set_option linter.unusedVariables false
set_option linter.unusedSimpArgs false
def keepC : Array Value := #[.int .u8 107, .int .u8 101, .int .u8 112, .int .u8 116, .int .u8 32, .int .u8 102, .int .u8 111, .int .u8 114, .int .u8 32, .int .u8 101, .int .u8 118, .int .u8 101, .int .u8 114, .int .u8 44, .int .u8 32, .int .u8 119, .int .u8 104, .int .u8 97, .int .u8 116, .int .u8 101, .int .u8 118, .int .u8 101, .int .u8 114, .int .u8 32, .int .u8 101, .int .u8 108, .int .u8 115, .int .u8 101, .int .u8 32, .int .u8 116, .int .u8 104, .int .u8 101, .int .u8 114, .int .u8 101, .int .u8 32, .int .u8 105, .int .u8 115, .int .u8 44, .int .u8 32, .int .u8 97, .int .u8 110, .int .u8 100, .int .u8 32, .int .u8 109, .int .u8 111, .int .u8 114, .int .u8 101, .int .u8 32, .int .u8 116, .int .u8 104, .int .u8 97, .int .u8 110, .int .u8 32, .int .u8 111, .int .u8 110, .int .u8 101, .int .u8 32, .int .u8 115, .int .u8 101, .int .u8 99, .int .u8 116, .int .u8 111, .int .u8 114, .int .u8 32, .int .u8 108, .int .u8 111, .int .u8 110, .int .u8 103, .int .u8 44, .int .u8 32, .int .u8 97, .int .u8 115, .int .u8 32, .int .u8 105, .int .u8 116, .int .u8 32, .int .u8 119, .int .u8 97, .int .u8 115, .int .u8 32, .int .u8 115, .int .u8 121, .int .u8 110, .int .u8 99, .int .u8 101, .int .u8 100]
def keepB : List Int := [107, 101, 112, 116, 32, 102, 111, 114, 32, 101, 118, 101, 114, 44, 32, 119, 104, 97, 116, 101, 118, 101, 114, 32, 101, 108, 115, 101, 32, 116, 104, 101, 114, 101, 32, 105, 115, 44, 32, 97, 110, 100, 32, 109, 111, 114, 101, 32, 116, 104, 97, 110, 32, 111, 110, 101, 32, 115, 101, 99, 116, 111, 114, 32, 108, 111, 110, 103, 44, 32, 97, 115, 32, 105, 116, 32, 119, 97, 115, 32, 115, 121, 110, 99, 101, 100]
theorem keep_enc : keepC = (keepB.map (Value.int .u8)).toArray := rfl
theorem keep_len : keepB.length = 86 := rfl
theorem C_keepB (X : World) (q : Nat) (z : Nat × Nat) (h : X.heap[q]? = some (.cells keepC 5 z)) : Kd.C (Kd.int .u8) X (some ⟨q, 0, none⟩) keepB.length keepB :=
  Kd.C_of_reads (enc := Value.int .u8) (d := (0 : Int)) ⟨rfl, by decide, fun _ => ⟨_, rfl, fun j hj => by
    rw [add_plain, cell_of_row X q j _ 5 z h, keep_enc]
    simp [List.getD_eq_getElem?_getD, List.getElem?_eq_getElem hj]⟩⟩
def nK : ByteArray := ⟨#[107, 101, 112, 116]⟩
theorem name_k : nameB nK = true := by decide +kernel
theorem toList_mk (b : ByteArray) : b.toList = b.data.toList := ByteArray.toList_eq b
theorem strict_of {ss : List (List UInt8)} {l : List (List UInt8)} (hl : l.Nodup) (h : ss = l.mergeSort (fun x y => decide (x ≤ y))) : ss.Pairwise (· < ·) := by
  have tr : ∀ a b c : List UInt8, decide (a ≤ b) = true → decide (b ≤ c) = true → decide (a ≤ c) = true := fun a b c h1 h2 => by simp only [decide_eq_true_eq] at *; exact List.le_trans h1 h2
  have tt : ∀ a b : List UInt8, (decide (a ≤ b) || decide (b ≤ a)) = true := fun a b => by simp only [Bool.or_eq_true, decide_eq_true_eq]; exact List.le_total a b
  have hp := List.pairwise_mergeSort tr tt l
  have hn : (l.mergeSort (fun x y => decide (x ≤ y))).Nodup := ((List.mergeSort_perm l _).nodup_iff).2 hl
  rw [h]
  refine (hp.and hn).imp fun {a b} hab => ?_
  have h1 : a ≤ b := by simpa using hab.1
  rcases Classical.em (a < b) with hlt | hlt
  · exact hlt
  · exact absurd (List.le_antisymm h1 (List.not_lt.1 hlt)) hab.2
theorem Dsk.strict {w : World} {B g b cnt : Nat} {n : Int} {D : DataW Unit} {F : Model} (h : Dsk w B g b cnt n D F) {ss : List (List UInt8)} (hs : namesOf D ss) : ss.Pairwise (· < ·) := by
  obtain ⟨l, hl, e⟩ := hs
  exact strict_of (hl.nodup_iff.2 (Files.keys h.files).1) e
theorem strict_get {ss : List (List UInt8)} (h : ss.Pairwise (· < ·)) {i j : Nat} (hij : i < j) {a b : List UInt8} (ha : ss[i]? = some a) (hb : ss[j]? = some b) : a < b := by
  obtain ⟨hi, rfl⟩ := List.getElem?_eq_some_iff.1 ha
  obtain ⟨hj, rfl⟩ := List.getElem?_eq_some_iff.1 hb
  exact List.pairwise_iff_getElem.1 h i j hi hj hij
/-- No file is longer than M. -/
def Short (F : Model) (M : Nat) : Prop := ∀ nm s l, F nm = some (s, l) → s.length ≤ M ∧ l.length ≤ M
/-- What a crash leaves is what New takes. -/
theorem Dsk.newOk {w : World} {B g b cnt : Nat} {n : Int} {D : DataW Unit} {F : Model} (h : Dsk w B g b cnt n D F) {M : Nat} (hsh : Short F M) (hM : M ≤ 1048576) {ss : List (List UInt8)} {L : List S40} (hs : namesOf D ss) (hl : L.length = ss.length) (hc : CrashL (fun nm => (F nm).getD ([], [])) ss L) : NewOk L ∧ ∀ x ∈ L, x.f1.length ≤ M := by
  have hst := h.strict hs
  have hsz : ss.length = Maps.size D := by rw [(names_perm hs).length_eq, h.keys_len]
  have hmem : ∀ {j : Nat} {nm : List UInt8}, ss[j]? = some nm → ∃ s l, F nm = some (s, l) := fun {j nm} hj => by
    have h1 : nm ∈ strKeys D := (names_perm hs).mem_iff.1 (List.mem_of_getElem? hj)
    have h2 := (h.mem nm).1 h1
    cases hF : F nm with
    | none => exact absurd hF h2
    | some p => exact ⟨p.1, p.2, rfl⟩
  have hat : ∀ j, j < L.length → ∃ nm, ss[j]? = some nm ∧ rd_T40 L (j : Int) = L.getD j z40 ∧ (rd_T40 L (j : Int)).f0 = ⟨nm.toArray⟩ ∧ ∃ s l, F nm = some (s, l) ∧ CrashOf s l (rd_T40 L (j : Int)).f1 := fun j hj => by
    obtain ⟨nm, h1, h2, h3⟩ := hc.2 j hj
    obtain ⟨s, l, hF⟩ := hmem h1
    have e : rd_T40 L (j : Int) = L[j] := by
      have := rd40_get hj
      rw [List.getElem?_eq_getElem hj] at this
      exact (Option.some.inj this).symm
    refine ⟨nm, h1, by rw [e, List.getD_eq_getElem?_getD, List.getElem?_eq_getElem hj]; rfl, by rw [e]; exact h2, s, l, hF, ?_⟩
    have h3' : CrashOf ((F nm).getD ([], [])).1 ((F nm).getD ([], [])).2 L[j].f1 := h3
    rw [hF] at h3'
    rw [e]
    exact h3'
  have hlen : ∀ x ∈ L, x.f1.length ≤ M := fun x hx => by
    obtain ⟨j, hj, rfl⟩ := List.getElem_of_mem hx
    obtain ⟨nm, h1, _, _, s, l, hF, h3⟩ := hat j hj
    have e : rd_T40 L (j : Int) = L[j] := by
      have := rd40_get hj
      rw [List.getElem?_eq_getElem hj] at this
      exact (Option.some.inj this).symm
    have := crashOf_len h3
    have := hsh nm s l hF
    rw [e] at *
    omega
  refine ⟨⟨by have := h.few; omega, fun x hx => ?_, fun x hx => by have := hlen x hx; omega, fun i hi => ?_, fun i j hij hj => ?_⟩, hlen⟩
  · obtain ⟨j, hj, rfl⟩ := List.getElem_of_mem hx
    obtain ⟨nm, h1, h2, _⟩ := hc.2 j hj
    obtain ⟨s, l, hF⟩ := hmem h1
    rw [h2]
    exact h.good nm (by rw [hF]; exact Option.some_ne_none _)
  · obtain ⟨a, ha, _, ha2, _⟩ := hat i (by omega)
    obtain ⟨b, hb, _, hb2, _⟩ := hat (i + 1) hi
    rw [ha2, hb2, toList_mk, toList_mk, bytesLess_eq]
    exact decide_eq_true (by simpa using strict_get hst (Nat.lt_succ_self i) ha hb)
  · obtain ⟨a, ha, _, ha2, _⟩ := hat i (by omega)
    obtain ⟨b, hb, _, hb2, _⟩ := hat j hj
    have hlt := strict_get hst hij ha hb
    rw [ha2, hb2]
    intro e
    have e' : a = b := by simpa using e
    rw [e'] at hlt
    exact absurd hlt (List.lt_irrefl b)
theorem Dsk.kept {w : World} {B g b cnt : Nat} {n : Int} {D : DataW Unit} {F : Model} (h : Dsk w B g b cnt n D F) {k : List UInt8} {c : List Int} (hk : F k = some (c, c)) {ss : List (List UInt8)} {L : List S40} (hs : namesOf D ss) (hl : L.length = ss.length) (hc : CrashL (fun nm => (F nm).getD ([], [])) ss L) : fileMap L k = some (c, c) := by
  have hst := h.strict hs
  have hks : k ∈ ss := (names_perm hs).mem_iff.2 ((h.mem k).2 (by rw [hk]; exact Option.some_ne_none _))
  obtain ⟨j, hj, hjk⟩ := List.getElem_of_mem hks
  have hjL : j < L.length := by omega
  have hex : ∃ x, L.find? (fun x => x.f0.data.toList == k) = some x := by
    rw [← Option.isSome_iff_exists, List.find?_isSome]
    obtain ⟨nm, h1, h2, _⟩ := hc.2 j hjL
    rw [List.getElem?_eq_getElem hj, hjk] at h1
    obtain rfl := Option.some.inj h1
    exact ⟨L[j], List.getElem_mem _, by rw [h2]; simp⟩
  obtain ⟨x, hx⟩ := hex
  unfold fileMap
  rw [hx]
  have hxn := List.find?_some hx
  have hxm := List.mem_of_find?_eq_some hx
  obtain ⟨i, hi, rfl⟩ := List.getElem_of_mem hxm
  obtain ⟨nm, h1, h2, h3⟩ := hc.2 i hi
  rw [h2] at hxn
  have hn : nm = k := by simpa using hxn
  subst hn
  have h3' : CrashOf ((F nm).getD ([], [])).1 ((F nm).getD ([], [])).2 L[i].f1 := h3
  rw [hk] at h3'
  have h4 : L[i].f1 = c := crashOf_same h3'
  show some (L[i].f1, L[i].f1) = some (c, c)
  rw [h4]
/-! How the calls turn the file that is kept, and the files' lengths. -/
theorem Appended.keep {nm k : List UInt8} {l : List Int} {F F' : Model} {e : Int} (h : Appended nm l F F' e) (hk : k ≠ nm) : F' k = F k := by
  rcases h with ⟨_, rfl⟩ | ⟨_, ⟨_, rfl⟩ | ⟨s, q, _, rfl⟩⟩
  · rfl
  · exact Model.put_other _ _ hk
  · exact Model.put_other _ _ hk
theorem Short.put {F : Model} {M M' : Nat} (h : Short F M) (hM : M ≤ M') (nm : List UInt8) (x : Option (List Int × List Int)) (hx : ∀ s l, x = some (s, l) → s.length ≤ M' ∧ l.length ≤ M') : Short (F.put nm x) M' := fun k s l e => by
  by_cases hk : k = nm
  · subst hk; rw [Model.put_same] at e; exact hx s l e
  · rw [Model.put_other _ _ hk] at e
    have := h k s l e
    omega
theorem Short.mono {F : Model} {M M' : Nat} (h : Short F M) (hM : M ≤ M') : Short F M' := fun k s l e => by have := h k s l e; omega
theorem Appended.short {nm : List UInt8} {l : List Int} {F F' : Model} {e : Int} {M : Nat} (h : Appended nm l F F' e) (hF : Short F M) : Short F' (M + l.length) := by
  rcases h with ⟨_, rfl⟩ | ⟨_, ⟨_, rfl⟩ | ⟨s, q, hs, rfl⟩⟩
  · exact hF.mono (by omega)
  · exact hF.put (by omega) _ _ (fun s q e => by injection e with e; injection e with e1 e2; subst e1 e2; exact ⟨by simp, by omega⟩)
  · exact hF.put (by omega) _ _ (fun s' q' e => by injection e with e; injection e with e1 e2; subst e1 e2; have := hF nm s q hs; rw [List.length_append]; omega)
theorem CutTo.keep {nm k : List UInt8} {m : Int} {F F' : Model} {e : Int} (h : CutTo nm m F F' e) (hk : k ≠ nm) : F' k = F k := by
  rcases h with ⟨_, rfl⟩ | ⟨_, s, q, _, rfl⟩
  · rfl
  · exact Model.put_other _ _ hk
theorem CutTo.short {nm : List UInt8} {m : Int} {F F' : Model} {e : Int} {M : Nat} (h : CutTo nm m F F' e) (hF : Short F M) : Short F' M := by
  rcases h with ⟨_, rfl⟩ | ⟨_, s, q, hs, rfl⟩
  · exact hF
  · exact hF.put (Nat.le_refl _) _ _ (fun s' q' e => by injection e with e; injection e with e1 e2; subst e1 e2; have := hF nm s q hs; rw [List.length_take]; omega)
theorem Synced.keep {nm k : List UInt8} {F F' : Model} {e : Int} (h : Synced nm F F' e) (hk : k ≠ nm) : F' k = F k := by
  rcases h with ⟨_, rfl⟩ | ⟨_, s, q, _, rfl⟩
  · rfl
  · exact Model.put_other _ _ hk
theorem Synced.short {nm : List UInt8} {F F' : Model} {e : Int} {M : Nat} (h : Synced nm F F' e) (hF : Short F M) : Short F' M := by
  rcases h with ⟨_, rfl⟩ | ⟨_, s, q, hs, rfl⟩
  · exact hF
  · exact hF.put (Nat.le_refl _) _ _ (fun s' q' e => by injection e with e; injection e with e1 e2; subst e1 e2; have := hF nm s q hs; omega)
theorem Removed.keep {nm k : List UInt8} {F F' : Model} {e : Int} (h : Removed nm F F' e) (hk : k ≠ nm) : F' k = F k := by
  rcases h with ⟨_, _, rfl⟩ | ⟨_, _, rfl⟩
  · rfl
  · exact Model.put_other _ _ hk
theorem Removed.short {nm : List UInt8} {F F' : Model} {e : Int} {M : Nat} (h : Removed nm F F' e) (hF : Short F M) : Short F' M := by
  rcases h with ⟨_, _, rfl⟩ | ⟨_, _, rfl⟩
  · exact hF
  · exact hF.put (Nat.le_refl _) _ _ (fun s' q' e => by cases e)
theorem Renamed.keep {a t : ByteArray} {k : List UInt8} {F F' : Model} {e : Int} (h : Renamed a t F F' e) (hk : k ≠ a.data.toList) (hk2 : k ≠ t.data.toList) : F' k = F k := by
  rcases h with ⟨_, _, ⟨_, _, rfl⟩ | ⟨s, q, _, _, rfl⟩⟩ | ⟨_, _, rfl⟩
  · rfl
  · rw [Model.put_other _ _ hk2, Model.put_other _ _ hk]
  · rfl
theorem Renamed.short {a t : ByteArray} {F F' : Model} {e : Int} {M : Nat} (h : Renamed a t F F' e) (hF : Short F M) : Short F' M := by
  rcases h with ⟨_, _, ⟨_, _, rfl⟩ | ⟨s, q, hs, _, rfl⟩⟩ | ⟨_, _, rfl⟩
  · exact hF
  · exact (hF.put (Nat.le_refl _) _ _ (fun s' q' e => by cases e)).put (Nat.le_refl _) _ _ (fun s' q' e => by injection e with e; injection e with e1 e2; subst e1 e2; exact hF _ s q hs)
  · exact hF
theorem within_is (a : Int) : ∃ r : Nat, r < 11 ∧ lecternlaw0_Within.f a 11 = some (r : Int) := by
  unfold lecternlaw0_Within.f
  have h11 : IntKind.u64.wrap 11 = 11 := wrap_u64_in _ (by omega) (by omega)
  rw [h11, if_neg (by decide)]
  have hu : 0 ≤ IntKind.u64.wrap a := by rw [wrap_u64]; omega
  have h0 : 0 ≤ Int.tmod (IntKind.u64.wrap a) 11 := Int.tmod_nonneg _ hu
  have h1 : Int.tmod (IntKind.u64.wrap a) 11 < 11 := Int.tmod_lt_of_pos _ (by omega)
  refine ⟨(Int.tmod (IntKind.u64.wrap a) 11).toNat, by omega, ?_⟩
  rw [wrap64_in _ (by omega) (by omega), Int.toNat_of_nonneg h0]
end Go.Proofs.Ytoonepmnlgfikaa.D
