/- DiskMoves, DiskSafe: the plain part. -/
import Derived.Test.YtoonepmnlgfikaaDNew
import Derived.Test.YtoonepmnlgfikaaDx41
import Derived.Test.YtoonepmnlgfikaaDx44
import Derived.Test.YtoonepmnlgfikaaDx47
import Derived.Test.YtoonepmnlgfikaaDx54
import Derived.Test.YtoonepmnlgfikaaDOpens
namespace Go.Proofs.Ytoonepmnlgfikaa.D
open Go.RowKit Go.Proofs.YtoonepmnlgfikaaW.PrintWords Go.Proofs.YtoonepmnlgfikaaW.PrintLast Go.Proofs.YtoonepmnlgfikaaW.PrintMore Go.Proofs.Ytoonepmnlgfikaa.Base Go.Maps Go.Sort Go.Shelf
set_option linter.unusedVariables false
set_option linter.unusedSimpArgs false
theorem rd_snoc (l : List Int) {i : Nat} (h : i < l.length) : l.take (i + 1) = l.take i ++ [rd l (i : Int)] := by
  rw [List.take_add_one]
  have : rd l (i : Int) = l[i] := by
    show l.getD (i : Int).toNat 0 = _
    rw [Int.toNat_natCast, List.getD_eq_getElem?_getD, List.getElem?_eq_getElem h]
    rfl
  rw [this, List.getElem?_eq_getElem h]
  rfl
theorem copyBytes_l0 (l : List Int) (hl : l.length ≤ 100000000) : ∀ (d i k : Nat), i + d = l.length → d < k → lecternref0_CopyBytes.l0 k l (l.take i) (i : Int) = some l
  | 0, i, k, hi, hk => by
    obtain ⟨k, rfl⟩ : ∃ n, k = n + 1 := ⟨k - 1, by omega⟩
    rw [lecternref0_CopyBytes.l0, if_neg (by omega), List.take_of_length_le (by omega)]
  | d + 1, i, k, hi, hk => by
    obtain ⟨k, rfl⟩ : ∃ n, k = n + 1 := ⟨k - 1, by omega⟩
    have hw : wrap64 ((i : Int) + 1) = ((i + 1 : Nat) : Int) := by rw [wrap64_in _ (by omega) (by omega)]; rfl
    rw [lecternref0_CopyBytes.l0, if_pos (by omega), if_pos (by omega), if_pos (by rw [List.length_take]; omega), hw, ← rd_snoc l (by omega)]
    exact copyBytes_l0 l hl d (i + 1) k (by omega) (by omega)
theorem copyBytes_is (l : List Int) (hl : l.length ≤ 100000000) (k : Nat) (hk : l.length < k) : lecternref0_CopyBytes.f k l = some l := by
  unfold lecternref0_CopyBytes.f
  have := copyBytes_l0 l hl l.length 0 k (by omega) hk
  simpa using this
theorem eqBytes_l0 (l : List Int) (hl : l.length ≤ 100000000) : ∀ (d i k : Nat), i + d = l.length → d < k → lecternref0_EqBytes.l0 k l l (i : Int) = some true
  | 0, i, k, hi, hk => by
    obtain ⟨k, rfl⟩ : ∃ n, k = n + 1 := ⟨k - 1, by omega⟩
    rw [lecternref0_EqBytes.l0, if_neg (by omega)]
  | d + 1, i, k, hi, hk => by
    obtain ⟨k, rfl⟩ : ∃ n, k = n + 1 := ⟨k - 1, by omega⟩
    have hw : wrap64 ((i : Int) + 1) = ((i + 1 : Nat) : Int) := by rw [wrap64_in _ (by omega) (by omega)]; rfl
    rw [lecternref0_EqBytes.l0, if_pos (by omega), if_pos (by omega), if_pos (by omega), if_pos rfl, hw]
    exact eqBytes_l0 l hl d (i + 1) k (by omega) (by omega)
theorem eqBytes_is (l : List Int) (hl : l.length ≤ 100000000) (k : Nat) (hk : l.length < k) : lecternref0_EqBytes.f k l l = some true := by
  unfold lecternref0_EqBytes.f
  rw [if_pos rfl]
  exact eqBytes_l0 l hl l.length 0 k (by omega) hk
theorem eqFiles_one (x : S40) (hl : x.f1.length ≤ 100000000) (k : Nat) (hk : x.f1.length < k) : lecternref0_EqFiles.f (k + 2) [x] [x] = some true := by
  have hw : wrap64 ((0 : Int) + 1) = 1 := by rw [wrap64_in _ (by omega) (by omega)]; rfl
  have r0 : rd_T40 [x] 0 = x := rfl
  unfold lecternref0_EqFiles.f
  have hl1 : ((([x] : List S40).length : Nat) : Int) = 1 := rfl
  rw [if_pos rfl, lecternref0_EqFiles.l0, hl1, if_pos (show (0 : Int) < 1 by decide), if_pos (Int.le_refl _), if_pos (show (0 : Int) < 1 by decide), r0, hw]
  unfold lecternref0_EqFile.f
  rw [if_pos rfl, eqBytes_is x.f1 hl (k + 1) (by omega)]
  show (if true = true then lecternref0_EqFiles.l0 (k + 1) [x] [x] 1 else some false) = some true
  rw [if_pos rfl, lecternref0_EqFiles.l0, hl1, if_neg (show ¬ (1 : Int) < 1 by decide)]
theorem copyFiles_l0 (fs : List S40) (M : Nat) (hM : M ≤ 100000000) (hl : ∀ x ∈ fs, x.f1.length ≤ M) (hf : fs.length ≤ 1000) : ∀ (d i k : Nat), i + d = fs.length → d + M + 1 < k → lecternref0_CopyFiles.l0 k fs (fs.take i) (i : Int) = some fs
  | 0, i, k, hi, hk => by
    obtain ⟨k, rfl⟩ : ∃ n, k = n + 1 := ⟨k - 1, by omega⟩
    rw [lecternref0_CopyFiles.l0, if_neg (by omega), List.take_of_length_le (by omega)]
  | d + 1, i, k, hi, hk => by
    obtain ⟨k, rfl⟩ : ∃ n, k = n + 1 := ⟨k - 1, by omega⟩
    have hw : wrap64 ((i : Int) + 1) = ((i + 1 : Nat) : Int) := by rw [wrap64_in _ (by omega) (by omega)]; rfl
    have hx := hl _ (rd40_mem (fs := fs) (i := i) (by omega))
    rw [lecternref0_CopyFiles.l0, if_pos (by omega), if_pos (by omega)]
    unfold lecternref0_CopyFile.f
    rw [copyBytes_is _ (by omega) k (by omega)]
    show (if (fs.take i).length < 3518437208883 then lecternref0_CopyFiles.l0 k fs (fs.take i ++ [rd_T40 fs (i : Int)]) (wrap64 ((i : Int) + 1)) else none) = some fs
    rw [if_pos (by rw [List.length_take]; omega), hw, ← take_snoc40 (by omega)]
    exact copyFiles_l0 fs M hM hl hf d (i + 1) k (by omega) (by omega)
theorem copyFiles_is (fs : List S40) (M : Nat) (hM : M ≤ 100000000) (hl : ∀ x ∈ fs, x.f1.length ≤ M) (hf : fs.length ≤ 1000) (k : Nat) (hk : fs.length + M + 1 < k) : lecternref0_CopyFiles.f k fs = some fs := by
  unfold lecternref0_CopyFiles.f
  have := copyFiles_l0 fs M hM hl hf fs.length 0 k (by omega) hk
  simpa using this
theorem tornV_same (s : List Int) (n : Nat) : tornV s s n = s := by
  unfold tornV padTo
  rw [Nat.max_self, Nat.sub_self, List.replicate_zero, List.append_nil, List.take_append_drop, List.take_of_length_le (Nat.le_refl _)]
theorem crashOf_same {s d : List Int} (h : CrashOf s s d) : d = s := by
  rcases h with h | h | ⟨n, _, h⟩
  · exact h
  · exact h
  · rw [h, tornV_same]
theorem tornV_len (s l : List Int) (n : Nat) : (tornV s l n).length ≤ l.length := by
  unfold tornV
  rw [List.length_take]
  omega
theorem crashOf_len {s l d : List Int} (h : CrashOf s l d) : d.length ≤ max s.length l.length := by
  rcases h with h | h | ⟨n, _, h⟩
  · rw [h]; omega
  · rw [h]; omega
  · rw [h]; have := tornV_len s l n; omega
theorem names_perm {D : DataW Unit} {ss : List (List UInt8)} (h : namesOf D ss) : ss.Perm (strKeys D) := by
  obtain ⟨l, hl, rfl⟩ := h
  exact (List.mergeSort_perm _ _).trans hl
theorem single_of {l : List (List UInt8)} {k : List UInt8} (hn : l.Nodup) (h : ∀ x, x ∈ l ↔ x = k) : l = [k] := by
  cases l with
  | nil => exact absurd ((h k).2 rfl) (by simp)
  | cons a r =>
    obtain rfl := (h a).1 (by simp)
    cases r with
    | nil => rfl
    | cons b t =>
      have hb : b = a := (h b).1 (by simp)
      rw [hb] at hn
      simp at hn
theorem Dsk.names_one {w : World} {B g b cnt : Nat} {n : Int} {D : DataW Unit} {F : Model} (h : Dsk w B g b cnt n D F) {k : List UInt8} (hF : ∀ x, F x ≠ none ↔ x = k) {ss : List (List UInt8)} (hs : namesOf D ss) : ss = [k] := by
  have hp := names_perm hs
  have hk := single_of (Files.keys h.files).1 (fun x => by rw [h.mem x, hF x])
  rw [hk] at hp
  exact List.perm_singleton.1 hp
theorem Dsk.names_nil {w : World} {B g b cnt : Nat} {n : Int} {D : DataW Unit} {F : Model} (h : Dsk w B g b cnt n D F) (hF : ∀ x, F x = none) : strKeys D = [] := by
  apply List.eq_nil_iff_forall_not_mem.2
  intro x hx
  exact (h.mem x).1 hx (hF x)
theorem Dsk.keys_len {w : World} {B g b cnt : Nat} {n : Int} {D : DataW Unit} {F : Model} (h : Dsk w B g b cnt n D F) : (strKeys D).length = Maps.size D := by
  obtain ⟨es, hD, _⟩ := h.tidy
  rw [hD]
  exact List.length_map ..
theorem one_cell {W : World} {q : Nat} {x : S40} {A : Option Addr} {c : Nat} (hq : W.heap[q]? = some (.cells #[.string x.f0, .slice A x.f1.length c] 40 (0, 0))) (h : Kd.C (Kd.int .u8) W A x.f1.length x.f1) (hc : x.f1.length ≤ c) : Kd.C k40 W (some ⟨q, 0, none⟩) [x].length [x] := by
  refine ⟨rfl, show 1 ≤ 9223372036854775807 by decide, fun _ => ⟨_, rfl, fun j p hj => ?_⟩⟩
  match j, hj with
  | 0, hj =>
    obtain rfl := Option.some.inj hj
    refine ⟨[.string x.f0, .slice A x.f1.length c], rfl, ⟨_, _, rfl, rfl, ⟨A, c, rfl, hc, h⟩⟩, fun i v hv => ?_⟩
    match i, hv with
    | 0, hv => obtain rfl := Option.some.inj hv; exact (blk_cell hq 0).trans rfl
    | 1, hv => obtain rfl := Option.some.inj hv; exact (blk_cell hq 1).trans rfl
theorem two_cells {W : World} {q : Nat} {x y : S40} {A : Option Addr} {c : Nat} {A' : Option Addr} {c' : Nat} (hq : W.heap[q]? = some (.cells #[.string x.f0, .slice A x.f1.length c, .string y.f0, .slice A' y.f1.length c'] 40 (0, 0))) (h : Kd.C (Kd.int .u8) W A x.f1.length x.f1) (hc : x.f1.length ≤ c) (h' : Kd.C (Kd.int .u8) W A' y.f1.length y.f1) (hc' : y.f1.length ≤ c') : Kd.C k40 W (some ⟨q, 0, none⟩) [x, y].length [x, y] := by
  refine ⟨rfl, show 2 ≤ 9223372036854775807 by decide, fun _ => ⟨_, rfl, fun j p hj => ?_⟩⟩
  match j, hj with
  | 0, hj =>
    obtain rfl := Option.some.inj hj
    refine ⟨[.string x.f0, .slice A x.f1.length c], rfl, ⟨_, _, rfl, rfl, ⟨A, c, rfl, hc, h⟩⟩, fun i v hv => ?_⟩
    match i, hv with
    | 0, hv => obtain rfl := Option.some.inj hv; exact (blk_cell hq 0).trans rfl
    | 1, hv => obtain rfl := Option.some.inj hv; exact (blk_cell hq 1).trans rfl
  | 1, hj =>
    obtain rfl := Option.some.inj hj
    refine ⟨[.string y.f0, .slice A' y.f1.length c'], rfl, ⟨_, _, rfl, rfl, ⟨A', c', rfl, hc', h'⟩⟩, fun i v hv => ?_⟩
    match i, hv with
    | 0, hv => obtain rfl := Option.some.inj hv; exact (blk_cell hq 2).trans rfl
    | 1, hv => obtain rfl := Option.some.inj hv; exact (blk_cell hq 3).trans rfl
def oldB : List Int := [111, 108, 100]
theorem C_oldB (X : World) (q : Nat) (h : X.heap[q]? = some (.cells #[.int .u8 111, .int .u8 108, .int .u8 100] 5 (3, 4))) : Kd.C (Kd.int .u8) X (some ⟨q, 0, none⟩) oldB.length oldB :=
  Kd.C_of_reads (enc := Value.int .u8) (d := (0 : Int)) ⟨rfl, by decide, fun _ => ⟨_, rfl, fun j hj => by
    rw [add_plain, cell_of_row X q j _ 5 (3, 4) h]
    match j, hj with
    | 0, _ => rfl
    | 1, _ => rfl
    | 2, _ => rfl⟩⟩
def nA : ByteArray := ⟨#[97]⟩
def nB : ByteArray := ⟨#[98]⟩
theorem name_a : nameB nA = true := by decide +kernel
theorem name_b : nameB nB = true := by decide +kernel
theorem twoOk (bs : List Int) (h : bs.length ≤ 10000) : NewOk [⟨nA, bs⟩, ⟨nB, oldB⟩] := by
  refine ⟨show 2 ≤ 16 by decide, fun x hx => ?_, fun x hx => ?_, fun i hi => ?_, fun i j hij hj => ?_⟩
  · rcases List.mem_cons.1 hx with rfl | hx
    · exact name_a
    · obtain rfl := List.mem_singleton.1 hx; exact name_b
  · rcases List.mem_cons.1 hx with rfl | hx
    · show bs.length ≤ _; omega
    · obtain rfl := List.mem_singleton.1 hx; show 3 ≤ 1048576; decide
  · obtain rfl : i = 0 := by have : i + 1 < 2 := hi; omega
    show Op.bytesLess nA.toList nB.toList = true
    decide +kernel
  · have hj2 : j < 2 := hj
    obtain ⟨rfl, rfl⟩ : i = 0 ∧ j = 1 := by omega
    show nA.data.toList ≠ nB.data.toList
    decide
/-- The files behind the renaming: b alone. -/
def onlyB (bs : List Int) : Model := fun k => if k = [98] then some (bs, bs) else none
theorem ab_moved (bs : List Int) (F' : Model) (e : Int) (h : Renamed nA nB (fileMap [⟨nA, bs⟩, ⟨nB, oldB⟩]) F' e) : e = 0 ∧ F' = onlyB bs := by
  have hA : fileMap [⟨nA, bs⟩, ⟨nB, oldB⟩] nA.data.toList = some (bs, bs) := rfl
  rcases h with ⟨_, _, h⟩ | ⟨h, _⟩
  · rcases h with ⟨h, _⟩ | ⟨s, q, h, rfl, rfl⟩
    · rw [hA] at h; cases h
    · rw [hA] at h
      injection h with h
      injection h with h1 h2
      subst h1 h2
      refine ⟨rfl, ?_⟩
      funext k
      unfold onlyB Model.put
      show (if k = [98] then _ else if k = [97] then _ else _) = _
      by_cases hb : k = [98]
      · rw [if_pos hb, if_pos hb]
      · rw [if_neg hb, if_neg hb]
        by_cases ha : k = [97]
        · rw [if_pos ha]
        · rw [if_neg ha]
          exact fileMap_none (fun x hx => by
            rcases List.mem_cons.1 hx with rfl | hx
            · exact fun e => ha (by rw [← e]; rfl)
            · obtain rfl := List.mem_singleton.1 hx; exact fun e => hb (by rw [← e]; rfl))
  · rw [name_a, name_b] at h; rcases h with h | h <;> cases h
theorem ab_gone (bs : List Int) (F' : Model) (e : Int) (h : Renamed nA nB (onlyB bs) F' e) : e = 3 ∧ F' = onlyB bs := by
  have hA : onlyB bs nA.data.toList = none := rfl
  rcases h with ⟨_, _, h⟩ | ⟨h, _⟩
  · rcases h with ⟨_, h1, h2⟩ | ⟨s, q, h, rfl, rfl⟩
    · exact ⟨h1, h2⟩
    · rw [hA] at h; cases h
  · rw [name_a, name_b] at h; rcases h with h | h <;> cases h
theorem bb_same (bs : List Int) (F' : Model) (e : Int) (h : Renamed nB nB (onlyB bs) F' e) : e = 0 ∧ F' = onlyB bs := by
  have hB : onlyB bs nB.data.toList = some (bs, bs) := rfl
  rcases h with ⟨_, _, h⟩ | ⟨h, _⟩
  · rcases h with ⟨h, _⟩ | ⟨s, q, h, rfl, rfl⟩
    · rw [hB] at h; cases h
    · rw [hB] at h
      injection h with h
      injection h with h1 h2
      subst h1 h2
      refine ⟨rfl, ?_⟩
      funext k
      unfold onlyB Model.put
      show (if k = [98] then _ else if k = [98] then _ else _) = _
      by_cases hb : k = [98]
      · rw [if_pos hb, if_pos hb]
      · rw [if_neg hb, if_neg hb, if_neg hb]
        exact if_neg hb
  · rw [name_b] at h; rcases h with h | h <;> cases h
theorem a_gone (bs : List Int) (F' : Model) (e : Int) (h : Removed nA.data.toList (onlyB bs) F' e) : e = 3 ∧ F' = onlyB bs := by
  have hA : onlyB bs nA.data.toList = none := rfl
  rcases h with ⟨_, h1, h2⟩ | ⟨⟨s, q, h⟩, _⟩
  · exact ⟨h1, h2⟩
  · rw [hA] at h; cases h
theorem b_gone (bs : List Int) (F' : Model) (e : Int) (h : Removed nB.data.toList (onlyB bs) F' e) : e = 0 ∧ F' = fun _ => none := by
  have hB : onlyB bs nB.data.toList = some (bs, bs) := rfl
  rcases h with ⟨h, _⟩ | ⟨_, h1, h2⟩
  · rw [hB] at h; cases h
  · refine ⟨h1, ?_⟩
    rw [h2]
    funext k
    unfold onlyB Model.put
    show (if k = [98] then none else _) = none
    by_cases hb : k = [98]
    · rw [if_pos hb]
    · rw [if_neg hb]
      exact if_neg hb
theorem onlyB_iff (bs : List Int) (x : List UInt8) : onlyB bs x ≠ none ↔ x = [98] := by
  unfold onlyB
  by_cases hb : x = [98]
  · rw [if_pos hb]; exact ⟨fun _ => hb, fun _ => Option.some_ne_none _⟩
  · rw [if_neg hb]; exact ⟨fun h => absurd rfl h, fun h => absurd h hb⟩
end Go.Proofs.Ytoonepmnlgfikaa.D
