/- Sessions: rows of one's own (MDeP, MDel, MShA). -/
import Derived.Test.YtpeldaogdeefeaaGreatMG11
import Derived.Test.YtpeldaogdeefeaaGreatMx57
import Derived.Test.YtpeldaogdeefeaaGreatMMay
import Derived.BigRegion
import Derived.StillTailTactics
/-! MDeP -/
namespace Go.Proofs.YtpeldaogdeefeaaGreat.M
open Go.Proofs.YtpeldaogdeefeaaGreat.H Go.RowKit Go.Maps Go.Sort Go.Proofs.YtpeldaogdeefeaaGreatW.PrintWords Go.Proofs.YtpeldaogdeefeaaGreatW.PrintLast Go.Proofs.YtpeldaogdeefeaaGreatW.PrintMore Go.Proofs.YtpeldaogdeefeaaGreat.Base
set_option linter.unusedVariables false
set_option linter.unusedSimpArgs false
/-! ### deleting -/
def delV (M : List (Bs × Bs)) (id : Bs) : List (Bs × Bs) × Int :=
  if 1 ≤ id.length ∧ id.length ≤ 64 then (if id ∈ names M then (del id M, 0) else (M, 3)) else (M, 1)
theorem del_split (k : Bs) : ∀ (M : List (Bs × Bs)) (j : Nat) (hj : j < M.length), Rise (names M) → M[j].1 = k → M.take j ++ M.drop (j + 1) = del k M
  | [], j, hj, _, _ => absurd hj (Nat.not_lt_zero _)
  | p :: t, 0, hj, hr, e => by
    have e' : p.1 = k := e
    have hr' := List.pairwise_cons.1 (show List.Pairwise (· < ·) (p.1 :: names t) from hr)
    have hno : k ∉ names t := fun hm => by
      have := hr'.1 k hm
      rw [e'] at this
      exact List.lt_irrefl k this
    show t = del k (p :: t)
    unfold del
    rw [List.filter_cons_of_neg (by simp [e'])]
    exact (del_no hno).symm
  | p :: t, j + 1, hj, hr, e => by
    have hj' : j < t.length := by simpa using hj
    have e' : t[j].1 = k := by simpa using e
    have hr' := List.pairwise_cons.1 (show List.Pairwise (· < ·) (p.1 :: names t) from hr)
    have hm : k ∈ names t := by rw [← e']; exact List.mem_map_of_mem (List.getElem_mem hj')
    have hne : p.1 ≠ k := fun h => by
      have := hr'.1 k hm
      rw [h] at this
      exact List.lt_irrefl k this
    have ih := del_split k t j hj' hr'.2 e'
    show p :: (t.take j ++ t.drop (j + 1)) = del k (p :: t)
    rw [ih]
    unfold del
    rw [List.filter_cons_of_pos (by simpa using hne)]
theorem docs_del {l : List S36} (h : DocsOk l) (id : ByteArray) (j : Nat) (hj : j < l.length) (e : l[j].f0.data.toList = id.data.toList) : l.take j ++ l.drop (j + 1) = docs (del id.data.toList (pairs l)) := by
  have h1 := del_split id.data.toList (pairs l) j (by simpa [pairs] using hj) h.rise (by simpa [pairs, pr] using e)
  rw [← h1]
  have e1 : (pairs l).take j = pairs (l.take j) := by simp [pairs, List.map_take]
  have e2 : (pairs l).drop (j + 1) = pairs (l.drop (j + 1)) := by simp [pairs, List.map_drop]
  rw [e1, e2, show pairs (l.take j) ++ pairs (l.drop (j + 1)) = pairs (l.take j ++ l.drop (j + 1)) by simp [pairs]]
  exact (docs_pairs _).symm
theorem refDel_is {l : List S36} (h : DocsOk l) (id : ByteArray) (hid : id.size ≤ 1000000000000) : Ev (fun k => lecternref8_Delete.f k l id) (docs (delV (pairs l) id.data.toList).1, (delV (pairs l) id.data.toList).2) := by
  have hfew := h.few
  have hsz : id.data.toList.length = id.size := ba_size id
  by_cases hn : 1 ≤ id.size ∧ id.size ≤ 64
  · obtain ⟨r, hEf, hr⟩ := find_is l id (by omega)
    have hne : ¬ (id.toList = ([] : List UInt8)) := fun e => by have := (ne_nil id).1 e; omega
    have hgo : ∀ v, Ev (fun k => (lecternref8_Find.f k l id).bind fun t235 => (if t235 < 0 then (some (l, (3 : Int))) else (if 0 ≤ t235 then (if t235 ≤ (l.length : Int) then ((lecternref0_CopyDocs.f k (l.take (t235 : Int).toNat)).bind fun t240 => (if 0 ≤ (wrap64 (t235 + 1)) then (if (wrap64 (t235 + 1)) ≤ (l.length : Int) then ((some (l.drop ((wrap64 (t235 + 1)) : Int).toNat : List (S36))).bind fun y243 => (if t240.length + y243.length < 4398046511104 then (some ((t240 ++ y243), (0 : Int))) else (none))) else (none)) else (none))) else (none)) else (none)))) v → Ev (fun k => lecternref8_Delete.f k l id) v := fun v hv => by
      refine Ev.of_eq (g := fun k => lecternref8_Delete.j0 k l id false) (Ev.step (hv.of_eq fun k => by rw [lecternref8_Delete.j0, if_neg (by decide)])) (fun k => by unfold lecternref8_Delete.f; rw [if_neg hne, decide_eq_false (by omega)])
    refine hgo _ (Ev.bind hEf ?_)
    rcases hr with ⟨rfl, hno⟩ | ⟨j, hj, rfl, e, hyes⟩
    · have hv : delV (pairs l) id.data.toList = (pairs l, 3) := by unfold delV; rw [hsz, if_pos hn, if_neg (show ¬ id.data.toList ∈ names (pairs l) from hno)]
      rw [hv]
      exact (Ev.pure _).of_eq fun k => by rw [if_pos (by decide), docs_pairs]
    · have hv : delV (pairs l) id.data.toList = (del id.data.toList (pairs l), 0) := by unfold delV; rw [hsz, if_pos hn, if_pos (show id.data.toList ∈ names (pairs l) from hyes)]
      rw [hv]
      have e1 : wrap64 ((j : Int) + 1) = ((j + 1 : Nat) : Int) := wrn j (by omega)
      refine Ev.of_eq (g := fun k => (lecternref0_CopyDocs.f k (l.take j)).bind fun t240 => if t240.length + (l.drop (j + 1)).length < 4398046511104 then some (t240 ++ l.drop (j + 1), (0 : Int)) else none) ?_ (fun k => by
        rw [if_neg (by omega), if_pos (by omega), if_pos (by omega), Int.toNat_natCast]
        congr 1
        funext t240
        rw [e1, if_pos (by omega), if_pos (by omega), Int.toNat_natCast]
        rfl)
      refine Ev.bind (copy_is (l.take j) (by rw [List.length_take]; omega)) ((Ev.pure _).of_eq fun k => ?_)
      rw [if_pos (by rw [List.length_take, List.length_drop]; omega), docs_del h id j hj e]
  · have hv : delV (pairs l) id.data.toList = (pairs l, 1) := by unfold delV; rw [hsz, if_neg hn]
    rw [hv, docs_pairs]
    have hgo : Ev (fun k => lecternref8_Delete.j0 k l id true) (l, 1) := Ev.step ((Ev.pure _).of_eq fun k => by rw [lecternref8_Delete.j0, if_pos rfl])
    refine hgo.of_eq fun k => ?_
    unfold lecternref8_Delete.f
    by_cases hz : id.size = 0
    · rw [if_pos ((ne_nil id).2 hz)]
    · rw [if_neg (fun e => hz ((ne_nil id).1 e)), decide_eq_true (by omega)]
theorem del_len (k : Bs) (M : List (Bs × Bs)) : (del k M).length ≤ M.length := List.length_filter_le _ _
theorem totB_del (k : Bs) : ∀ M : List (Bs × Bs), totB (del k M) ≤ totB M
  | [] => Nat.le_refl _
  | p :: t => by
    have ih := totB_del k t
    show totB (List.filter _ (p :: t)) ≤ p.2.length + totB t
    rw [List.filter_cons]
    split
    · show p.2.length + totB (del k t) ≤ _
      omega
    · show totB (del k t) ≤ _
      omega
theorem totB_del_hit (k v : Bs) : ∀ M : List (Bs × Bs), Rise (names M) → (k, v) ∈ M → totB M = totB (del k M) + v.length
  | [], _, h => absurd h List.not_mem_nil
  | p :: t, hr, h => by
    have hr' := List.pairwise_cons.1 (show List.Pairwise (· < ·) (p.1 :: names t) from hr)
    by_cases e : p.1 = k
    · have hno : k ∉ names t := fun hm => by
        have := hr'.1 k hm
        rw [e] at this
        exact List.lt_irrefl k this
      have hp : p = (k, v) := by
        rcases List.mem_cons.1 h with h | h
        · exact h.symm
        · exact absurd (List.mem_map_of_mem (f := (·.1)) h) hno
      have hd : del k (p :: t) = t := by
        unfold del
        rw [List.filter_cons_of_neg (by simp [e])]
        exact del_no hno
      rw [hd, hp]
      show v.length + totB t = totB t + v.length
      omega
    · have hm : (k, v) ∈ t := by
        rcases List.mem_cons.1 h with h | h
        · exact absurd (by rw [← h]) e
        · exact h
      have ih := totB_del_hit k v t hr'.2 hm
      have hd : del k (p :: t) = p :: del k t := by
        unfold del
        rw [List.filter_cons_of_pos (by simpa using e)]
      rw [hd]
      show p.2.length + totB t = p.2.length + totB (del k t) + v.length
      omega
theorem docsOk_del {l : List S36} (h : DocsOk l) (k : Bs) : DocsOk (docs (del k (pairs l))) := by
  have hm : ∀ x ∈ docs (del k (pairs l)), x ∈ l := fun x hx => by
    obtain ⟨q, hq, rfl⟩ := List.mem_map.1 hx
    exact mem_pairs ((mem_del k _ q).1 hq).1
  refine ⟨by rw [pairs_docs]; exact del_rise k _ h.rise, fun x hx => h.nm x (hm x hx), ?_, fun x hx => h.tx x (hm x hx), ?_⟩
  · have h1 := del_len k (pairs l)
    have h2 := h.few
    simp only [docs, List.length_map, pairs] at h1 ⊢
    omega
  · have h1 := totB_del k (pairs l)
    have h2 := h.tot
    rw [← tot_sz] at h2 ⊢
    rw [pairs_docs]
    omega
theorem docsOk_delV {l : List S36} (h : DocsOk l) (k : Bs) : DocsOk (docs (delV (pairs l) k).1) := by
  unfold delV
  split
  · split
    · exact docsOk_del h k
    · rw [docs_pairs]; exact h
  · rw [docs_pairs]; exact h
end Go.Proofs.YtpeldaogdeefeaaGreat.M
/-! MDel -/
namespace Go.Proofs.YtpeldaogdeefeaaGreat.M
open Go.Proofs.YtpeldaogdeefeaaGreat.H Go.RowKit Go.Maps Go.Sort Go.Proofs.YtpeldaogdeefeaaGreatW.PrintWords Go.Proofs.YtpeldaogdeefeaaGreatW.PrintLast Go.Proofs.YtpeldaogdeefeaaGreatW.PrintMore Go.Proofs.YtpeldaogdeefeaaGreat.Base
set_option linter.unusedVariables false
set_option linter.unusedSimpArgs false
theorem boo_inv {P : Program} {e : TypeId} (he : P.underlying e = some .bool) {v : Value} {z : DataW Unit × List MemPlace} (h : plainElem (H := Unit) P e v = some z) : ∃ b, v = .bool b ∧ z = (.lit (.bool b), []) := by
  unfold plainElem at h
  rw [he] at h
  cases v <;> simp at h
  exact ⟨_, rfl, h.symm⟩
theorem look_tru {w : World} {b n : Nat} {D : DataW Unit} (h : Fresh w b n D) (id : ByteArray) (hs : id.size ≤ maxLen) (hp : ∀ z, D.atKey (.string id.data.toList) z = fB ()) :
    (Instr.lookup 99 (.map (some b)) (.string id) false).run Tryz.prog w = .ok (.bool true) w := by
  obtain ⟨v, ps, hrun, hv⟩ := World.ownsMap.lookup h K9 Tryz.underlying99 (z := .bool false) (zd := .lit (.bool false)) (zp := []) (Tryz.zeroValue4 w) (plainElem_bool (H := Unit) Tryz.underlying4 false) (WideMaps.keyOf_string_mk Tryz.underlying9 hs)
  obtain ⟨s, rfl, hz⟩ := boo_inv Tryz.underlying4 hv
  rw [hp] at hz
  simp only [fB, Prod.mk.injEq, DataW.lit.injEq, Lit.bool.injEq] at hz
  rw [hrun, ← hz.1]
set_option maxRecDepth 100000 in
set_option maxHeartbeats 6400000 in
theorem del_calls {w : World} {B U g cnt : Nat} {M M' : List (Bs × Bs)} {r : Int} (h : Shf w B U g cnt M) (id : ByteArray) (hid : id.size ≤ 140737488351232) (hdel : delV M id.data.toList = (M', r)) :
    Calls Tryz.prog 31 #[.pointer (some ⟨g, 0, none⟩), .string id] w fun e w' => e = .returned (.int .i64 r) ∧ Shf w' B U g cnt M' ∧ KeptO w w' B U := by
  have HDEL := Aside0.mk hdel
  clear hdel
  have HS := Aside0.mk h
  have hu102 := Tryz.underlying102
  have hu98 := Tryz.underlying98
  obtain ⟨bt, bf, nt, nf, Dt, Df, h1, h2, h3, h4, h5, h6, h7, h8, h9, h10, h11, h12⟩ := h.ex
  have HG := Aside0.mk h1
  have HT := Aside0.mk h7
  have HF := Aside0.mk h8
  have HDT := Aside0.mk h9
  have HDF := Aside0.mk h10
  have HLO : Aside0 (B ≤ bt ∧ bt < U ∧ B ≤ bf ∧ bf < U ∧ bt ≠ bf ∧ nt ≤ cnt ∧ nf ≤ cnt ∧ B ≤ w.heap.size) := ⟨⟨h2, h3, h4, h5, h6, h11, h12, h.size⟩⟩
  have HNE : Aside0 (bf ≠ g ∧ bt ≠ g) := ⟨⟨map_ne h8 h1, map_ne h7 h1⟩⟩
  have HID : Aside0 (id.data.toList.length = id.size) := ⟨ba_size id⟩
  have HSZ : Aside0 (id.size ≤ maxLen) := ⟨by unfold maxLen; omega⟩
  have HTOT : Aside0 (totB M ≤ 16384 ∧ M.length ≤ 64) := ⟨⟨h.tot, h.few⟩⟩
  obtain ⟨vl, hrun1⟩ := look_has HT.out id HSZ.out
  have hhas : has Dt (.string id.data.toList) = decide (id.data.toList ∈ names M) := by
    by_cases hin : id.data.toList ∈ names M
    · rw [decide_eq_true hin]; exact (h9.has_ _).2 hin
    · rw [decide_eq_false hin]; exact h9.no hin
  rw [hhas] at hrun1
  have y0 : w.cell? ⟨g, 0, none⟩ = some (.map (some bt)) := (blk_cell HG.out 0).trans rfl
  clear h h1 h2 h3 h4 h5 h6 h7 h8 h9 h10 h11 h12 hhas hid
  go_enter Tryz.func31, Tryz.ntmps31
  go_upto_region 2 with (fail)
  clear hrun1 y0
  go_wp2_with fail
  refine (segment_Name.calls id (decide (1 ≤ id.size ∧ id.size ≤ 64)) _ (name_is id)).mono ?_
  rintro e w' ⟨rfl, ⟨n2, rfl⟩⟩
  have HB3 : Aside0 (Below w.heap.size w (w.drewN n2)) := ⟨pw_below_drewN (Below.refl _ _) n2⟩
  by_cases hn : 1 ≤ id.size ∧ id.size ≤ 64
  · rw [decide_eq_true hn]
    by_cases hin : id.data.toList ∈ names M
    · have b3 : decide (id.data.toList ∈ names M) = true := decide_eq_true hin
      have hv : delV M id.data.toList = (del id.data.toList M, 0) := by unfold delV; rw [HID.out, if_pos hn, if_pos hin]
      obtain ⟨rfl, rfl⟩ := Prod.mk.inj (hv.symm.trans HDEL.out)
      obtain ⟨p, hp, hpe⟩ := List.mem_map.1 hin
      obtain ⟨tx, htx⟩ : ∃ tx : ByteArray, tx.data.toList = p.2 := ⟨⟨p.2.toArray⟩, by simp⟩
      have HP : Aside0 ((id.data.toList, tx.data.toList) ∈ M) := ⟨by rw [htx, ← hpe]; exact hp⟩
      have hts : tx.size ≤ 2048 := by rw [← ba_size, htx]; exact HS.out.tx p hp
      have HTS := Aside0.mk hts
      have hat : ∀ z, Dt.atKey (.string id.data.toList) z = fS tx.data.toList := HDT.out.at_ _ HP.out
      have HAT := Aside0.mk hat
      have HTB : Aside0 (totB M = totB (del id.data.toList M) + tx.size) := ⟨by rw [totB_del_hit id.data.toList tx.data.toList M HDT.out.rise HP.out, ba_size]⟩
      have HIN := Aside0.mk hin
      have HN := Aside0.mk hn
      rw [b3]
      clear hv b3 hin hn hp hpe htx hts hat
      go_wp2_with fail
      refine (take_calls g bt nt Dt (totB M : Int) (by omega) (by have := HTOT.out.1; omega) (.slice none 0 0) (.map (some bf)) id tx HSZ.out (by have := HTS.out; omega) _ (blk_below HG.out HB3.out) (map_keep HT.out (HB3.out.block _ HT.out.lt)) HAT.out).mono ?_
      rintro e w4 ⟨rfl, hg4, ht4, hk4⟩
      have hf4 : Fresh w4 bf nf Df := hk4.map (map_keep HF.out (HB3.out.block _ HF.out.lt)) HNE.out.1 (Ne.symm HLO.out.2.2.2.2.1)
      have HG4 := Aside0.mk hg4
      have HT4 := Aside0.mk ht4
      have HF4 := Aside0.mk hf4
      have HK4 : Aside0 (KeptO w w4 B U) := ⟨(KeptO.of_below HB3.out HLO.out.2.2.2.2.2.2.2).trans (.of2 hk4 HS.out.lo HS.out.hi HLO.out.1 HLO.out.2.1 (Nat.le_trans HLO.out.2.2.2.2.2.2.2 HB3.out.size))⟩
      clear hg4 ht4 hk4 hf4
      have hm : ∀ z, Df.atKey (.string id.data.toList) z = fB () := HDF.out.at_ (id.data.toList, ()) (List.mem_map_of_mem (f := fun p : Bs × Bs => (p.1, ())) HP.out)
      have hlk := fun n => look_tru (w := w4.drewN n) (map_keep HF4.out rfl) id HSZ.out hm
      have hlk0 := look_tru HF4.out id HSZ.out hm
      have c3 : w4.cell? ⟨g, 3, none⟩ = some (.map (some bf)) := (blk_cell HG4.out 3).trans rfl
      clear hm
      obtain ⟨w5, hrun, hm5, ht5⟩ := World.ownsMap.drop HF4.out K9 Tryz.underlying99 (WideMaps.keyOf_string_mk Tryz.underlying9 HSZ.out) 0
      have HG5 : Aside0 (w5.heap[g]? = some (.cells #[.map (some bt), .int .i64 (totB M - tx.size), .slice none 0 0, .map (some bf)] 102 (0, 0))) := ⟨(ht5.grown.block g (blk_lt HG4.out) (by simpa using Ne.symm HNE.out.1)).trans HG4.out⟩
      have HT5 : Aside0 (Texts w5 bt nt (Dt.del (.string id.data.toList))) := ⟨map_keep HT4.out (ht5.grown.block bt HT4.out.lt (by simpa using HLO.out.2.2.2.2.1))⟩
      have HF5 : Aside0 (Fresh w5 bf nf (Df.del (.string id.data.toList))) := ⟨hm5⟩
      have HK5 : Aside0 (KeptO w w5 B U) := ⟨HK4.out.trans (.of2 (g := g) (b := bf) (Kept2.grown ht5.grown) HS.out.lo HS.out.hi HLO.out.2.2.1 HLO.out.2.2.2.1 (Nat.le_trans HLO.out.2.2.2.2.2.2.2 HK4.out.size))⟩
      clear hm5 ht5
      go_wp2_with fail
      go_ret
      have hlo := HLO.out
      refine ⟨rfl, ⟨⟨bt, bf, nt, nf, _, _, HG5.out.trans ?_, hlo.1, hlo.2.1, hlo.2.2.1, hlo.2.2.2.1, hlo.2.2.2.2.1, HT5.out, HF5.out, HDT.out.del _, ?_, hlo.2.2.2.2.2.1, hlo.2.2.2.2.2.2.1⟩, HS.out.lo, HS.out.hi, ?_, ?_, ?_, ?_⟩, HK5.out⟩
      · have e : (totB M : Int) - (tx.size : Int) = (totB (del id.data.toList M) : Int) := by have := HTB.out; omega
        rw [e]
      · rw [marks_del]; exact HDF.out.del _
      · exact Nat.le_trans (del_len _ _) HTOT.out.2
      · exact Nat.le_trans (totB_del _ _) HTOT.out.1
      · exact fun q hq => HS.out.nm q ((mem_del _ _ q).1 hq).1
      · exact fun q hq => HS.out.tx q ((mem_del _ _ q).1 hq).1
    · have b3 : decide (id.data.toList ∈ names M) = false := decide_eq_false hin
      have hv : delV M id.data.toList = (M, 3) := by unfold delV; rw [HID.out, if_pos hn, if_neg hin]
      obtain ⟨rfl, rfl⟩ := Prod.mk.inj (hv.symm.trans HDEL.out)
      rw [b3]
      clear hv b3 hin hn
      go_wp2_with fail
      go_ret
      exact ⟨rfl, HS.out.below HB3.out, .of_below HB3.out HLO.out.2.2.2.2.2.2.2⟩
  · rw [decide_eq_false hn]
    have hv : delV M id.data.toList = (M, 1) := by unfold delV; rw [HID.out, if_neg hn]
    obtain ⟨rfl, rfl⟩ := Prod.mk.inj (hv.symm.trans HDEL.out)
    clear hv hn
    go_wp2_with fail
    go_ret
    exact ⟨rfl, HS.out.below HB3.out, .of_below HB3.out HLO.out.2.2.2.2.2.2.2⟩
end Go.Proofs.YtpeldaogdeefeaaGreat.M
/-! MShA -/
namespace Go.Proofs.YtpeldaogdeefeaaGreat.M
open Go.RowKit Go.Proofs.YtpeldaogdeefeaaGreatW.PrintWords Go.Proofs.YtpeldaogdeefeaaGreatW.PrintLast Go.Proofs.YtpeldaogdeefeaaGreatW.PrintMore
set_option linter.unusedVariables false
set_option linter.unusedSimpArgs false
/-- Five stores into a box, of what lies there. -/
theorem put5 {w : World} {b t : Nat} {c0 c1 c2 c3 c4 : Value} (h : w.heap[b]? = some (.cells #[c0, c1, c2, c3, c4] t (0, 0))) (v0 v1 v2 v3 v4 : Value) : (((((w.setCell ⟨b, 0, none⟩ v0).setCell ⟨b, 1, none⟩ v1).setCell ⟨b, 2, none⟩ v2).setCell ⟨b, 3, none⟩ v3).setCell ⟨b, 4, none⟩ v4).heap[b]? = some (.cells #[v0, v1, v2, v3, v4] t (0, 0)) :=
  blk_put (cs := #[v0, v1, v2, v3, c4]) (blk_put (cs := #[v0, v1, v2, c3, c4]) (blk_put (cs := #[v0, v1, c2, c3, c4]) (blk_put (cs := #[v0, c1, c2, c3, c4]) (blk_put (cs := #[c0, c1, c2, c3, c4]) h 0 v0 rfl) 1 v1 rfl) 2 v2 rfl) 3 v3 rfl) 4 v4 rfl
theorem results_ct {P : Program} {fn : Func} {p u : Tmp} {ty : TypeId} (h : fn.results = #[.cell p ty, .tmp u]) (tmps : Array Value) (w : World) (g : Nat) (t : TypeId) (cs : Array Value) (fr : Nat × Nat) (d : TypeDesc)
    (hp : tmps.getD p undef = .pointer (some ⟨g, 0, none⟩)) (hg : w.heap[g]? = some (.cells cs t fr))
    (hu : P.underlying ty = some d) (hd : (match d with | .struct _ | .array _ _ => true | _ => false) = true) (hi : (P.info? ty).map (·.size) = some cs.size) :
    (results fn tmps).run P w = .ok (.tuple #[.agg cs, tmps.getD u undef]) w := by
  have hp' : tmps[p]?.getD undef = .pointer (some ⟨g, 0, none⟩) := by simpa using hp
  simp [results, h, hp', asAddr, run_loadVar_row w g t ty cs fr d hg hu hd hi]
end Go.Proofs.YtpeldaogdeefeaaGreat.M
