/- The shelf: where a pattern stands: plain, hits, Search (no segment). -/
import Derived.Test.YtpeldaogdeefeaaGreatMHSort
import Derived.Test.YtpeldaogdeefeaaGreatMHNew
namespace Go.Proofs.YtpeldaogdeefeaaGreat.M
open Go.Proofs.YtpeldaogdeefeaaGreat.H Go.RowKit Go.Maps Go.Sort Go.Shelf Go.Lib Go.Proofs.YtpeldaogdeefeaaGreatW.PrintWords Go.Proofs.YtpeldaogdeefeaaGreatW.PrintLast Go.Proofs.YtpeldaogdeefeaaGreatW.PrintMore Go.Proofs.YtpeldaogdeefeaaGreat.Base
set_option linter.unusedVariables false
set_option linter.unusedSimpArgs false
def hitsAt (id : ByteArray) (l : List Nat) : List S53 := List.map (fun (j : Nat) => (⟨id, (j : Int)⟩ : S53)) l
def hitsD (id tx p : ByteArray) : List S53 := hitsAt id (occF tx.data.toList p.data.toList (tx.size + 1) 0)
theorem occF_len (t p : Bs) : ∀ n k, (occF t p n k).length ≤ n
  | 0, _ => Nat.le_refl _
  | n + 1, k => by
    have := occF_len t p n (k + 1)
    rw [occF_one]
    split
    · simp only [List.length_cons]; omega
    · omega
theorem index_calls (s sub : ByteArray) (m : Int) (w : World) (hs : s.size < 4294967281) (hm : w.cell? ⟨0, 0, none⟩ = some (.int .i64 m)) :
    Calls Tryz.prog 148 #[.string s, .string sub] w fun e w' => e = .returned (.int .i64 (Lib.index s.data.toList sub.data.toList)) ∧ w' = w := Any.strings_Index Tryz.lays148 s sub m w hs hm
set_option maxRecDepth 100000 in
set_option maxHeartbeats 3200000 in
theorem plain_calls (id tx p : ByteArray) (hp : 0 < p.size) (htx : tx.size ≤ 2048) (m : Int) (w : World) (hm : w.cell? ⟨0, 0, none⟩ = some (.int .i64 m)) :
    Calls Tryz.prog 109 #[.agg #[.string id, .string tx], .string p] w fun e w' => ∃ v, e = .returned v ∧ Kd.R k53 53 w' w.heap.size (fun _ => True) v (hitsD id tx p) ∧ Below w.heap.size w w' := by
  have HM := Aside0.mk hm
  have HP : Aside0 (0 < p.size ∧ tx.size ≤ 2048) := ⟨⟨hp, htx⟩⟩
  have HTL : Aside0 (tx.data.toList.length = tx.size ∧ p.data.toList.length = p.size) := ⟨⟨ba_size tx, ba_size p⟩⟩
  have hu36 := Tryz.underlying36
  clear hm hp htx
  go_enter Tryz.func109, Tryz.ntmps109
  go_wp2_with fail
  have hq := heap_alloc_new w (.cells #[.string id, .string tx] 36)
  have hB2 : Below w.heap.size w (w.alloc (.cells #[.string id, .string tx] 36)) := below_alloc (Below.refl _ _) _
  obtain ⟨q, hqe⟩ : ∃ b, b = w.heap.size := ⟨_, rfl⟩
  obtain ⟨w2, hw2⟩ : ∃ z, z = w.alloc (.cells #[.string id, .string tx] 36) := ⟨_, rfl⟩
  rw [← hqe, ← hw2] at hq ⊢
  rw [← hw2] at hB2
  have HQ := Aside0.mk hq
  have HB2 := Aside0.mk hB2
  clear hq hB2 hqe hw2
  go_loopg [4, 5] (tx.size + 1) (fun kq v4 v5 w' => ∃ (k : Nat) (don : List Nat), v5 = .int .i64 k ∧ Aside0 (k ≤ tx.size ∧ k + kq = tx.size + 1) ∧ Aside0 (occF tx.data.toList p.data.toList (tx.size + 1) 0 = don ++ occF tx.data.toList p.data.toList (tx.size + 1 - k) k) ∧ Aside0 (Kd.R k53 53 w' w2.heap.size (fun _ => True) v4 (hitsAt id don)) ∧ Aside0 (Below w2.heap.size w2 w'))
  case atStart => exact ⟨0, [], rfl, ⟨by omega⟩, ⟨rfl⟩, ⟨Kd.R_nil _ _ _ _ _⟩, ⟨Below.refl _ _⟩⟩
  case round =>
    obtain ⟨k, don, rfl, HK, HOC, HR, HB⟩ := hrel
    have x0 : wr.cell? ⟨q, 0, none⟩ = some (.string id) := (blk_cell (blk_below HQ.out HB.out) 0).trans rfl
    have x1 : wr.cell? ⟨q, 1, none⟩ = some (.string tx) := (blk_cell (blk_below HQ.out HB.out) 1).trans rfl
    have q0 : ((k : Int) ≤ (tx.size : Int)) = True := eq_true (by have := HK.out; omega)
    have q1 : (k ≤ tx.size) = True := eq_true (by have := HK.out; omega)
    go_wp2_with fail
    have HLT : Aside0 ((tx.extract k tx.size).size < 4294967281) := ⟨by have := HP.out; simp; omega⟩
    have hdr : (tx.extract k tx.size).data.toList = tx.data.toList.drop k := by
      rw [ByteArray.data_extract, Array.toList_extract]
      simp only [List.extract]
      rw [List.take_of_length_le (by rw [List.length_drop, HTL.out.1]; omega)]
    refine (index_calls (tx.extract k tx.size) p m wr HLT.out ((HB.out.cell (World.block_lt_of_cell? w2 _ ((HB2.out.cell (World.block_lt_of_cell? w _ HM.out)).trans HM.out))).trans ((HB2.out.cell (World.block_lt_of_cell? w _ HM.out)).trans HM.out))).mono ?_
    rintro e w' ⟨rfl, rfl⟩
    rw [hdr]
    have hk := HK.out
    rcases Lib.index_spec (tx.data.toList.drop k) p.data.toList with ⟨h1, h2⟩ | ⟨i, h1, h2, h3, h4⟩
    · rw [h1]
      have HN : Aside0 (occF tx.data.toList p.data.toList (tx.size + 1) 0 = don) := ⟨by
        rw [HOC.out, occF_none, List.append_nil]
        intro j hj1 hj2
        have := h2 (j - k) (by rw [List.length_drop, HTL.out.1]; omega)
        rw [occAt_drop] at this
        rwa [show k + (j - k) = j by omega] at this⟩
      clear h1 h2 hdr hk
      go_wp2_with fail
      go_ret
      exact ⟨_, rfl, by unfold hitsD; rw [HN.out]; exact Kd.R_lower HR.out HB2.out.size, below_step HB2.out HB.out⟩
    · rw [h1]
      have hocc : occAt tx.data.toList p.data.toList (k + i) = true := by rw [← occAt_drop]; exact h3
      have hroom : k + i + p.size ≤ tx.size := by
        rcases Nat.lt_or_ge tx.size (k + i + p.size) with h | h
        · have := occAt_far (t := tx.data.toList) (p := p.data.toList) (j := k + i) (fun e => by have h5 := HTL.out.2; rw [e] at h5; have := HP.out.1; simp at h5; omega) (by rw [HTL.out.1, HTL.out.2]; exact h)
          rw [this] at hocc; exact absurd hocc (by decide)
        · exact h
      have HRM : Aside0 (k + i + p.size ≤ tx.size ∧ 0 < p.size) := ⟨⟨hroom, HP.out.1⟩⟩
      have HN : Aside0 (occF tx.data.toList p.data.toList (tx.size + 1) 0 = (don ++ [k + i]) ++ occF tx.data.toList p.data.toList (tx.size + 1 - (k + i + 1)) (k + i + 1)) := ⟨by
        have hp0 := HP.out.1
        rw [HOC.out, show tx.size + 1 - k = (tx.size + 1 - (k + i + 1)) + 1 + i by omega, occF_hit _ _ i _ k (fun j hj1 hj2 => by
          have := h4 (j - k) (by omega)
          rw [occAt_drop] at this
          rwa [show k + (j - k) = j by omega] at this) hocc, List.append_assoc]
        rfl⟩
      have w1 : wrap64 ((k : Int) + (i : Int)) = ((k + i : Nat) : Int) := by rw [wrb _ (by omega) (by have := HP.out; omega)]; omega
      have w2_ : wrap64 (((k + i : Nat) : Int) + 1) = ((k + i + 1 : Nat) : Int) := wrn _ (by have := HP.out; omega)
      have hneg : decide ((i : Int) < 0) = false := decide_eq_false (by omega)
      clear h1 h2 h3 h4 hdr hocc hroom hk
      obtain ⟨ki, hki⟩ : ∃ z, z = k + i := ⟨_, rfl⟩
      rw [← hki] at w1 w2_
      have HKI := Aside0.mk hki
      clear hki
      go_wp2_with (first | ((with_reducible refine gate_builtin (b := .append) (xs := #[.tmp 21, .tmp 26]) rfl ?_); at_builtin; refine Kd.R_append k53 (w0 := w2) w2.heap.size rfl (.tmp 21) (.tmp 26) 43 53 (.agg #[(.string ⟨#[]⟩), (.int .i64 0)]) 24 rfl Tryz.underlying43 info53 rfl (by decide) (by omega) _ (hitsAt id don) (⟨id, (ki : Int)⟩ : S53) [.string id, .int .i64 (ki : Int)] (fun _ => True) (fun _ => False) rfl rfl (k53_mkM _ _ _ (⟨id, (ki : Int)⟩ : S53)) (fun _ hk => hk.elim) (fun _ _ => trivial) HR.out HB.out HB.out.size (by have h5 := congrArg List.length HOC.out; have h6 := occF_len tx.data.toList p.data.toList (tx.size + 1) 0; have := HP.out; rw [List.length_append] at h5; unfold hitsAt; rw [List.length_map]; omega) ?_; intro v9 w9 hr hb hg hat; have HR9 := Aside0.mk hr; have HB9 := Aside0.mk hb; clear hr hb hg hat))
      go_roundg (tx.size - ki)
      case measure => have := HK.out; have := HRM.out; have := HKI.out; omega
      case rel => exact ⟨ki + 1, don ++ [ki], by rw [w2_], ⟨by have := HK.out; have := HRM.out; have := HKI.out; omega⟩, ⟨by rw [HKI.out]; exact HN.out⟩, ⟨by unfold hitsAt at HR9 ⊢; rw [List.map_append]; exact HR9.out⟩, HB9⟩
/-! ### all hits -/
def hitsM (M : List (Bs × Bs)) (p : ByteArray) : List S53 := (docs M).flatMap (fun x => hitsD x.f0 x.f1 p)
theorem occF_rise (t p : Bs) : ∀ n k, (occF t p n k).Pairwise (· < ·) ∧ ∀ x ∈ occF t p n k, k ≤ x
  | 0, _ => ⟨List.Pairwise.nil, fun x hx => absurd hx List.not_mem_nil⟩
  | n + 1, k => by
    obtain ⟨h1, h2⟩ := occF_rise t p n (k + 1)
    rw [occF_one]
    split
    · exact ⟨List.pairwise_cons.2 ⟨fun x hx => h2 x hx, h1⟩, fun x hx => by
        rcases List.mem_cons.1 hx with rfl | hx
        · exact Nat.le_refl _
        · have := h2 x hx; omega⟩
    · exact ⟨h1, fun x hx => by have := h2 x hx; omega⟩
theorem hitsD_id {id tx p : ByteArray} {x : S53} (h : x ∈ hitsD id tx p) : x.f0 = id := by
  unfold hitsD hitsAt at h
  obtain ⟨j, _, rfl⟩ := List.mem_map.1 h
  rfl
theorem hitsM_sorted (p : ByteArray) : ∀ M : List (Bs × Bs), Rise (names M) → (hitsM M p).Pairwise (fun a b => ltk a b = true)
  | [], _ => List.Pairwise.nil
  | q :: t, h => by
    have h' := List.pairwise_cons.1 h
    show (hitsD (doc q).f0 (doc q).f1 p ++ hitsM t p).Pairwise _
    refine List.pairwise_append.2 ⟨?_, hitsM_sorted p t h'.2, fun a ha b hb => ?_⟩
    · unfold hitsD hitsAt
      refine List.pairwise_map.2 ((occF_rise _ _ _ _).1.imp fun {a b} hab => ?_)
      exact decide_eq_true (.inr ⟨rfl, by show (a : Int) < (b : Int); omega⟩)
    · obtain ⟨x, hx, hb'⟩ := List.mem_flatMap.1 hb
      obtain ⟨r, hr, rfl⟩ := List.mem_map.1 hx
      refine decide_eq_true (.inl ?_)
      rw [hitsD_id ha, hitsD_id hb']
      have := h'.1 r.1 (List.mem_map_of_mem hr)
      simpa [doc] using this
theorem sort_same {ys xs : List S53} (hp : ys.Perm xs) (hs : ys.Pairwise (fun a b => ltk b a = false)) (hx : xs.Pairwise (fun a b => ltk a b = true)) : ys = xs := by
  refine List.Perm.eq_of_pairwise (le := fun a b => ltk b a = false) (fun a b ha hb h1 h2 => ?_) hs (hx.imp fun {a b} h => ?_) hp
  · by_cases e : a = b
    · exact e
    · have hne : xs.Pairwise (fun a b => ltk a b = true ∨ ltk b a = true) := hx.imp fun {a b} h => .inl h
      rcases ltk_tri a b with h3 | h3 | h3
      · rw [h3] at h2; exact absurd h2 (by decide)
      · obtain ⟨a1, a2⟩ := a
        obtain ⟨b1, b2⟩ := b
        have e1 : a1 = b1 := ba_ext h3.1
        have e2 : a2 = b2 := h3.2
        rw [e1, e2]
      · rw [h3] at h1; exact absurd h1 (by decide)
  · rw [Bool.eq_false_iff]
    intro h2
    have := ltk_trans h h2
    rw [ltk_irrefl] at this
    exact absurd this (by decide)
theorem hitsD_len (id tx p : ByteArray) (h : tx.size ≤ 2048) : (hitsD id tx p).length ≤ 2049 := by
  unfold hitsD hitsAt
  rw [List.length_map]
  have := occF_len tx.data.toList p.data.toList (tx.size + 1) 0
  omega
theorem hitsM_len (p : ByteArray) : ∀ M : List (Bs × Bs), (∀ q ∈ M, q.2.length ≤ 2048) → (hitsM M p).length ≤ M.length * 2049
  | [], _ => Nat.zero_le _
  | q :: t, h => by
    have h1 := hitsM_len p t (fun r hr => h r (List.mem_cons_of_mem _ hr))
    have h2 := hitsD_len (doc q).f0 (doc q).f1 p (by have := h q List.mem_cons_self; show (⟨q.2.toArray⟩ : ByteArray).size ≤ 2048; rw [← ba_size]; simpa using this)
    show (hitsD (doc q).f0 (doc q).f1 p ++ hitsM t p).length ≤ _
    rw [List.length_append, List.length_cons, Nat.succ_mul]
    omega
theorem hitsM_take (M : List (Bs × Bs)) (p : ByteArray) (i : Nat) (h : i < M.length) : hitsM (M.take (i + 1)) p = hitsM (M.take i) p ++ hitsD (doc M[i]).f0 (doc M[i]).f1 p := by
  unfold hitsM
  rw [docs_take M i h, List.flatMap_append]
  simp
set_option maxRecDepth 100000 in
set_option maxHeartbeats 6400000 in
theorem hits_calls {w : World} {B U g cnt : Nat} {M : List (Bs × Bs)} (h : Shf w B U g cnt M) (p : ByteArray) (hp : 0 < p.size) (m : Int) (hm : w.cell? ⟨0, 0, none⟩ = some (.int .i64 m)) :
    Calls Tryz.prog 69 #[.pointer (some ⟨g, 0, none⟩), .string p] w fun e w' => ∃ v, e = .returned v ∧ Kd.R k53 53 w' w.heap.size (fun _ => True) v (hitsM M p) ∧ Below w.heap.size w w' := by
  have HS := Aside0.mk h
  have HM := Aside0.mk hm
  have HP : Aside0 (0 < p.size) := ⟨hp⟩
  have hu102 := Tryz.underlying102
  have hu98 := Tryz.underlying98
  have hu36 := Tryz.underlying36
  obtain ⟨bt, bf, nt, nf, Dt, Df, h1, h2, h3, h4, h5, h6, h7, h8, h9, h10, h11, h12⟩ := h.ex
  have HRI : Aside0 (Rise (names M)) := ⟨h9.rise⟩
  have y2 : w.cell? ⟨g, 2, none⟩ = some (.slice none 0 0) := (blk_cell h1 2).trans rfl
  have HY3 : Aside0 (w.cell? ⟨g, 3, none⟩ = some (.map (some bf))) := ⟨(blk_cell h1 3).trans rfl⟩
  clear h hm hp h1 h2 h3 h4 h5 h6 h7 h8 h9 h10 h11 h12
  go_enter Tryz.func69, Tryz.ntmps69
  go_wp2_with fail
  go_loopg [4, 16] 0 (fun kq v4 v16 w' => v4 = .slice none 0 0 ∧ v16 = .int .i64 0 ∧ Aside0 (w' = w))
  case atStart => exact ⟨rfl, rfl, ⟨rfl⟩⟩
  case round =>
    obtain ⟨rfl, rfl, HW⟩ := hrel
    obtain rfl := HW.out
    have y3 := HY3.out
    clear HW y2
    go_wp2_with fail
    refine (some_calls HS.out HY3.out).mono ?_
    rintro e w1 ⟨v1, rfl, hr1, hb1⟩
    obtain ⟨A1, c1, rfl⟩ := Kd.R_slice hr1
    have HC1 : Aside0 (Kd.C k36 w1 A1 (docs M).length (docs M)) := ⟨(Kd.R_reads' hr1).2.2⟩
    have HB1 := Aside0.mk hb1
    have HM1 : Aside0 (w1.cell? ⟨0, 0, none⟩ = some (.int .i64 m)) := ⟨(hb1.cell (World.block_lt_of_cell? _ _ HM.out)).trans HM.out⟩
    obtain ⟨dl, hdl⟩ : ∃ d, d = docs M := ⟨_, rfl⟩
    rw [← hdl] at HC1 ⊢
    have HDL := Aside0.mk hdl
    have HDN : Aside0 (dl.length = M.length ∧ M.length ≤ 64) := ⟨by rw [hdl, docs_len]; exact ⟨rfl, HS.out.few⟩⟩
    clear hr1 hb1 hdl y3
    go_wp2_with fail
    go_loopg [4, 42] M.length (fun kq v4 v42 w' => ∃ i : Nat, Aside0 (i + kq = M.length) ∧ v42 = .int .i64 i ∧ Aside0 (Kd.R k53 53 w' w1.heap.size (fun _ => True) v4 (hitsM (M.take i) p)) ∧ Aside0 (Below w1.heap.size w1 w'))
    case atStart => exact ⟨0, ⟨by omega⟩, rfl, ⟨Kd.R_nil _ _ _ _ _⟩, ⟨Below.refl _ _⟩⟩
    case round =>
      obtain ⟨i, HIK, rfl, HR, HBW⟩ := hrel
      by_cases hlt : i < M.length
      · have hd1 : decide ((i : Int) < (dl.length : Int)) = true := decide_eq_true (by have := HDN.out; omega)
        have hd2 : decide (i < dl.length) = true := decide_eq_true (by have := HDN.out; omega)
        have HLT := Aside0.mk hlt
        have hil : i < dl.length := by have := HDN.out; omega
        obtain ⟨ad, eA, k0, k1⟩ := at_T36 HC1.out (i : Int) (by omega) (by omega)
        rw [Int.toNat_natCast, rd36 dl i hil] at k0 k1
        have hx : dl[i] = doc M[i] := by
          have h1 : (docs M)[i]'(by rw [docs_len]; exact hlt) = doc M[i] := by simp [docs]
          have h2 := HDL.out
          subst h2
          exact h1
        rw [hx] at k0 k1
        obtain ⟨id, hid⟩ : ∃ z, z = (doc M[i]).f0 := ⟨_, rfl⟩
        obtain ⟨tx, htx⟩ : ∃ z, z = (doc M[i]).f1 := ⟨_, rfl⟩
        rw [← hid] at k0
        rw [← htx] at k1
        have HNX : Aside0 (hitsM (M.take (i + 1)) p = hitsM (M.take i) p ++ hitsD id tx p) := ⟨by rw [hitsM_take M p i hlt, hid, htx]⟩
        have HTS : Aside0 (tx.size ≤ 2048) := ⟨by
          rw [htx]
          have := HS.out.tx M[i] (List.getElem_mem hlt)
          show (⟨M[i].2.toArray⟩ : ByteArray).size ≤ 2048
          rw [← ba_size]
          simpa using this⟩
        have HLM : Aside0 ((hitsM (M.take i) p).length ≤ 64 * 2049) := ⟨by
          have h1 := hitsM_len p (M.take i) (fun q hq => HS.out.tx q (List.mem_of_mem_take hq))
          have h2 : (M.take i).length ≤ 64 := by rw [List.length_take]; have := HDN.out; omega
          have h3 : (M.take i).length * 2049 ≤ 64 * 2049 := Nat.mul_le_mul_right _ h2
          omega⟩
        have e0 := (HBW.out.cell (World.block_lt_of_cell? w1 _ k0)).trans k0
        have e1 := (HBW.out.cell (World.block_lt_of_cell? w1 _ k1)).trans k1
        have q0 : ((i : Int) < (dl.length : Int)) = True := eq_true (by omega)
        have p0 : ((0 : Int) ≤ (i : Int)) = True := eq_true (by omega)
        have hw1 : wrap64 ((i : Int) + 1) = ((i + 1 : Nat) : Int) := wrn i (by have := HDN.out; omega)
        subst eA
        clear k0 k1 hx hid htx hlt hil
        go_wp2_with fail
        have hB3 : Below wr.heap.size wr (wr.alloc (.cells #[.string id, .string tx] 36)) := below_alloc (Below.refl _ _) _
        have HBW3 : Aside0 (Below w1.heap.size w1 (wr.alloc (.cells #[.string id, .string tx] 36))) := ⟨below_step HBW.out hB3⟩
        have HR3 := Aside0.mk (Kd.R_below HR.out hB3)
        clear hB3 e0 e1
        generalize wr.alloc (.cells #[.string id, .string tx] 36) = w3 at *
        refine (plain_calls id tx p HP.out HTS.out m w3 ((HBW3.out.cell (World.block_lt_of_cell? w1 _ HM1.out)).trans HM1.out)).mono ?_
        rintro e w4 ⟨v5, rfl, hr5, hb5⟩
        obtain ⟨A5, c5, rfl⟩ := Kd.R_slice hr5
        obtain ⟨hl, hhl⟩ : ∃ z, z = hitsD id tx p := ⟨_, rfl⟩
        rw [← hhl] at hr5 ⊢
        have HHL := Aside0.mk hhl
        have HHN : Aside0 (hl.length ≤ 2049) := ⟨by rw [hhl]; exact hitsD_len _ _ _ HTS.out⟩
        have HR5 : Aside0 (Kd.C k53 w4 A5 hl.length hl) := ⟨(Kd.R_reads' hr5).2.2⟩
        have HR4 := Aside0.mk (Kd.R_below HR3.out hb5)
        have HB4 : Aside0 (Below w1.heap.size w1 w4) := ⟨below_step HBW3.out hb5⟩
        clear hr5 hb5 hhl HR3 HBW3
        go_wp2_with (first | ((with_reducible refine gate_builtin (b := .append) (xs := #[.tmp 46, .tmp 49]) rfl ?_); (try (refine gate_guard (by rfl) ?_; dsimp only)); at_builtin; go_loud (refine Kd.R_append_rows k53 (w0 := w1) w1.heap.size rfl (.tmp 46) (.tmp 49) 43 53 (.agg #[(.string ⟨#[]⟩), (.int .i64 0)]) 24 rfl Tryz.underlying43 info53 rfl (by decide) (by omega) _ (hitsM (M.take i) p) hl _ _ _ (fun _ => True) (fun _ => False) rfl rfl HR4.out HR5.out (fun _ _ h => h) (fun _ h => h.elim) (fun _ _ => trivial) HB4.out HB4.out.size (by have := HLM.out; have := HHN.out; omega) ?_); intro v50 w50 ho hb hg hat; have HR50 := Aside0.mk ho; have HB50 := Aside0.mk hb; clear ho hb hg hat))
        go_roundg (gk - 1)
        case measure => have := HIK.out; have := HLT.out; omega
        case rel => exact ⟨i + 1, ⟨by have := HIK.out; have := HLT.out; omega⟩, by rw [hw1], ⟨by rw [HNX.out, ← HHL.out]; exact HR50.out⟩, HB50⟩
      · have hd1 : decide ((i : Int) < (dl.length : Int)) = false := decide_eq_false (by have := HDN.out; omega)
        have hd2 : decide (i < dl.length) = false := decide_eq_false (by have := HDN.out; omega)
        have hi : i = M.length := by have := HIK.out; omega
        subst hi
        clear hlt
        have hR := HR.out
        rw [List.take_length] at hR
        have HRA := Aside0.mk hR
        have HLM : Aside0 ((hitsM M p).length ≤ 1000000000) := ⟨by
          have h1 := hitsM_len p M (fun q hq => HS.out.tx q hq)
          have h2 : M.length ≤ 64 := HDN.out.2
          have h3 : M.length * 2049 ≤ 64 * 2049 := Nat.mul_le_mul_right _ h2
          omega⟩
        clear hR HR
        go_wp2_with fail
        refine (sortHits_calls HRA.out HLM.out).mono ?_
        rintro e w5 ⟨rfl, ys, hp1, hp2, hr6, hg6⟩
        have hys := sort_same hp1 hp2 (hitsM_sorted p M HRI.out)
        rw [hys] at hr6
        have HR6 := Aside0.mk hr6
        have HB6 : Aside0 (Below w1.heap.size w1 w5) := ⟨HBW.out.trans (pw_below_grown (Below.refl _ _) _ HBW.out.size hg6 (fun k hk => Kd.R_base HRA.out k hk))⟩
        clear hp1 hp2 hr6 hg6 hys
        go_wp2_with fail
        go_ret
        exact ⟨_, rfl, Kd.R_lower HR6.out HB1.out.size, below_step HB1.out HB6.out⟩
end Go.Proofs.YtpeldaogdeefeaaGreat.M
