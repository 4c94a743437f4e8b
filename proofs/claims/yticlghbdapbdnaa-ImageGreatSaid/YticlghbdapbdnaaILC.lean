/- Image in plain Lean: the bytes of a state. -/
import Derived.Test.YticlghbdapbdnaaILB
import Derived.Test.YticlghbdapbdnaaIx19
namespace Go.Proofs.Yticlghbdapbdnaa.I
open Go.RowKit Go.Proofs.YticlghbdapbdnaaW.PrintWords Go.Proofs.YticlghbdapbdnaaW.PrintLast Go.Proofs.YticlghbdapbdnaaW.PrintMore
set_option linter.unusedVariables false
set_option linter.unusedSimpArgs false
theorem or128_in (x : Int) : 0 ≤ Go.bits .or .u8 (x % 256) 128 ∧ Go.bits .or .u8 (x % 256) 128 < 256 := by
  have h0 : 0 ≤ x % 256 := by omega
  have h1 : x % 256 < 256 := by omega
  obtain ⟨a, ha⟩ := Int.eq_ofNat_of_zero_le h0
  rw [ha] at h1 ⊢
  have h2 : a < 2 ^ 8 := by omega
  have h3 := (bits_nat .u8 8 (by decide) wraps_u8 a 128 h2 (by decide)).2
  have h4 := Nat.or_lt_two_pow h2 (show 128 < 2 ^ 8 by decide)
  have h5 : Go.bits .or .u8 ((a : Nat) : Int) 128 = ((a ||| 128 : Nat) : Int) := h3
  rw [h5]
  omega
theorem InB.one {x : Int} (h : 0 ≤ x ∧ x < 256) : InB [x] := fun y hy => by rw [List.mem_singleton.1 hy]; exact h
theorem InB.nil : InB [] := fun y hy => (List.not_mem_nil hy).elim
theorem num_l0 : ∀ (d : Nat) (x : Int) (acc : List Int), 0 ≤ x → x < 128 ^ (d + 1) → acc.length + d ≤ 100 → InB acc → ∃ b : List Int, Ev (fun k => wire_Num.l0 k x acc) (b, 0) ∧ InB b ∧ b.length ≤ acc.length + d + 1
  | 0, x, acc, h0, h1, hl, hb => by
    have h2 : x < 128 := by simpa using h1
    refine ⟨acc ++ [x % 256], Ev.step ((Ev.pure _).of_eq fun k => ?_), hb.append (InB.one (by omega)), by rw [List.length_append, List.length_singleton]; omega⟩
    rw [wire_Num.l0, if_neg (by omega), if_pos (by omega)]
  | d + 1, x, acc, h0, h1, hl, hb => by
    by_cases h2 : x ≥ 128
    · have h3 : x / 128 < 128 ^ (d + 1) := by
        apply Int.ediv_lt_of_lt_mul (by decide)
        rw [← Int.pow_succ]
        exact h1
      obtain ⟨b, hv, hb2, hlen⟩ := num_l0 d (x / 128) (acc ++ [Go.bits .or .u8 (x % 256) 128]) (by omega) h3 (by rw [List.length_append, List.length_singleton]; omega) (hb.append (InB.one (or128_in x)))
      rw [List.length_append, List.length_singleton] at hlen
      exact ⟨b, Ev.step (hv.of_eq fun k => by rw [wire_Num.l0, if_pos h2, if_pos (by omega)]), hb2, by omega⟩
    · refine ⟨acc ++ [x % 256], Ev.step ((Ev.pure _).of_eq fun k => ?_), hb.append (InB.one (by omega)), by rw [List.length_append, List.length_singleton]; omega⟩
      rw [wire_Num.l0, if_neg h2, if_pos (by omega)]
theorem pow9 : (128 : Int) ^ (8 + 1) = 9223372036854775808 := by decide
theorem numa_ev (l : List Int) (x : Int) (hl : l.length ≤ 1000000000) (h0 : 0 ≤ x) (h1 : x < 9223372036854775808) : ∃ b : List Int, Ev (fun k => wire_num.f k l x) (l ++ b) ∧ InB b ∧ b.length ≤ 9 := by
  obtain ⟨b, hv, hb, hlen⟩ := num_l0 8 x [] h0 (by rw [pow9]; exact h1) (by simp) InB.nil
  have e0 : ([] : List Int).length = 0 := rfl
  have hv2 : Ev (fun k => wire_Num.f k x) (b, 0) := hv.of_eq fun k => by unfold wire_Num.f; rw [if_neg (by omega)]
  exact ⟨b, hv2.map (fun bt => if l.length + bt.1.length < 140737488355328 then some (l ++ bt.1) else none) (by rw [if_pos (by dsimp only; omega)]), hb, by omega⟩
theorem rd_get (l : List Int) (i : Nat) (h : i < l.length) : rd l (i : Int) = l[i] := by
  unfold Go.Proofs.YticlghbdapbdnaaW.PrintWords.rd
  rw [Int.toNat_natCast, List.getD_eq_getElem?_getD, List.getElem?_eq_getElem h]
  rfl
theorem numbers_l0 (l : List Int) (hl : l.length ≤ 1000) (h : ∀ x ∈ l, 0 ≤ x ∧ x < 9223372036854775808) : ∀ d i (acc : List ByteArray), i + d = l.length → acc.length ≤ i → (∀ s ∈ acc, s.size ≤ 2048) → ∃ L : List ByteArray, Ev (fun k => wire_Numbers.l0 k acc l (l.length : Int) (i : Int)) L ∧ L.length ≤ acc.length + d ∧ (∀ s ∈ L, s.size ≤ 2048) := by
  intro d
  induction d with
  | zero =>
    intro i acc hd ha hs
    exact ⟨acc, Ev.step ((Ev.pure _).of_eq fun k => by rw [wire_Numbers.l0, if_neg (by omega)]), by omega, hs⟩
  | succ d ih =>
    intro i acc hd ha hs
    have hm := h l[i] (List.getElem_mem (by omega))
    rw [← rd_get l i (by omega)] at hm
    obtain ⟨b, hv, hb, hlen⟩ := numa_ev [] (rd l (i : Int)) (by simp) hm.1 hm.2
    rw [List.nil_append] at hv
    obtain ⟨L, hL, h1, h2⟩ := ih (i + 1) (acc ++ [strOfNums b]) (by omega) (by rw [List.length_append, List.length_singleton]; omega) (fun s hs2 => (List.mem_append.1 hs2).elim (hs s) (fun hs2 => by rw [List.mem_singleton.1 hs2, str_size]; omega))
    rw [List.length_append, List.length_singleton] at h1
    refine ⟨L, Ev.step ?_, by omega, h2⟩
    have := Ev.bind (g := fun k t136 => (if acc.length < 8796093022208 then (wire_Numbers.l0 k (acc ++ [strOfNums t136]) l (l.length : Int) (wrap64 ((i : Int) + 1))) else (none))) hv (hL.of_eq fun k => by rw [if_pos (by omega), wrn i (by omega)])
    exact this.of_eq fun k => by rw [wire_Numbers.l0, if_pos (by omega), if_pos (by omega), if_pos (by omega)]
theorem numbers_ev (l : List Int) (hl : l.length ≤ 1000) (h : ∀ x ∈ l, 0 ≤ x ∧ x < 9223372036854775808) : ∃ L : List ByteArray, Ev (fun k => wire_Numbers.f k l) L ∧ L.length ≤ l.length ∧ (∀ s ∈ L, s.size ≤ 2048) := by
  obtain ⟨L, hv, h1, h2⟩ := numbers_l0 l hl h l.length 0 [] (by omega) (by simp) (fun s hs => (List.not_mem_nil hs).elim)
  have e0 : ([] : List ByteArray).length = 0 := rfl
  exact ⟨L, hv, by omega, h2⟩
theorem rdS_get (l : List ByteArray) (i : Nat) (h : i < l.length) : rdOf ByteArray.empty l (i : Int) = l[i] := by
  unfold rdOf
  rw [Int.toNat_natCast, List.getD_eq_getElem?_getD, List.getElem?_eq_getElem h]
  rfl
theorem put_l0 (T : List ByteArray) (hl : T.length ≤ 1000) (hs : ∀ s ∈ T, s.size ≤ 2048) : ∀ d i (b : List Int), i + d = T.length → b.length ≤ 1048576 → InB b → ∃ r : List Int × Int, Ev (fun k => wire_Put.l0 k b T (T.length : Int) (i : Int)) r ∧ InB r.1 ∧ r.1.length ≤ 1048576 := by
  intro d
  induction d with
  | zero =>
    intro i b hd hb hin
    exact ⟨(b, 0), Ev.step ((Ev.pure _).of_eq fun k => by rw [wire_Put.l0, if_neg (by omega), if_neg (by omega)]), hin, hb⟩
  | succ d ih =>
    intro i b hd hb hin
    have hm := hs T[i] (List.getElem_mem (by omega))
    rw [← rdS_get T i (by omega)] at hm
    obtain ⟨c, hv, hc, hlen⟩ := numa_ev b ((rdOf ByteArray.empty T (i : Int)).size : Int) (by omega) (by omega) (by omega)
    have hbl : (b ++ c).length = b.length + c.length := List.length_append
    have hw : wrap64 (1048576 - ((b ++ c).length : Int)) = 1048576 - ((b ++ c).length : Int) := wrb _ (by omega) (by omega)
    have key : ∀ r, Ev (fun k => (if ((rdOf ByteArray.empty T (i : Int)).size : Int) > (wrap64 (1048576 - ((b ++ c).length : Int))) then (some (([] : List Int), (2 : Int))) else (if (b ++ c).length + (rdOf ByteArray.empty T (i : Int)).size < 140737488355328 then (wire_Put.l0 k ((b ++ c) ++ bytesOf (rdOf ByteArray.empty T (i : Int))) T (T.length : Int) (wrap64 ((i : Int) + 1))) else (none)))) r → Ev (fun k => wire_Put.l0 k b T (T.length : Int) (i : Int)) r := fun r hr => by
      refine Ev.step ?_
      have := Ev.bind (g := fun k (t146 : List Int) => (if ((rdOf ByteArray.empty T (i : Int)).size : Int) > (wrap64 (1048576 - (t146.length : Int))) then (some (([] : List Int), (2 : Int))) else (if t146.length + (rdOf ByteArray.empty T (i : Int)).size < 140737488355328 then (wire_Put.l0 k (t146 ++ bytesOf (rdOf ByteArray.empty T (i : Int))) T (T.length : Int) (wrap64 ((i : Int) + 1))) else (none)))) hv hr
      exact this.of_eq fun k => by rw [wire_Put.l0, if_pos (by omega), if_pos (by omega), if_pos (by omega)]
    by_cases hbig : ((rdOf ByteArray.empty T (i : Int)).size : Int) > 1048576 - ((b ++ c).length : Int)
    · exact ⟨([], 2), key _ ((Ev.pure _).of_eq fun k => by rw [hw, if_pos hbig]), InB.nil, by simp⟩
    · have h3 : ((b ++ c) ++ bytesOf (rdOf ByteArray.empty T (i : Int))).length = (b ++ c).length + (rdOf ByteArray.empty T (i : Int)).size := by rw [List.length_append, bytesOf_length]
      obtain ⟨r, hr, h1, h2⟩ := ih (i + 1) ((b ++ c) ++ bytesOf (rdOf ByteArray.empty T (i : Int))) (by omega) (by omega) ((hin.append hc).append (InB.bytes _))
      exact ⟨r, key r (hr.of_eq fun k => by rw [hw, if_neg hbig, if_pos (by omega), wrn i (by omega)]), h1, h2⟩
theorem put_ev (T : List ByteArray) (hl : T.length ≤ 1000) (hs : ∀ s ∈ T, s.size ≤ 2048) : ∃ r : List Int × Int, Ev (fun k => wire_Put.f k T) r ∧ InB r.1 ∧ r.1.length ≤ 1048576 := by
  obtain ⟨c, hv, hc, hlen⟩ := numa_ev [] (T.length : Int) (by simp) (by omega) (by omega)
  rw [List.nil_append] at hv
  obtain ⟨r, hr, h1, h2⟩ := put_l0 T hl hs T.length 0 c (by omega) (by omega) hc
  exact ⟨r, Ev.bind (g := fun k t142 => wire_Put.l0 k t142 T (T.length : Int) 0) hv hr, h1, h2⟩
theorem sealed_is (b : List Int) (x : Int) (hl : b.length ≤ 1048576) : wire_Sealed.f b x = some (b ++ [(x / 16777216) % 256, (x / 65536) % 256, (x / 256) % 256, x % 256]) := by
  unfold wire_Sealed.f
  rw [Option.bind_some, if_pos (by simp only [List.length_cons, List.length_nil]; omega)]
theorem tail_ev (T : List ByteArray) (hl : T.length ≤ 1000) (hs : ∀ s ∈ T, s.size ≤ 2048) : ∃ r : List Int × Int, Ev (fun k => (wire_Put.f k T).bind fun bt186 => (if bt186.2 = 0 then ((sum_Sum.f 0 bt186.1).bind fun t190 => ((wire_Sealed.f bt186.1 t190).bind fun t191 => (some (t191, (0 : Int))))) else (some (([] : List Int), bt186.2)))) r ∧ InB r.1 := by
  obtain ⟨⟨b, e⟩, hv, hb, hbl⟩ := put_ev T hl hs
  dsimp only at hb hbl
  by_cases he : e = 0
  · refine ⟨(b ++ [(sumV b / 16777216) % 256, (sumV b / 65536) % 256, (sumV b / 256) % 256, sumV b % 256], 0), hv.map _ ?_, ?_⟩
    · dsimp only
      rw [if_pos he]
      unfold sum_Sum.f
      rw [if_pos ⟨rfl, by omega⟩, Option.bind_some, sealed_is b _ hbl, Option.bind_some]
    · refine hb.append fun y hy => ?_
      simp only [List.mem_cons, List.not_mem_nil, or_false] at hy
      rcases hy with rfl | rfl | rfl | rfl <;> omega
  · exact ⟨([], e), hv.map _ (by dsimp only; rw [if_neg he]), InB.nil⟩
theorem sess_five {l : List S47} (h : mayP l) (i : Nat) (hi : i < l.length) : ∀ x ∈ [(rd_T47 l (i : Int)).f0, (rd_T47 l (i : Int)).f1, (rd_T47 l (i : Int)).f2.f0, (rd_T47 l (i : Int)).f2.f1, (rd_T47 l (i : Int)).f3], 0 ≤ x ∧ x < 9223372036854775808 := by
  have h1 := h.1 i (Nat.zero_le _) hi
  simp only [stepB, replyB, numB, Bool.and_eq_true, decide_eq_true_eq] at h1
  intro x hx
  simp only [List.mem_cons, List.not_mem_nil, or_false] at hx
  rcases hx with rfl | rfl | rfl | rfl | rfl <;> omega
theorem bytes_l1 (sess : List S47) (h : mayP sess) : ∀ d i (T : List ByteArray), i + d = sess.length → T.length ≤ 500 + 5 * i → (∀ s ∈ T, s.size ≤ 2048) → ∃ r : List Int × Int, Ev (fun k => image_Bytes.l1 k T sess (sess.length : Int) (i : Int)) r ∧ InB r.1 := by
  have h8 := h.2
  intro d
  induction d with
  | zero =>
    intro i T hd hT hs
    obtain ⟨r, hr, h1⟩ := tail_ev T (by omega) hs
    exact ⟨r, Ev.step (hr.of_eq fun k => by rw [image_Bytes.l1, if_neg (by omega)]), h1⟩
  | succ d ih =>
    intro i T hd hT hs
    obtain ⟨L, hL, hl1, hl2⟩ := numbers_ev _ (by simp) (sess_five h i (by omega))
    have hl3 : L.length ≤ 5 := hl1
    obtain ⟨r, hr, h1⟩ := ih (i + 1) (T ++ L) (by omega) (by rw [List.length_append]; omega) (fun s hs2 => (List.mem_append.1 hs2).elim (hs s) (hl2 s))
    refine ⟨r, Ev.step ?_, h1⟩
    have := Ev.bind (g := fun k (t180 : List ByteArray) => (if T.length + t180.length < 8796093022208 then (image_Bytes.l1 k (T ++ t180) sess (sess.length : Int) (wrap64 ((i : Int) + 1))) else (none))) hL (hr.of_eq fun k => by rw [if_pos (by omega), wrn i (by omega)])
    exact this.of_eq fun k => by rw [image_Bytes.l1, if_pos (by omega), if_pos (by omega), if_pos (by omega)]
theorem bytes_l0 (idx : Int) (docs : List S42) (sess : List S47) (hd0 : docsP docs) (h : mayP sess) : ∀ d i (T : List ByteArray), i + d = docs.length → T.length ≤ 100 + 2 * i → (∀ s ∈ T, s.size ≤ 2048) → ∃ r : List Int × Int, Ev (fun k => image_Bytes.l0 k T docs (docs.length : Int) (i : Int) idx docs sess) r ∧ InB r.1 := by
  have h64 := hd0.2
  intro d
  induction d with
  | zero =>
    intro i T hd hT hs
    obtain ⟨r, hr, h1⟩ := bytes_l1 sess h sess.length 0 T (by omega) (by omega) hs
    exact ⟨r, Ev.step (hr.of_eq fun k => by rw [image_Bytes.l0, if_neg (by omega)]; rfl), h1⟩
  | succ d ih =>
    intro i T hd hT hs
    obtain ⟨hst, ht⟩ := hd0.1.1 i (Nat.zero_le _) (by omega)
    have hn : (rd_T42 docs (i : Int)).f0.size ≤ 2048 := by
      simp only [dstep, Bool.and_eq_true, decide_eq_true_eq] at hst
      omega
    obtain ⟨r, hr, h1⟩ := ih (i + 1) (T ++ [(rd_T42 docs (i : Int)).f0, (rd_T42 docs (i : Int)).f1]) (by omega) (by rw [List.length_append]; simp only [List.length_cons, List.length_nil]; omega) (fun s hs2 => (List.mem_append.1 hs2).elim (hs s) (fun hs2 => by
      simp only [List.mem_cons, List.not_mem_nil, or_false] at hs2
      rcases hs2 with rfl | rfl <;> omega))
    exact ⟨r, Ev.step (hr.of_eq fun k => by rw [image_Bytes.l0, if_pos (by omega), if_pos (by omega), if_pos (by omega), Option.bind_some, if_pos (by simp only [List.length_cons, List.length_nil]; omega), wrn i (by omega)]), h1⟩
theorem bytes_str {l : List Int} (h : InB l) : bytesOf (strOfNums l) = l := by
  unfold bytesOf strOfNums
  rw [List.map_map]
  conv => rhs; rw [← List.map_id l]
  refine List.map_congr_left fun x hx => ?_
  have h1 := h x hx
  show (((UInt8.ofNat x.toNat).toNat : Nat) : Int) = x
  rw [UInt8.toNat_ofNat']
  omega
end Go.Proofs.Yticlghbdapbdnaa.I
