/- Image in plain Lean: texts, states are read as they were written. -/
import Derived.Test.YticlghbdapbdnaaIGA
namespace Go.Proofs.Yticlghbdapbdnaa.I
open Go.RowKit Go.Proofs.YticlghbdapbdnaaW.PrintWords Go.Proofs.YticlghbdapbdnaaW.PrintLast Go.Proofs.YticlghbdapbdnaaW.PrintMore
set_option linter.unusedVariables false
set_option linter.unusedSimpArgs false
inductive TexB : List ByteArray → List Int → Prop
  | nil : TexB [] []
  | cons {s : ByteArray} {T : List ByteArray} {c P : List Int} : NumB (s.size : Int) c → TexB T P → TexB (s :: T) (c ++ (bytesOf s ++ P))
theorem texB_ex : ∀ T : List ByteArray, (∀ s ∈ T, s.size ≤ 2048) → ∃ P, TexB T P
  | [], _ => ⟨[], .nil⟩
  | s :: T, h => by
    obtain ⟨P, hP⟩ := texB_ex T (fun x hx => h x (List.mem_cons_of_mem _ hx))
    have hs := h s (List.mem_cons_self ..)
    obtain ⟨c, hc⟩ := numB_ex (s.size : Int) (by omega) (by omega)
    exact ⟨_, .cons hc hP⟩
theorem texB_facts {T : List ByteArray} {P : List Int} (h : TexB T P) : (∀ s ∈ T, s.size ≤ 2048) → InB P ∧ T.length ≤ P.length ∧ P.length ≤ T.length * 2057 := by
  induction h with
  | nil => exact fun _ => ⟨InB.nil, Nat.le_refl _, Nat.le_refl _⟩
  | @cons s T c P hc hP ih =>
    intro h
    obtain ⟨h1, h2, h3⟩ := ih (fun x hx => h x (List.mem_cons_of_mem _ hx))
    have hs := h s (List.mem_cons_self ..)
    have hl := hc.len
    refine ⟨hc.inb.append ((InB.bytes s).append h1), ?_, ?_⟩
    · simp only [List.length_append, List.length_cons]; omega
    · simp only [List.length_append, List.length_cons, bytesOf_length]; omega
theorem rdnum_rt {x : Int} {c : List Int} (hc : NumB x c) (h0 : 0 ≤ x) (rest : List Int) (hx : x ≤ rest.length) (hl : (c ++ rest).length ≤ 1000000000) : Ev (fun k => rdNum k (c ++ rest) false) (x, rest, false) := by
  have hlen := hc.len
  have hle : (c ++ rest).length = c.length + rest.length := List.length_append
  refine (hc.rd_ rest hl).map _ ?_
  dsimp only
  rw [if_neg (by decide), if_neg (by decide), if_neg (by omega), if_pos ⟨h0, by omega, by omega⟩, Int.toNat_natCast, List.drop_left]
theorem str_bytesI (x : ByteArray) : strOfNums (bytesOf x) = x := by
  obtain ⟨⟨l⟩⟩ := x
  simp only [strOfNums, bytesOf, List.map_map]
  have : ((fun n : Int => UInt8.ofNat n.toNat) ∘ fun b : UInt8 => ((b.toNat : Nat) : Int)) = id := by funext b; simp
  rw [this, List.map_id]
theorem rdtext_rt {s : ByteArray} {c : List Int} (hc : NumB (s.size : Int) c) (P : List Int) (hl : (c ++ (bytesOf s ++ P)).length ≤ 1000000000) : Ev (fun k => rdText k (c ++ (bytesOf s ++ P)) false) (s, P, false) := by
  have hb := bytesOf_length s
  have hle : (bytesOf s ++ P).length = s.size + P.length := by rw [List.length_append, hb]
  refine (rdnum_rt hc (by omega) (bytesOf s ++ P) (by omega) hl).map _ ?_
  dsimp only
  rw [if_pos ⟨by omega, by omega⟩, Int.toNat_natCast, ← hb, List.take_left, List.drop_left, str_bytesI]
theorem getL_rt {T : List ByteArray} {P : List Int} (h : TexB T P) : ∀ acc : List ByteArray, acc.length + T.length ≤ 1000000 → P.length ≤ 100000000 → Ev2 (fun k f => getL k f (T.length : Int) P false acc) (acc ++ T, [], false) := by
  induction h with
  | nil =>
    intro acc ha hl
    refine ⟨0, 1, fun k f _ hf => ?_⟩
    obtain ⟨f, rfl⟩ : ∃ g, f = g + 1 := ⟨f - 1, by omega⟩
    show getL _ _ _ _ _ _ = _
    rw [getL, if_neg (by decide), List.append_nil]
  | @cons s T c P hc hP ih =>
    intro acc ha hl
    have hl2 : (c ++ (bytesOf s ++ P)).length = c.length + (s.size + P.length) := by rw [List.length_append, List.length_append, bytesOf_length]
    rw [List.length_cons] at ha
    obtain ⟨K, F, hK⟩ := ih (acc ++ [s]) (by rw [List.length_append, List.length_singleton]; omega) (by omega)
    obtain ⟨K1, hK1_⟩ := rdtext_rt hc P (by omega)
    have hK1 : ∀ k, K1 ≤ k → rdText k (c ++ (bytesOf s ++ P)) false = some (s, P, false) := hK1_
    refine ⟨K + K1, F + 1, fun k f hk hf => ?_⟩
    obtain ⟨f, rfl⟩ : ∃ g, f = g + 1 := ⟨f - 1, by omega⟩
    have hw : wrap64 (((s :: T).length : Int) - 1) = (T.length : Int) := by rw [List.length_cons, wrb _ (by omega) (by omega)]; omega
    show getL _ _ _ _ _ _ = _
    rw [getL, if_pos (by rw [List.length_cons]; omega), if_neg (by decide), hK1 k (by omega), Option.bind_some, if_pos (by omega), hw]
    have h := hK k f (by omega) (by omega)
    rw [List.append_assoc] at h
    exact h
theorem get_rt {T : List ByteArray} {h P : List Int} (hh : NumB (T.length : Int) h) (hP : TexB T P) (hs : ∀ s ∈ T, s.size ≤ 2048) (hT : T.length ≤ 250) : Ev (fun k => wire_Get.f k (h ++ P)) (T, 0) := by
  obtain ⟨h1, h2, h3⟩ := texB_facts hP hs
  have hl := hh.len
  have hle : (h ++ P).length = h.length + P.length := List.length_append
  have hd : decide (1048576 < ((h ++ P).length : Int)) = false := decide_eq_false (by omega)
  have a1 := rdnum_rt hh (by omega) P (by omega) (by omega)
  have a2 := (getL_rt hP [] (by simp; omega) (by omega)).ev
  rw [List.nil_append] at a2
  have := Ev.bind (g := fun k (t : Int × List Int × Bool) => (getL k k t.1 t.2.1 t.2.2 []).bind fun u => some (if u.2.2 = true then (([] : List ByteArray), (1 : Int)) else if 0 < u.2.1.length then ([], 1) else (u.1, 0))) a1 (Ev.map a2 _ rfl)
  exact this.of_eq fun k => by unfold wire_Get.f; rw [if_pos (by omega), hd]
theorem put_l0_rt (T : List ByteArray) (hl : T.length ≤ 250) (hs : ∀ s ∈ T, s.size ≤ 2048) : ∀ (d i : Nat) (b P : List Int), i + d = T.length → TexB (T.drop i) P → b.length + P.length ≤ 1048576 → Ev (fun k => wire_Put.l0 k b T (T.length : Int) (i : Int)) (b ++ P, 0) := by
  intro d
  induction d with
  | zero =>
    intro i b P hd hP hb
    rw [List.drop_eq_nil_of_le (by omega)] at hP
    cases hP
    rw [List.append_nil]
    rw [List.length_nil] at hb
    exact Ev.step ((Ev.pure _).of_eq fun k => by rw [wire_Put.l0, if_neg (by omega), if_neg (by omega)])
  | succ d ih =>
    intro i b P hd hP hb
    have hm := hs T[i] (List.getElem_mem (by omega))
    rw [List.drop_eq_getElem_cons (by omega)] at hP
    rw [← rdS_get T i (by omega)] at hP hm
    cases hP with
    | @cons s T2 c P hc hP =>
      have hlen := hc.len
      have hle : (c ++ (bytesOf (rdOf ByteArray.empty T (i : Int)) ++ P)).length = c.length + ((rdOf ByteArray.empty T (i : Int)).size + P.length) := by rw [List.length_append, List.length_append, bytesOf_length]
      have hbl : (b ++ c).length = b.length + c.length := List.length_append
      have hw : wrap64 (1048576 - ((b ++ c).length : Int)) = 1048576 - ((b ++ c).length : Int) := wrb _ (by omega) (by omega)
      have h3 : ((b ++ c) ++ bytesOf (rdOf ByteArray.empty T (i : Int))).length = (b ++ c).length + (rdOf ByteArray.empty T (i : Int)).size := by rw [List.length_append, bytesOf_length]
      have hr := ih (i + 1) ((b ++ c) ++ bytesOf (rdOf ByteArray.empty T (i : Int))) P (by omega) hP (by omega)
      have hres : ((b ++ c) ++ bytesOf (rdOf ByteArray.empty T (i : Int))) ++ P = b ++ (c ++ (bytesOf (rdOf ByteArray.empty T (i : Int)) ++ P)) := by simp only [List.append_assoc]
      rw [hres] at hr
      refine Ev.step ?_
      have := Ev.bind (g := fun k (t146 : List Int) => (if ((rdOf ByteArray.empty T (i : Int)).size : Int) > (wrap64 (1048576 - (t146.length : Int))) then (some (([] : List Int), (2 : Int))) else (if t146.length + (rdOf ByteArray.empty T (i : Int)).size < 140737488355328 then (wire_Put.l0 k (t146 ++ bytesOf (rdOf ByteArray.empty T (i : Int))) T (T.length : Int) (wrap64 ((i : Int) + 1))) else (none)))) (hc.enc b (by omega)) (hr.of_eq fun k => by rw [hw, if_neg (by omega), if_pos (by omega), wrn i (by omega)])
      exact this.of_eq fun k => by rw [wire_Put.l0, if_pos (by omega), if_pos (by omega), if_pos (by omega)]
theorem put_rt {T : List ByteArray} {h P : List Int} (hh : NumB (T.length : Int) h) (hP : TexB T P) (hs : ∀ s ∈ T, s.size ≤ 2048) (hT : T.length ≤ 250) : Ev (fun k => wire_Put.f k T) (h ++ P, 0) := by
  obtain ⟨h1, h2, h3⟩ := texB_facts hP hs
  have hl := hh.len
  have := hh.enc [] (by simp)
  rw [List.nil_append] at this
  exact Ev.bind (g := fun k t142 => wire_Put.l0 k t142 T (T.length : Int) 0) this (put_l0_rt T hT hs T.length 0 h P (by omega) hP (by omega))
theorem read_rt {x : Int} {b : List Int} (h : NumB x b) : Ev (fun k => wire_Read.f k (strOfNums b)) (x, true) := by
  have h1 := h.rd_ [] (by have := h.len; simp; omega)
  rw [List.append_nil] at h1
  have hb := bytes_str h.inb
  have hl := h.len
  have hz := str_size b
  refine (Ev.map h1 (fun t => some (t.1, (t.2.2 == 0 && t.2.1 == ((strOfNums b).size : Int)))) ?_).of_eq fun k => by unfold wire_Read.f; rw [if_pos (by omega), hb]
  rw [hz]
  simp
theorem imnum_rt {x : Int} {b : List Int} (h : NumB x b) (r : List ByteArray) : Ev (fun k => imNum k (strOfNums b :: r) false) (x, r, false) := (read_rt h).map (fun u => some (u.1, r, (false || !u.2))) rfl
def flatD : List S42 → List ByteArray
  | [] => []
  | d :: D => d.f0 :: d.f1 :: flatD D
theorem flatD_len : ∀ D : List S42, (flatD D).length = 2 * D.length
  | [] => rfl
  | d :: D => by rw [flatD, List.length_cons, List.length_cons, List.length_cons, flatD_len D]; omega
theorem stDocs_rt : ∀ (D : List S42) (R : List ByteArray) (acc : List S42), acc.length + D.length ≤ 1000000 → Ev (fun k => stDocs k (D.length : Int) (flatD D ++ R) false acc) (acc ++ D, R, false)
  | [], R, acc, h => by
    rw [List.append_nil]
    exact Ev.step ((Ev.pure _).of_eq fun k => by rw [stDocs, if_neg (by decide)]; rfl)
  | d :: D, R, acc, h => by
    rw [List.length_cons] at h
    have ih := stDocs_rt D R (acc ++ [d]) (by rw [List.length_append, List.length_singleton]; omega)
    rw [List.append_assoc] at ih
    have hw : wrap64 (((d :: D).length : Int) - 1) = (D.length : Int) := by rw [List.length_cons, wrb _ (by omega) (by omega)]; omega
    refine Ev.step (ih.of_eq fun k => ?_)
    rw [stDocs, if_pos (by rw [List.length_cons]; omega), if_neg (by decide), if_pos (by omega), hw]
    rfl
inductive SessB : List S47 → List ByteArray → Prop
  | nil : SessB [] []
  | cons {x : S47} {S : List S47} {T : List ByteArray} {b1 b2 b3 b4 b5 : List Int} : NumB x.f0 b1 → NumB x.f1 b2 → NumB x.f2.f0 b3 → NumB x.f2.f1 b4 → NumB x.f3 b5 → x.f2.f2 = [] → SessB S T → SessB (x :: S) (strOfNums b1 :: strOfNums b2 :: strOfNums b3 :: strOfNums b4 :: strOfNums b5 :: T)
theorem stSess_rt {S : List S47} {T : List ByteArray} (h : SessB S T) : ∀ acc : List S47, acc.length + S.length ≤ 1000000 → Ev2 (fun k f => stSess k f T false acc) (acc ++ S, [], false) := by
  induction h with
  | nil =>
    intro acc ha
    refine ⟨0, 1, fun k f _ hf => ?_⟩
    obtain ⟨f, rfl⟩ : ∃ g, f = g + 1 := ⟨f - 1, by omega⟩
    show stSess _ _ _ _ _ = _
    rw [stSess, if_neg (by decide), List.append_nil]
  | @cons x S T b1 b2 b3 b4 b5 n1 n2 n3 n4 n5 hx hS ih =>
    intro acc ha
    rw [List.length_cons] at ha
    obtain ⟨K, F, hK⟩ := ih (acc ++ [x]) (by rw [List.length_append, List.length_singleton]; omega)
    obtain ⟨K1, v1⟩ := imnum_rt n1 (strOfNums b2 :: strOfNums b3 :: strOfNums b4 :: strOfNums b5 :: T)
    obtain ⟨K2, v2⟩ := imnum_rt n2 (strOfNums b3 :: strOfNums b4 :: strOfNums b5 :: T)
    obtain ⟨K3, v3⟩ := imnum_rt n3 (strOfNums b4 :: strOfNums b5 :: T)
    obtain ⟨K4, v4⟩ := imnum_rt n4 (strOfNums b5 :: T)
    obtain ⟨K5, v5⟩ := imnum_rt n5 T
    refine ⟨K + K1 + K2 + K3 + K4 + K5, F + 1, fun k f hk hf => ?_⟩
    obtain ⟨f, rfl⟩ : ∃ g, f = g + 1 := ⟨f - 1, by omega⟩
    have w1 : imNum k (strOfNums b1 :: strOfNums b2 :: strOfNums b3 :: strOfNums b4 :: strOfNums b5 :: T) false = _ := v1 k (by omega)
    have w2 : imNum k (strOfNums b2 :: strOfNums b3 :: strOfNums b4 :: strOfNums b5 :: T) false = _ := v2 k (by omega)
    have w3 : imNum k (strOfNums b3 :: strOfNums b4 :: strOfNums b5 :: T) false = _ := v3 k (by omega)
    have w4 : imNum k (strOfNums b4 :: strOfNums b5 :: T) false = _ := v4 k (by omega)
    have w5 : imNum k (strOfNums b5 :: T) false = _ := v5 k (by omega)
    have hxe : (⟨x.f0, x.f1, ⟨x.f2.f0, x.f2.f1, []⟩, x.f3⟩ : S47) = x := by rw [← hx]
    show stSess _ _ _ _ _ = _
    rw [stSess, if_pos (by simp), if_neg (by decide), w1, Option.bind_some]
    dsimp only
    rw [w2, Option.bind_some]
    dsimp only
    rw [w3, Option.bind_some]
    dsimp only
    rw [w4, Option.bind_some]
    dsimp only
    rw [w5, Option.bind_some, if_pos (by omega)]
    dsimp only
    rw [hxe]
    have h := hK k f (by omega) (by omega)
    rw [List.append_assoc] at h
    exact h
theorem state_rt {idx : Int} {D : List S42} {S : List S47} {bi bl : List Int} {TS : List ByteArray} (hi : NumB idx bi) (hl : NumB (D.length : Int) bl) (hS : SessB S TS) (hD : D.length ≤ 1000) (hSl : S.length ≤ 1000) : Ev (fun k => image_state k (strOfNums bi :: strOfNums bl :: (flatD D ++ TS)) false) (idx, D, S, false) := by
  refine Ev.bind (g := fun k (a : Int × List ByteArray × Bool) => (imNum k a.2.1 a.2.2).bind fun b => (stDocs k b.1 b.2.1 b.2.2 []).bind fun d => (stSess k k d.2.1 d.2.2 []).bind fun s => some (a.1, d.1, s.1, s.2.2)) (imnum_rt hi _) ?_
  refine Ev.bind (g := fun k (b : Int × List ByteArray × Bool) => (stDocs k b.1 b.2.1 b.2.2 []).bind fun d => (stSess k k d.2.1 d.2.2 []).bind fun s => some (idx, d.1, s.1, s.2.2)) (imnum_rt hl _) ?_
  refine Ev.bind (g := fun k (d : List S42 × List ByteArray × Bool) => (stSess k k d.2.1 d.2.2 []).bind fun s => some (idx, d.1, s.1, s.2.2)) (stDocs_rt D TS [] (by simp; omega)) ?_
  exact Ev.map (stSess_rt hS [] (by simp; omega)).ev _ rfl
inductive NumsB : List Int → List ByteArray → Prop
  | nil : NumsB [] []
  | cons {x : Int} {b : List Int} {xs : List Int} {L : List ByteArray} : NumB x b → NumsB xs L → NumsB (x :: xs) (strOfNums b :: L)
theorem numbers_l0_rt (l : List Int) (hl : l.length ≤ 1000) : ∀ (d i : Nat) (acc L : List ByteArray), i + d = l.length → acc.length ≤ i → NumsB (l.drop i) L → Ev (fun k => wire_Numbers.l0 k acc l (l.length : Int) (i : Int)) (acc ++ L) := by
  intro d
  induction d with
  | zero =>
    intro i acc L hd ha h
    rw [List.drop_eq_nil_of_le (by omega)] at h
    cases h
    rw [List.append_nil]
    exact Ev.step ((Ev.pure _).of_eq fun k => by rw [wire_Numbers.l0, if_neg (by omega)])
  | succ d ih =>
    intro i acc L hd ha h
    rw [List.drop_eq_getElem_cons (by omega), ← rd_get l i (by omega)] at h
    cases h with
    | @cons x b xs L hb h =>
      have e := hb.enc [] (by simp)
      rw [List.nil_append] at e
      have hL := ih (i + 1) (acc ++ [strOfNums b]) L (by omega) (by rw [List.length_append, List.length_singleton]; omega) h
      rw [List.append_assoc] at hL
      refine Ev.step ?_
      have := Ev.bind (g := fun k t136 => (if acc.length < 8796093022208 then (wire_Numbers.l0 k (acc ++ [strOfNums t136]) l (l.length : Int) (wrap64 ((i : Int) + 1))) else (none))) e (hL.of_eq fun k => by rw [if_pos (by omega), wrn i (by omega)])
      exact this.of_eq fun k => by rw [wire_Numbers.l0, if_pos (by omega), if_pos (by omega), if_pos (by omega)]
theorem numbers_rt {l : List Int} {L : List ByteArray} (hl : l.length ≤ 1000) (h : NumsB l L) : Ev (fun k => wire_Numbers.f k l) L := numbers_l0_rt l hl l.length 0 [] L (by omega) (Nat.le_refl _) h
def tailF (k : Nat) (T : List ByteArray) : Option (List Int × Int) := (wire_Put.f k T).bind fun bt186 => (if bt186.2 = 0 then ((sum_Sum.f 0 bt186.1).bind fun t190 => ((wire_Sealed.f bt186.1 t190).bind fun t191 => (some (t191, (0 : Int))))) else (some (([] : List Int), bt186.2)))
theorem rd47 (l : List S47) (i : Nat) (h : i < l.length) : rd_T47 l (i : Int) = l[i] := by
  unfold rd_T47
  rw [Int.toNat_natCast, List.getD_eq_getElem?_getD, List.getElem?_eq_getElem h]
  rfl
theorem bytes_l1_rt (sess : List S47) (h8 : sess.length ≤ 8) (r : List Int × Int) : ∀ (d i : Nat) (T TS : List ByteArray), i + d = sess.length → T.length ≤ 500 + 5 * i → SessB (sess.drop i) TS → Ev (fun k => tailF k (T ++ TS)) r → Ev (fun k => image_Bytes.l1 k T sess (sess.length : Int) (i : Int)) r := by
  intro d
  induction d with
  | zero =>
    intro i T TS hd hT hS hr
    rw [List.drop_eq_nil_of_le (by omega)] at hS
    cases hS
    rw [List.append_nil] at hr
    exact Ev.step (hr.of_eq fun k => by rw [image_Bytes.l1, if_neg (by omega)]; rfl)
  | succ d ih =>
    intro i T TS hd hT hS hr
    rw [List.drop_eq_getElem_cons (by omega), ← rd47 sess i (by omega)] at hS
    cases hS with
    | @cons x S TS b1 b2 b3 b4 b5 n1 n2 n3 n4 n5 hx hS =>
      have hN := numbers_rt (l := [(rd_T47 sess (i : Int)).f0, (rd_T47 sess (i : Int)).f1, (rd_T47 sess (i : Int)).f2.f0, (rd_T47 sess (i : Int)).f2.f1, (rd_T47 sess (i : Int)).f3]) (by simp) (.cons n1 (.cons n2 (.cons n3 (.cons n4 (.cons n5 .nil)))))
      have hr2 := ih (i + 1) (T ++ [strOfNums b1, strOfNums b2, strOfNums b3, strOfNums b4, strOfNums b5]) TS (by omega) (by rw [List.length_append]; simp only [List.length_cons, List.length_nil]; omega) hS (by rw [List.append_assoc]; exact hr)
      refine Ev.step ?_
      have := Ev.bind (g := fun k (t180 : List ByteArray) => (if T.length + t180.length < 8796093022208 then (image_Bytes.l1 k (T ++ t180) sess (sess.length : Int) (wrap64 ((i : Int) + 1))) else (none))) hN (hr2.of_eq fun k => by rw [if_pos (by simp only [List.length_cons, List.length_nil]; omega), wrn i (by omega)])
      exact this.of_eq fun k => by rw [image_Bytes.l1, if_pos (by omega), if_pos (by omega), if_pos (by omega)]
theorem bytes_l0_rt (idx : Int) (docs : List S42) (sess : List S47) (h64 : docs.length ≤ 64) (r : List Int × Int) : ∀ (d i : Nat) (T : List ByteArray), i + d = docs.length → T.length ≤ 100 + 2 * i → Ev (fun k => image_Bytes.l1 k (T ++ flatD (docs.drop i)) sess (sess.length : Int) 0) r → Ev (fun k => image_Bytes.l0 k T docs (docs.length : Int) (i : Int) idx docs sess) r := by
  intro d
  induction d with
  | zero =>
    intro i T hd hT hr
    rw [List.drop_eq_nil_of_le (by omega), flatD, List.append_nil] at hr
    exact Ev.step (hr.of_eq fun k => by rw [image_Bytes.l0, if_neg (by omega)])
  | succ d ih =>
    intro i T hd hT hr
    rw [List.drop_eq_getElem_cons (by omega), ← rd42 docs i (by omega), flatD] at hr
    have hr2 := ih (i + 1) (T ++ [(rd_T42 docs (i : Int)).f0, (rd_T42 docs (i : Int)).f1]) (by omega) (by rw [List.length_append]; simp only [List.length_cons, List.length_nil]; omega) (by rw [List.append_assoc]; exact hr)
    exact Ev.step (hr2.of_eq fun k => by rw [image_Bytes.l0, if_pos (by omega), if_pos (by omega), if_pos (by omega), Option.bind_some, if_pos (by simp only [List.length_cons, List.length_nil]; omega), wrn i (by omega)])
theorem sessB_ex : ∀ (S : List S47), (∀ x ∈ S, (∀ n ∈ [x.f0, x.f1, x.f2.f0, x.f2.f1, x.f3], 0 ≤ n ∧ n < 9223372036854775808) ∧ x.f2.f2 = []) → ∃ TS, SessB S TS ∧ TS.length = 5 * S.length ∧ (∀ s ∈ TS, s.size ≤ 2048)
  | [], _ => ⟨[], .nil, rfl, fun s hs => (List.not_mem_nil hs).elim⟩
  | x :: S, h => by
    obtain ⟨TS, hS, hl, hz⟩ := sessB_ex S (fun y hy => h y (List.mem_cons_of_mem _ hy))
    obtain ⟨hx, hn⟩ := h x (List.mem_cons_self ..)
    have g1 := hx x.f0 (by simp)
    have g2 := hx x.f1 (by simp)
    have g3 := hx x.f2.f0 (by simp)
    have g4 := hx x.f2.f1 (by simp)
    have g5 := hx x.f3 (by simp)
    obtain ⟨b1, n1⟩ := numB_ex x.f0 g1.1 g1.2
    obtain ⟨b2, n2⟩ := numB_ex x.f1 g2.1 g2.2
    obtain ⟨b3, n3⟩ := numB_ex x.f2.f0 g3.1 g3.2
    obtain ⟨b4, n4⟩ := numB_ex x.f2.f1 g4.1 g4.2
    obtain ⟨b5, n5⟩ := numB_ex x.f3 g5.1 g5.2
    refine ⟨_, .cons n1 n2 n3 n4 n5 hn hS, by simp only [List.length_cons]; omega, fun s hs => ?_⟩
    have l1 := n1.len
    have l2 := n2.len
    have l3 := n3.len
    have l4 := n4.len
    have l5 := n5.len
    simp only [List.mem_cons] at hs
    rcases hs with rfl | rfl | rfl | rfl | rfl | hs
    · rw [str_size]; omega
    · rw [str_size]; omega
    · rw [str_size]; omega
    · rw [str_size]; omega
    · rw [str_size]; omega
    · exact hz s hs
theorem flatD_sizes : ∀ (D : List S42), (∀ d ∈ D, d.f0.size ≤ 2048 ∧ d.f1.size ≤ 2048) → ∀ s ∈ flatD D, s.size ≤ 2048
  | [], _, s, hs => (List.not_mem_nil hs).elim
  | d :: D, h, s, hs => by
    rw [flatD] at hs
    simp only [List.mem_cons] at hs
    have h1 := h d (List.mem_cons_self ..)
    rcases hs with rfl | rfl | hs
    · exact h1.1
    · exact h1.2
    · exact flatD_sizes D (fun x hx => h x (List.mem_cons_of_mem _ hx)) s hs
/-- The bytes of a state that may be are read as it. -/
theorem bytes_rt (idx : Int) (docs : List S42) (sess : List S47) (h : stateP idx docs sess) : ∃ B : List Int, Ev (fun k => image_Bytes.f k idx docs sess) (B, 0) ∧ B.length ≤ 524288 ∧ Ev (fun k => image_Parse.f k B) (idx, docs, sess, 0) := by
  obtain ⟨h1, h2, h3⟩ := h
  have hn := h1
  simp only [numB, decide_eq_true_eq] at hn
  have h64 := h2.2
  have h8 := h3.2
  obtain ⟨bi, ni⟩ := numB_ex idx hn.1 (by omega)
  obtain ⟨bl, nl⟩ := numB_ex (docs.length : Int) (by omega) (by omega)
  obtain ⟨TS, hS, hSl, hSz⟩ := sessB_ex sess (fun x hx => by
    obtain ⟨i, hi, rfl⟩ := List.mem_iff_getElem.1 hx
    have a1 := sess_five h3 i hi
    have a2 := h3.1 i (Nat.zero_le _) hi
    rw [rd47 sess i hi] at a1
    refine ⟨a1, ?_⟩
    simp only [stepB, Bool.and_eq_true] at a2
    have a3 := replyB_nil a2.2.2.2.1
    rw [rd47 sess i hi] at a3
    exact a3)
  have hDz : ∀ s ∈ flatD docs, s.size ≤ 2048 := flatD_sizes docs (fun d hd => by
    obtain ⟨i, hi, rfl⟩ := List.mem_iff_getElem.1 hd
    obtain ⟨a1, a2⟩ := h2.1.1 i (Nat.zero_le _) hi
    rw [rd42 docs i hi] at a2
    simp only [dstep, Bool.and_eq_true, decide_eq_true_eq] at a1
    rw [rd42 docs i hi] at a1
    exact ⟨by omega, a2⟩)
  have li := ni.len
  have ll := nl.len
  obtain ⟨T, hT⟩ : ∃ T, T = strOfNums bi :: strOfNums bl :: (flatD docs ++ TS) := ⟨_, rfl⟩
  have hTl : T.length = 2 + (2 * docs.length + 5 * sess.length) := by rw [hT, List.length_cons, List.length_cons, List.length_append, flatD_len, hSl]; omega
  have hTz : ∀ s ∈ T, s.size ≤ 2048 := fun s hs => by
    rw [hT] at hs
    simp only [List.mem_cons, List.mem_append] at hs
    rcases hs with rfl | rfl | hs | hs
    · rw [str_size]; omega
    · rw [str_size]; omega
    · exact hDz s hs
    · exact hSz s hs
  obtain ⟨P, hP⟩ := texB_ex T hTz
  obtain ⟨hd, nh⟩ := numB_ex (T.length : Int) (by omega) (by omega)
  obtain ⟨p1, p2, p3⟩ := texB_facts hP hTz
  have lh := nh.len
  have hput := put_rt nh hP hTz (by omega)
  have hle : (hd ++ P).length = hd.length + P.length := List.length_append
  obtain ⟨sl, hsl⟩ : ∃ sl : List Int, sl = [(sumV (hd ++ P) / 16777216) % 256, (sumV (hd ++ P) / 65536) % 256, (sumV (hd ++ P) / 256) % 256, sumV (hd ++ P) % 256] := ⟨_, rfl⟩
  have hsl4 : sl.length = 4 := by rw [hsl]; rfl
  have htail : Ev (fun k => tailF k T) ((hd ++ P) ++ sl, 0) := hput.map _ (by
    dsimp only
    rw [if_pos rfl]
    unfold sum_Sum.f
    rw [if_pos ⟨rfl, by omega⟩, Option.bind_some, sealed_is _ _ (by omega), Option.bind_some, hsl])
  have hb1 := bytes_l1_rt sess h8 ((hd ++ P) ++ sl, 0) sess.length 0 ([strOfNums bi, strOfNums bl] ++ flatD docs) TS (by omega) (by rw [List.length_append, flatD_len]; simp only [List.length_cons, List.length_nil]; omega) hS (by rw [List.append_assoc]; rw [hT] at htail; exact htail)
  have hb0 := bytes_l0_rt idx docs sess h64 ((hd ++ P) ++ sl, 0) docs.length 0 [strOfNums bi, strOfNums bl] (by omega) (by simp) hb1
  have hN := numbers_rt (l := [idx, (docs.length : Int)]) (by simp) (.cons ni (.cons nl .nil))
  have hB : Ev (fun k => image_Bytes.f k idx docs sess) ((hd ++ P) ++ sl, 0) := by
    have hb := Ev.bind (g := fun k t164 => image_Bytes.l0 k t164 docs (docs.length : Int) 0 idx docs sess) hN hb0
    exact Ev.bind (g := fun k (t160 : Bool) => (if t160 = true then ((wire_Numbers.f k (([idx, (docs.length : Int)] : List Int))).bind fun t164 => (image_Bytes.l0 k t164 docs (docs.length : Int) 0 idx docs sess)) else (some (([] : List Int), (1 : Int))))) (mmay_yes ⟨h1, h2, h3⟩) (hb.of_eq fun k => by rw [if_pos rfl])
  have hlen : ((hd ++ P) ++ sl).length = (hd ++ P).length + 4 := by rw [List.length_append, hsl4]
  refine ⟨(hd ++ P) ++ sl, hB, by omega, ?_⟩
  have htk : ((hd ++ P) ++ sl).take (((hd ++ P) ++ sl).length - 4) = hd ++ P := by rw [hlen, Nat.add_sub_cancel, List.take_left]
  have hget := get_rt nh hP hTz (by omega)
  have hst := state_rt ni nl hS (by omega) (by omega)
  rw [← hT] at hst
  have a1 := Ev.bind (g := fun k (s : Int × List S42 × List S47 × Bool) => (image_Bytes.f k s.1 s.2.1 s.2.2.1).bind fun b => some (if s.2.2.2 = true then ((0 : Int), ([] : List S42), ([] : List S47), (1 : Int)) else if b.2 ≠ 0 then (0, [], [], 1) else if (strOfNums b.1).toList = (strOfNums ((hd ++ P) ++ sl)).toList then (s.1, s.2.1, s.2.2.1, 0) else (0, [], [], 1))) hst (hB.map _ (v := (idx, docs, sess, 0)) (by rw [if_neg (show ¬ (false = true) by decide), if_neg (show ¬ ((0 : Int) ≠ 0) by decide), if_pos rfl]))
  have a2 := Ev.bind (g := fun k (u : List ByteArray × Int) => (image_state k u.1 (u.2 != 0)).bind fun s => (image_Bytes.f k s.1 s.2.1 s.2.2.1).bind fun b => some (if s.2.2.2 = true then ((0 : Int), ([] : List S42), ([] : List S47), (1 : Int)) else if b.2 ≠ 0 then (0, [], [], 1) else if (strOfNums b.1).toList = (strOfNums ((hd ++ P) ++ sl)).toList then (s.1, s.2.1, s.2.2.1, 0) else (0, [], [], 1))) hget a1
  exact a2.of_eq fun k => by unfold image_Parse.f; rw [if_pos (by omega), if_neg (by omega), htk]
end Go.Proofs.Yticlghbdapbdnaa.I
