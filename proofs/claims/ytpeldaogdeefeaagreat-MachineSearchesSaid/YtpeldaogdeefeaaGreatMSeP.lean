/- The reference's Hits tells what the shelf's does, in plain Lean. -/
import Derived.Test.YtpeldaogdeefeaaGreatMHFind
import Derived.Test.YtpeldaogdeefeaaGreatMG2
import Derived.Test.YtpeldaogdeefeaaGreatMG8
import Derived.Test.YtpeldaogdeefeaaGreatMx130
namespace Go.Proofs.YtpeldaogdeefeaaGreat.M
open Go.Proofs.YtpeldaogdeefeaaGreat.H Go.RowKit Go.Maps Go.Sort Go.Shelf Go.Lib Go.Proofs.YtpeldaogdeefeaaGreatW.PrintWords Go.Proofs.YtpeldaogdeefeaaGreatW.PrintLast Go.Proofs.YtpeldaogdeefeaaGreatW.PrintMore Go.Proofs.YtpeldaogdeefeaaGreat.Base
set_option linter.unusedVariables false
set_option linter.unusedSimpArgs false
theorem cut_is (t p : ByteArray) (k : Nat) (h : k + p.size ≤ t.size) : ((t.extract k (k + p.size)).toList = p.toList) ↔ occAt t.data.toList p.data.toList k = true := by
  rw [tl, tl, ByteArray.data_extract, Array.toList_extract]
  unfold occAt
  simp only [List.extract]
  rw [show k + p.size - k = p.data.toList.length by rw [ba_size]; omega, List.isPrefixOf_iff_prefix, List.prefix_iff_eq_take]
  exact eq_comm
theorem hits_l1 (l : List S36) (h : DocsOk l) (p : ByteArray) (hp : 0 < p.size) (hp2 : p.size ≤ 1000000000000) (i : Nat) (hi : i < l.length) (v : List S53) : ∀ d kk acc, kk + d = l[i].f1.size + 1 → acc.length + d ≤ 100000000 → Ev (fun k => lecternref8_Hits.l0 k l p (acc ++ hitsAt l[i].f0 (occF l[i].f1.data.toList p.data.toList d kk)) ((i + 1 : Nat) : Int)) v → Ev (fun k => lecternref8_Hits.l1 k l p acc (i : Int) (kk : Int)) v
  | 0, kk, acc, hd, hl, hv => by
    have htx := h.tx _ (List.getElem_mem hi)
    have hfew := h.few
    have hv' : Ev (fun k => lecternref8_Hits.l0 k l p acc ((i + 1 : Nat) : Int)) v := by simpa [occF, hitsAt] using hv
    refine Ev.step (hv'.of_eq fun k => ?_)
    rw [lecternref8_Hits.l1, if_pos (by omega), if_pos (by omega), rd36 l i hi, wrb _ (by omega) (by omega), if_neg (by omega), wrn i (by omega)]
  | d + 1, kk, acc, hd, hl, hv => by
    have htx := h.tx _ (List.getElem_mem hi)
    have hfew := h.few
    by_cases hroom : kk + p.size ≤ l[i].f1.size
    · have hc := cut_is l[i].f1 p kk hroom
      have e0 : wrap64 ((kk : Int) + (p.size : Int)) = ((kk + p.size : Nat) : Int) := by rw [wrb _ (by omega) (by omega)]; omega
      by_cases ho : occAt l[i].f1.data.toList p.data.toList kk = true
      · have ih := hits_l1 l h p hp hp2 i hi v d (kk + 1) (acc ++ [⟨l[i].f0, (kk : Int)⟩]) (by omega) (by rw [List.length_append, List.length_singleton]; omega) (by
          rw [occF_one, if_pos ho] at hv
          rw [List.append_assoc]
          exact hv)
        refine Ev.step (ih.of_eq fun k => ?_)
        rw [lecternref8_Hits.l1, if_pos (by omega), if_pos (by omega), rd36 l i hi, wrb ((l[i].f1.size : Int) - (p.size : Int)) (by omega) (by omega), if_pos (by omega), if_pos (by omega), e0, if_pos (by omega), if_pos (by omega), Int.toNat_natCast, Int.toNat_natCast, if_pos (hc.2 ho), if_pos (by omega), wrn kk (by omega)]
      · have ih := hits_l1 l h p hp hp2 i hi v d (kk + 1) acc (by omega) (by omega) (by
          rw [occF_one, if_neg ho] at hv
          exact hv)
        refine Ev.step (ih.of_eq fun k => ?_)
        rw [lecternref8_Hits.l1, if_pos (by omega), if_pos (by omega), rd36 l i hi, wrb ((l[i].f1.size : Int) - (p.size : Int)) (by omega) (by omega), if_pos (by omega), if_pos (by omega), e0, if_pos (by omega), if_pos (by omega), Int.toNat_natCast, Int.toNat_natCast, if_neg (fun e => ho (hc.1 e)), wrn kk (by omega)]
    · have hn : occF l[i].f1.data.toList p.data.toList (d + 1) kk = [] := occF_none _ _ _ _ (fun j h1 _ => occAt_far (fun e => by have := ba_size p; rw [e] at this; simp at this; omega) (by rw [ba_size, ba_size]; omega))
      have hv' : Ev (fun k => lecternref8_Hits.l0 k l p acc ((i + 1 : Nat) : Int)) v := by
        rw [hn] at hv
        simpa [hitsAt] using hv
      refine Ev.step (hv'.of_eq fun k => ?_)
      rw [lecternref8_Hits.l1, if_pos (by omega), if_pos (by omega), rd36 l i hi, wrb _ (by omega) (by omega), if_neg (by omega), wrn i (by omega)]
theorem hits_l0 (l : List S36) (h : DocsOk l) (p : ByteArray) (hp : 0 < p.size) (hp2 : p.size ≤ 1000000000000) : ∀ d i, i + d = l.length → ∀ acc : List S53, acc.length ≤ i * 2049 → Ev (fun k => lecternref8_Hits.l0 k l p acc (i : Int)) (acc ++ (l.drop i).flatMap (fun x => hitsD x.f0 x.f1 p))
  | 0, i, hd, acc, _ => Ev.step ((Ev.pure _).of_eq fun k => by
      rw [lecternref8_Hits.l0, if_neg (by omega), List.drop_eq_nil_of_le (by omega)]
      simp)
  | d + 1, i, hd, acc, hacc => by
    have hi : i < l.length := by omega
    have hfew := h.few
    have htx := h.tx _ (List.getElem_mem hi)
    have hlen : (hitsD l[i].f0 l[i].f1 p).length ≤ 2049 := by
      unfold hitsD hitsAt
      rw [List.length_map]
      have := occF_len l[i].f1.data.toList p.data.toList (l[i].f1.size + 1) 0
      omega
    have ih := hits_l0 l h p hp hp2 d (i + 1) (by omega) (acc ++ hitsD l[i].f0 l[i].f1 p) (by rw [List.length_append]; omega)
    rw [List.append_assoc] at ih
    have e : (l.drop i).flatMap (fun x => hitsD x.f0 x.f1 p) = hitsD l[i].f0 l[i].f1 p ++ (l.drop (i + 1)).flatMap (fun x => hitsD x.f0 x.f1 p) := by
      rw [List.drop_eq_getElem_cons hi, List.flatMap_cons]
    rw [e]
    have h1 := hits_l1 l h p hp hp2 i hi _ (l[i].f1.size + 1) 0 acc (by omega) (by omega) ih
    refine Ev.step (h1.of_eq fun k => ?_)
    rw [lecternref8_Hits.l0, if_pos (by omega)]
    rfl
theorem refHits_is {l : List S36} (h : DocsOk l) (p : ByteArray) (hp : 0 < p.size) (hp2 : p.size ≤ 1000000000000) : Ev (fun k => lecternref8_Hits.f k l p) (hitsM (pairs l) p) := by
  have h0 := hits_l0 l h p hp hp2 l.length 0 (by omega) [] (Nat.zero_le _)
  rw [List.drop_zero, List.nil_append] at h0
  unfold hitsM
  rw [docs_pairs]
  exact h0
end Go.Proofs.YtpeldaogdeefeaaGreat.M
