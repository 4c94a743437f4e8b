/- Sessions: rows of one's own (MSLawD, MDoe). -/
import Derived.Test.YtpeldaogdeefeaaGreatMG11
import Derived.Test.YtpeldaogdeefeaaGreatMG10
import Derived.Test.YtpeldaogdeefeaaGreatMx32
import Derived.Test.YtpeldaogdeefeaaGreatMx70
import Derived.Test.YtpeldaogdeefeaaGreatMG12
import Derived.Test.YtpeldaogdeefeaaGreatMDcm
import Derived.Test.YtpeldaogdeefeaaGreatMG14
/-! MSLawD -/
namespace Go.Proofs.YtpeldaogdeefeaaGreat.M
open Go.RowKit Go.Proofs.YtpeldaogdeefeaaGreatW.PrintWords Go.Proofs.YtpeldaogdeefeaaGreatW.PrintLast Go.Proofs.YtpeldaogdeefeaaGreatW.PrintMore
set_option linter.unusedVariables false
set_option linter.unusedSimpArgs false
theorem noHits_done (l : List S140) (a1 a2 r0 r1 a4 : Int) : noHits (doneTo l a1 a2 r0 r1 a4) := fun x hx => by
  rcases List.mem_or_eq_of_mem_set hx with hm | rfl
  · exact noHits_map l x hm
  · rfl
theorem done_len (l : List S140) (a1 a2 r0 r1 a4 : Int) : (doneTo l a1 a2 r0 r1 a4).length = l.length := by
  unfold doneTo
  rw [List.length_set, List.length_map]
def doneV (l : List S140) (a1 a2 r0 r1 : Int) (hs : List S53) (a4 : Int) : List S140 × Int := if numB a2 1 = true then (if numB a4 1 = true then (if replyB r0 r1 hs = true then (if anyS l a1 = true then (doneTo l a1 a2 r0 r1 a4, 0) else ([], 9)) else ([], 1)) else ([], 1)) else ([], 1)
theorem done_may {l : List S140} (h : mayP l) (a1 a2 r0 r1 : Int) (hs : List S53) (a4 : Int) : Ev (fun k => session_Done.f k l a1 a2 r0 r1 hs a4) (doneV l a1 a2 r0 r1 hs a4) := by
  refine Ev.bind (may_yes h) ((Ev.pure (doneV l a1 a2 r0 r1 hs a4)).of_eq fun k => ?_)
  unfold doneV numB anyS
  rw [if_pos rfl, reply_f, Option.bind_some]
  by_cases h1 : 1 ≤ a2 ∧ a2 < 1099511627776
  · rw [if_pos h1, decide_eq_true h1, if_pos rfl]
    by_cases h4 : 1 ≤ a4 ∧ a4 < 1099511627776
    · rw [if_pos h4, decide_eq_true h4, if_pos rfl]
      split
      · rw [if_pos ⟨mayP_rise h, h.2⟩]
        split <;> rfl
      · rfl
    · rw [if_neg h4, decide_eq_false h4]; rfl
  · rw [if_neg h1, decide_eq_false h1]; rfl
theorem rd_set (l : List S140) (p : Nat) (x : S140) (hp : p < l.length) : rd_T140 (l.set p x) (p : Int) = x := by
  rw [rd88_at _ p (by rw [List.length_set]; exact hp), List.getElem_set_self]
theorem refDone_is {l : List S140} (h : mayP l) (a1 a2 r0 r1 : Int) (hs : List S53) (a4 : Int) : Ev (fun k => lecternref14_Done.f k l a1 a2 r0 r1 hs a4) (doneV l a1 a2 r0 r1 hs a4) := by
  have hl := h.2
  refine Ev.of_eq (g := fun k => if numB a2 1 = true then (if numB a4 1 = true then lecternref14_Done.j0 k l a1 a2 a4 (!replyB r0 r1 hs) r0 r1 hs else lecternref14_Done.j0 k l a1 a2 a4 true r0 r1 hs) else lecternref14_Done.j0 k l a1 a2 a4 true r0 r1 hs) ?_ (fun k => by unfold lecternref14_Done.f; rw [id_f, id_f, MayReply_f]; rfl)
  unfold doneV
  have bad : Ev (fun k => lecternref14_Done.j0 k l a1 a2 a4 true r0 r1 hs) ([], 1) := Ev.step ((Ev.pure _).of_eq fun k => by rw [lecternref14_Done.j0, if_pos rfl])
  cases numB a2 1
  · exact bad
  cases numB a4 1
  · exact bad
  cases hrp : replyB r0 r1 hs
  · exact bad
  obtain rfl := replyB_nil hrp
  simp only [if_true, Bool.not_true]
  refine Ev.step ?_
  refine Ev.of_eq (g := fun k => (lecternref14_Find.f k l a1).bind fun t => if t < 0 then some (([] : List S140), 9) else ((lecternref0_CopySessions.f k l).bind fun m => ((lecternref0_CopyReply.f k r0 r1 []).bind fun q => (if 0 ≤ t then (if t < (m.length : Int) then some ((((m.set t.toNat ⟨(rd_T140 m t).f0, a2, (rd_T140 m t).f2, (rd_T140 m t).f3⟩).set t.toNat ⟨(rd_T140 (m.set t.toNat ⟨(rd_T140 m t).f0, a2, (rd_T140 m t).f2, (rd_T140 m t).f3⟩) t).f0, (rd_T140 (m.set t.toNat ⟨(rd_T140 m t).f0, a2, (rd_T140 m t).f2, (rd_T140 m t).f3⟩) t).f1, ⟨q.1, q.2.1, q.2.2⟩, (rd_T140 (m.set t.toNat ⟨(rd_T140 m t).f0, a2, (rd_T140 m t).f2, (rd_T140 m t).f3⟩) t).f3⟩).set t.toNat ⟨(rd_T140 ((m.set t.toNat ⟨(rd_T140 m t).f0, a2, (rd_T140 m t).f2, (rd_T140 m t).f3⟩).set t.toNat ⟨(rd_T140 (m.set t.toNat ⟨(rd_T140 m t).f0, a2, (rd_T140 m t).f2, (rd_T140 m t).f3⟩) t).f0, (rd_T140 (m.set t.toNat ⟨(rd_T140 m t).f0, a2, (rd_T140 m t).f2, (rd_T140 m t).f3⟩) t).f1, ⟨q.1, q.2.1, q.2.2⟩, (rd_T140 (m.set t.toNat ⟨(rd_T140 m t).f0, a2, (rd_T140 m t).f2, (rd_T140 m t).f3⟩) t).f3⟩) t).f0, (rd_T140 ((m.set t.toNat ⟨(rd_T140 m t).f0, a2, (rd_T140 m t).f2, (rd_T140 m t).f3⟩).set t.toNat ⟨(rd_T140 (m.set t.toNat ⟨(rd_T140 m t).f0, a2, (rd_T140 m t).f2, (rd_T140 m t).f3⟩) t).f0, (rd_T140 (m.set t.toNat ⟨(rd_T140 m t).f0, a2, (rd_T140 m t).f2, (rd_T140 m t).f3⟩) t).f1, ⟨q.1, q.2.1, q.2.2⟩, (rd_T140 (m.set t.toNat ⟨(rd_T140 m t).f0, a2, (rd_T140 m t).f2, (rd_T140 m t).f3⟩) t).f3⟩) t).f1, (rd_T140 ((m.set t.toNat ⟨(rd_T140 m t).f0, a2, (rd_T140 m t).f2, (rd_T140 m t).f3⟩).set t.toNat ⟨(rd_T140 (m.set t.toNat ⟨(rd_T140 m t).f0, a2, (rd_T140 m t).f2, (rd_T140 m t).f3⟩) t).f0, (rd_T140 (m.set t.toNat ⟨(rd_T140 m t).f0, a2, (rd_T140 m t).f2, (rd_T140 m t).f3⟩) t).f1, ⟨q.1, q.2.1, q.2.2⟩, (rd_T140 (m.set t.toNat ⟨(rd_T140 m t).f0, a2, (rd_T140 m t).f2, (rd_T140 m t).f3⟩) t).f3⟩) t).f2, a4⟩), 0) else none) else none)))) ?_ (fun k => by rw [lecternref14_Done.j0, if_neg (by decide)]; rfl)
  refine Ev.bind (sfind_is l a1 (by omega) (mayP_rise h)) ?_
  by_cases ha : anyS l a1 = true
  · have hp := placeS_lt ha
    rw [if_pos ha, findV_yes ha]
    have hn : ¬ ((placeS l a1 : Int) < 0) := by omega
    simp only [hn, if_false, Int.toNat_natCast]
    refine Ev.bind (copySessions_is l (by omega) (noHits_ok (noHits_may h))) ?_
    refine Ev.bind (copyReply_is r0 r1 [] (Nat.zero_le _)) ((Ev.pure _).of_eq fun k => ?_)
    have e : ∀ x, rd_T140 (l.set (placeS l a1) x) (placeS l a1 : Int) = x := fun x => rd_set l _ x hp
    rw [if_pos (by omega), if_pos (by omega)]
    simp only [List.set_set, e]
    unfold doneTo
    rw [mayP_clr h]
    rfl
  · rw [if_neg ha, findV_no ha]
    exact (Ev.pure _).of_eq fun k => by rw [if_pos (by decide)]
end Go.Proofs.YtpeldaogdeefeaaGreat.M
/-! MDoe -/
namespace Go.Proofs.YtpeldaogdeefeaaGreat.M
open Go.Proofs.YtpeldaogdeefeaaGreat.H Go.RowKit Go.Maps Go.Sort Go.Proofs.YtpeldaogdeefeaaGreatW.PrintWords Go.Proofs.YtpeldaogdeefeaaGreatW.PrintLast Go.Proofs.YtpeldaogdeefeaaGreatW.PrintMore Go.Proofs.YtpeldaogdeefeaaGreat.Base
set_option linter.unusedVariables false
set_option linter.unusedSimpArgs false
/-- The shelf has turned, and nothing out of [B, U). -/
theorem Mch.setShf {w w' : World} {B U g gs cnt : Nat} {M' : List (Bs × Bs)} {ix : Int} {ss : List S140} {vs : Value} (hg : w.heap[g]? = some (.cells #[.pointer (some ⟨gs, 0, none⟩), .int .i64 ix, vs] 132 (0, 0))) (hU : U ≤ g) (hv : Kd.S k140 140 w U (fun _ => True) vs ss) (hs : Shf w' B U gs cnt M') (hk : KeptO w w' B U) : Mch w' B U g cnt M' ix ss :=
  ⟨⟨gs, vs, (hk.kept g (blk_lt hg) (.inr hU)).trans hg, hs, Kd.S_mono (Kd.S_step (Kd.S_bound hv) (fun k h1 h2 => hk.kept k h2 (.inr h1.2.1))) (fun _ _ => trivial)⟩, hU⟩
set_option maxRecDepth 100000 in
set_option maxHeartbeats 4000000 in
theorem does90 {w : World} {B U g cnt : Nat} {M M' : List (Bs × Bs)} {ix r : Int} {ss : List S140} (h : Mch w B U g cnt M ix ss) (a q : Int) (id : ByteArray) (hid : id.size ≤ 140737488351232) (hdel : delV M id.data.toList = (M', r)) :
    Calls Tryz.prog 90 #[.pointer (some ⟨g, 0, none⟩), .agg #[.int .i64 3, .int .i64 a, .int .i64 q, .string id, .string ⟨#[]⟩]] w fun e w' => e = .returned (.int .i64 r) ∧ Mch w' B U g cnt M' ix ss ∧ KeptO w w' B U := by
  have HM := Aside0.mk h
  have HID := Aside0.mk hid
  have HDEL := Aside0.mk hdel
  have hu132 := Tryz.underlying132
  have hu73 := Tryz.underlying73
  obtain ⟨gs, vs, hg, hsh, hvs⟩ := h.ex
  have HG := Aside0.mk hg
  have HSH := Aside0.mk hsh
  have HVS := Aside0.mk hvs
  have HLO := Aside0.mk h.lo
  clear h hid hdel hg hsh hvs
  go_enter Tryz.func90, Tryz.ntmps90
  go_upto_region 2 with (fail)
  obtain ⟨p, hpe⟩ : ∃ b, b = w.heap.size := ⟨_, rfl⟩
  obtain ⟨w1, hw1⟩ : ∃ z, z = w.alloc (.cells #[.int .i64 3, .int .i64 a, .int .i64 q, .string id, .string ⟨#[]⟩] 73) := ⟨_, rfl⟩
  have HP2 : Aside0 (w1.drew.heap[p]? = some (.cells #[.int .i64 3, .int .i64 a, .int .i64 q, .string id, .string ⟨#[]⟩] 73 (0, 0))) := ⟨by rw [hw1, hpe]; exact blk_drew (heap_alloc_new w _)⟩
  have HB2 : Aside0 (Below w.heap.size w w1.drew) := ⟨by rw [hw1]; exact below_drew1 (below_alloc (Below.refl _ _) _)⟩
  have HK2 : Aside0 (KeptO w w1.drew B U) := ⟨.of_below HB2.out HSH.out.size⟩
  have HPU : Aside0 (U ≤ p) := ⟨by rw [hpe]; exact HM.out.size.1⟩
  have HG2 : Aside0 (w1.drew.heap[g]? = some (.cells #[.pointer (some ⟨gs, 0, none⟩), .int .i64 ix, vs] 132 (0, 0))) := ⟨blk_below HG.out HB2.out⟩
  have HS2 : Aside0 (Shf w1.drew B U gs cnt M) := ⟨HSH.out.below HB2.out⟩
  rw [← hpe, ← hw1]
  clear hpe hw1 HB2
  refine start_ (n := 8) (S := fun w' => w'.cell? ⟨g, 0, none⟩ = some (.pointer (some ⟨gs, 0, none⟩)) ∧ w'.cell? ⟨p, 3, none⟩ = some (.string id)) (ds := []) #[false, false, false, false, false, false, false, false] (by kernel_rfl) rfl rfl ⟨((blk_cell HG2.out 0).trans rfl), ((blk_cell HP2.out 3).trans rfl)⟩ (fun hHeld => ?_)
  generalize w1.drew = w2 at HK2 HG2 HP2 HS2 hHeld ⊢
  refine pure_ (i := 0) (N := some 9) (v := ?_) (a' := ?_) #[true, false, false, false, false, false, false, false] rfl rfl (by kernel_rfl) (fun _ _ _ h => h) (Or.inl ⟨by rfl, ?_⟩) ?_ ?_
  rotate_left
  · intro w'
    go_simp
    with_reducible rfl
  rotate_left
  · simp only [Act.put, List.setIfInBounds_toArray, List.set_cons_zero, List.set_cons_succ, i64_w, i32_w]
    rfl
  refine pure_ (i := 1) (N := some 10) (v := ?_) (a' := ?_) #[true, true, false, false, false, false, false, false] rfl rfl (by kernel_rfl) (fun _ _ _ h => h) (Or.inl ⟨by rfl, ?_⟩) ?_ ?_
  rotate_left
  · intro w'
    go_simp
    with_reducible rfl
  rotate_left
  · simp only [Act.put, List.setIfInBounds_toArray, List.set_cons_zero, List.set_cons_succ, i64_w, i32_w]
    rfl
  refine pure_ (i := 2) (N := some 11) (v := ?_) (a' := ?_) #[true, true, true, false, false, false, false, false] rfl rfl (by kernel_rfl) (fun _ _ _ h => h) (Or.inl ⟨by rfl, ?_⟩) ?_ ?_
  rotate_left
  · intro w'
    go_simp
    with_reducible rfl
  rotate_left
  · simp only [Act.put, List.setIfInBounds_toArray, List.set_cons_zero, List.set_cons_succ, i64_w, i32_w]
    rfl
  refine pure_ (i := 4) (N := some 13) (v := ?_) (a' := ?_) #[true, true, true, false, true, false, false, false] rfl rfl (by kernel_rfl) (fun _ _ _ h => h) (Or.inl ⟨by rfl, ?_⟩) ?_ ?_
  rotate_left
  · intro w'
    go_simp
    with_reducible rfl
  rotate_left
  · simp only [Act.put, List.setIfInBounds_toArray, List.set_cons_zero, List.set_cons_succ, i64_w, i32_w]
    rfl
  refine take_ (i := 3) (N := some 12) (v := ?_) (a' := ?_) #[true, true, true, true, true, false, false, false] rfl rfl (by kernel_rfl) (fun _ _ _ h => h) (Or.inl ⟨by rfl, ?_⟩) hHeld ?_ ?_
  rotate_left
  · rintro w' ⟨s0, s1⟩
    go_simp
    with_reducible rfl
  rotate_left
  · simp only [Act.put, List.setIfInBounds_toArray, List.set_cons_zero, List.set_cons_succ, i64_w, i32_w]
    rfl
  refine take_ (i := 5) (N := some 14) (v := ?_) (a' := ?_) #[true, true, true, true, true, true, false, false] rfl rfl (by kernel_rfl) (fun _ _ _ h => h) (Or.inl ⟨by rfl, ?_⟩) hHeld ?_ ?_
  rotate_left
  · rintro w' ⟨s0, s1⟩
    go_simp
    with_reducible rfl
  rotate_left
  · simp only [Act.put, List.setIfInBounds_toArray, List.set_cons_zero, List.set_cons_succ, i64_w, i32_w]
    rfl
  refine one_ (i := 6) (N := some 15) #[true, true, true, true, true, true, true, false] rfl rfl (by kernel_rfl) (by decide) (fun K hK => ?_)
  refine goes_ Tryz.func31 (by kernel_rfl) rfl #[.pointer (some ⟨gs, 0, none⟩), .string id] (by rfl) rfl rfl (by simp only [List.map_toArray, List.map_cons, List.map_nil]; rfl) ?_
  with_reducible refine (del_calls HS2.out id HID.out HDEL.out).mono ?_
  rintro e w3 ⟨rfl, hs3, hk3⟩
  refine ⟨_, rfl, ?_⟩
  have HS3 := Aside0.mk hs3
  have HK3 := Aside0.mk (HK2.out.trans hk3)
  have HG3 := Aside0.mk ((hk3.kept g (blk_lt HG2.out) (.inr HLO.out)).trans HG2.out)
  have HP3 := Aside0.mk ((hk3.kept p (blk_lt HP2.out) (.inr HPU.out)).trans HP2.out)
  clear hs3 hk3
  refine hK.out _ _ ⟨((blk_cell HG3.out 0).trans rfl), ((blk_cell HP3.out 3).trans rfl)⟩ (fun hHeld => ?_)
  clear hK K
  refine norm_ (a' := ?_) ?_ ?_
  rotate_left
  · show Act.put _ (some 15) _ = _
    simp only [Act.put, List.setIfInBounds_toArray, List.set_cons_zero, List.set_cons_succ, i64_w, i32_w]
    rfl
  refine pure_ (i := 7) (N := some 4) (v := ?_) (a' := ?_) #[true, true, true, true, true, true, true, true] rfl rfl (by kernel_rfl) (fun _ _ _ h => h) (Or.inl ⟨by rfl, ?_⟩) ?_ ?_
  rotate_left
  · intro w'
    go_simp
    with_reducible rfl
  rotate_left
  · simp only [Act.put, List.setIfInBounds_toArray, List.set_cons_zero, List.set_cons_succ, i64_w, i32_w]
    rfl
  refine done_ (by kernel_rfl) ?_
  go_wp2_with fail
  go_ret
  exact ⟨rfl, Mch.setShf HG.out HLO.out HVS.out HS3.out HK3.out, HK3.out⟩
end Go.Proofs.YtpeldaogdeefeaaGreat.M
