/- The generator's step is linear over bits, without a fixed point but 0, and never answers 0 where 0 did not come in; its lowest bit tells 64 steps later all bits. Plain numbers, no program. -/
import Derived.Test.YtfjndhlkdckieaaBase
namespace Go.Proofs.Ytfjndhlkdckieaa.Xor
set_option linter.unusedVariables false
open Go.RowKit Go.Proofs.Ytfjndhlkdckieaa.Base

def Lin (f : Nat → Nat) : Prop := ∀ a b, f (a ^^^ b) = f a ^^^ f b
theorem Lin.zero {f : Nat → Nat} (h : Lin f) : f 0 = 0 := by
  have := h 0 0
  simpa using this
theorem lin_id : Lin fun s => s := fun _ _ => rfl
theorem lin_comp {f g : Nat → Nat} (hf : Lin f) (hg : Lin g) : Lin fun s => f (g s) := fun a b => by
  show f (g (a ^^^ b)) = _
  rw [hg, hf]
theorem swap (a b c d : Nat) : (a ^^^ b) ^^^ (c ^^^ d) = (a ^^^ c) ^^^ (b ^^^ d) := by
  rw [Nat.xor_assoc, Nat.xor_assoc, ← Nat.xor_assoc b, Nat.xor_comm b c, Nat.xor_assoc c]
theorem lin_xor {f g : Nat → Nat} (hf : Lin f) (hg : Lin g) : Lin fun s => f s ^^^ g s := fun a b => by
  show f (a ^^^ b) ^^^ g (a ^^^ b) = _
  rw [hf, hg]
  exact swap _ _ _ _
theorem lin_left (k : Nat) : Lin fun s => s <<< k % 2 ^ 64 := fun a b => by
  show (a ^^^ b) <<< k % 2 ^ 64 = _
  rw [Nat.shiftLeft_xor_distrib, Nat.xor_mod_two_pow]
theorem lin_right (k : Nat) : Lin fun s => s >>> k := fun a b => Nat.shiftRight_xor_distrib
theorem lin_mod (k : Nat) : Lin fun s => s % 2 ^ k := fun a b => Nat.xor_mod_two_pow
theorem top_bit (n x : Nat) (h : x < 2 ^ (n + 1)) (h' : 2 ^ n ≤ x) : ∃ y, y < 2 ^ n ∧ x = 2 ^ n ^^^ y := by
  refine ⟨x ^^^ 2 ^ n, ?_, ?_⟩
  · refine Nat.lt_pow_two_of_testBit _ fun i hi => ?_
    rw [Nat.testBit_xor, Nat.testBit_two_pow]
    by_cases hin : n = i
    · subst hin
      have : x.testBit n = true := by
        rw [Nat.testBit_eq_decide_div_mod_eq]
        have h1 : x / 2 ^ n = 1 := by
          rw [Nat.div_eq_iff (Nat.two_pow_pos n)]
          rw [Nat.pow_succ] at h
          omega
        simp [h1]
      simp [this]
    · have : x.testBit i = false := Nat.testBit_lt_two_pow (Nat.lt_of_lt_of_le h (Nat.pow_le_pow_right (by decide) (by omega)))
      simp [this, hin]
  · rw [Nat.xor_comm x, ← Nat.xor_assoc, Nat.xor_self, Nat.zero_xor]
theorem lin_ext {f g : Nat → Nat} (hf : Lin f) (hg : Lin g) : ∀ n, (∀ i, i < n → f (2 ^ i) = g (2 ^ i)) → ∀ x, x < 2 ^ n → f x = g x
  | 0, _, x, hx => by
    obtain rfl : x = 0 := by simpa using hx
    rw [hf.zero, hg.zero]
  | n + 1, h, x, hx => by
    by_cases hlt : x < 2 ^ n
    · exact lin_ext hf hg n (fun i hi => h i (by omega)) x hlt
    · obtain ⟨y, hy, rfl⟩ := top_bit n x hx (by omega)
      rw [hf, hg, h n (by omega), lin_ext hf hg n (fun i hi => h i (by omega)) y hy]
/-- The sum of those columns whose bits are there. -/
def cols : List Nat → Nat → Nat
  | [], _ => 0
  | c :: cs, x => (x % 2 * c) ^^^ cols cs (x / 2)
theorem half_xor (a b : Nat) : (a ^^^ b) / 2 = a / 2 ^^^ b / 2 := by
  have := @Nat.shiftRight_xor_distrib 1 a b
  simpa [Nat.shiftRight_eq_div_pow] using this
theorem lin_cols : ∀ cs, Lin (cols cs)
  | [], a, b => by simp [cols]
  | c :: cs, a, b => by
    simp only [cols]
    rw [half_xor, lin_cols cs]
    have h : (a ^^^ b) % 2 = a % 2 ^^^ b % 2 := by
      have := @Nat.xor_mod_two_pow a b 1
      simpa using this
    have h2 : (a ^^^ b) % 2 * c = (a % 2 * c) ^^^ (b % 2 * c) := by
      rw [h]
      rcases Nat.mod_two_eq_zero_or_one a with ha | ha <;> rcases Nat.mod_two_eq_zero_or_one b with hb | hb <;> simp [ha, hb]
    rw [h2]
    exact swap _ _ _ _
def T1 (s : Nat) : Nat := s ^^^ (s <<< 13 % 2 ^ 64)
def T2 (s : Nat) : Nat := s ^^^ (s >>> 7)
def T3 (s : Nat) : Nat := s ^^^ (s <<< 17 % 2 ^ 64)
def T (s : Nat) : Nat := T3 (T2 (T1 s))
theorem lin_T1 : Lin T1 := lin_xor lin_id (lin_left 13)
theorem lin_T2 : Lin T2 := lin_xor lin_id (lin_right 7)
theorem lin_T3 : Lin T3 := lin_xor lin_id (lin_left 17)
theorem lin_T : Lin T := lin_comp (f := T3) (g := fun s => T2 (T1 s)) lin_T3 (lin_comp (f := T2) (g := T1) lin_T2 lin_T1)
theorem T1_lt {s : Nat} (h : s < 2 ^ 64) : T1 s < 2 ^ 64 := Nat.xor_lt_two_pow h (Nat.mod_lt _ (Nat.two_pow_pos _))
theorem T2_lt {s : Nat} (h : s < 2 ^ 64) : T2 s < 2 ^ 64 := Nat.xor_lt_two_pow h (by rw [Nat.shiftRight_eq_div_pow]; exact Nat.lt_of_le_of_lt (Nat.div_le_self _ _) h)
theorem T3_lt {s : Nat} (h : s < 2 ^ 64) : T3 s < 2 ^ 64 := Nat.xor_lt_two_pow h (Nat.mod_lt _ (Nat.two_pow_pos _))
theorem T_lt {s : Nat} (h : s < 2 ^ 64) : T s < 2 ^ 64 := T3_lt (T2_lt (T1_lt h))
def invT : List Nat := [13721891023265367629, 8992534923016744091, 17985069846033488182, 17523395618357424748, 16595543013554996441, 14739837804084373939, 11032931534459196262, 3614614845758539469, 7224726641712639387, 14449453283425278774, 10452162493141005932, 2453076763122158809, 4901649376928250291, 8929476267905233508, 17854448386360165577, 17266656848461080979, 16086569623212610342, 13726395172715669068, 9001543221917346969, 18003086443834693938, 17559428813959836260, 16667609404759819465, 14883970586494019987, 11321197099278488358, 4195650124847425100, 8386797199890410649, 16773594399780821298, 15100444725852090980, 11749641228544328905, 5048034234063038867, 9222245982174810660, 18444491964349621320, 18446744004439992465, 18446743935170433314, 18446743796631315012, 18442240469748638857, 18437736865787726098, 18428729657865900580, 18410715242022249544, 18370182261018880145, 18293620448328208674, 18140496822946865732, 17829746522379740297, 17212748971049928978, 15978753868390306340, 13510763663071061064, 8570279103116503185, 2177756241903489056, 4355512483806978112, 8715529117064257665, 17431058234128515330, 16415372394547479044, 14384000715385406472, 10321257357061261328, 2195770640412971040, 4391541280825942080, 8787586711102185601, 17575173422204371202, 16703602770699190788, 14960461467688829960, 11474178861668108304, 4501613649626664992, 9003227299253329984, 18010958747956961409]
def invT1 : List Nat := [1543737011832479919, 848062959960547691, 15470882911132181007, 10122747898706093099, 4173278474950961251, 10660776033095340074, 502533042114134113, 17137591055431335982, 15828438037153120348, 8532516530407940193, 933774701730709550, 4104709767998021737, 12742917627139678219, 7039091180569804822, 16304092523707703321, 16544973821542719495, 16873608538700079163, 17674999753931776067, 3147500198616096863, 10837369353003655271, 14765726481160355874, 13315113856928718961, 12730502422019399739, 4632986311919689795, 6967379790779990122, 2397168452994793528, 7175621254636412997, 437865684269686867, 17006008948234993738, 1817397688083783757, 15156619499398938742, 4938197266289655808, 9876394532579311616, 3691830746136617013, 5144250423208304735, 5760770785756897383, 9206200966584746018, 18412401933169492036, 2246660704697090148, 18402054974764883985, 16131456810618118167, 13816169547526684718, 9185595021343817820, 2221917290982178900, 18199586511452512369, 4042421023540731963, 8084842047081463926, 18014398509481984, 36028797018963968, 72057594037927936, 144115188075855872, 288230376151711744, 576460752303423488, 1152921504606846976, 2305843009213693952, 4611686018427387904, 9223372036854775808, 2385787953710800949, 7143850856784060511, 536590819960610919, 17204585108701724706, 18201838311266197617, 4037917423913361467, 8075834847826722934]
def invO : List Nat := [17235300656508344808, 10842792154767364426, 11861477401142530924, 14154529017182104628, 6385596388370554376, 691532738334620026, 5898541763365421178, 9711907597095275372, 11686832921588846257, 14464720641952688440, 2882249153028451682, 14888891582250522771, 3422076828540365017, 16943126684394861412, 8391591040338876758, 9105926864174755531, 10454139813421337350, 2645037302714756190, 5572395287506874938, 16789175063486579193, 14144171103483719746, 12917310659351395640, 16575214968581045135, 9196468559228725018, 2804089106546801516, 12414680139536559922, 8049524218867403749, 16761362121958789851, 3329047493701789002, 7221439097196008865, 6686695763040587866, 8797266091367109311, 1350090377182759093, 5039640327213289804, 1483330272981337414, 16926079430631865660, 8102114435301591277, 4487123005330979394, 4746104992440675285, 10611730223768939352, 432480615466467932, 2547974180917765841, 12500005660831046206, 13003943877255823233, 11694655578394963716, 2819194450729617097, 12805785859762399879, 16732199692265421102, 17831669483028120299, 15622611656100841955, 4649198076426566543, 9604084415877887995, 3499273926381543843, 7349930159865715534, 3234284937974697554, 1190751576819940071, 1122887321797376076, 1636572852913295186, 3429814496891692058, 16121056615786247282, 8649341513868404770, 12523919624944392464, 4102641269797740334, 765214667332754139]
theorem all_lt {P : Nat → Prop} [DecidablePred P] (n : Nat) (h : (List.range n).all (fun i => decide (P i)) = true) : ∀ i, i < n → P i := fun i hi => by
  have := List.all_eq_true.1 h i (by simpa using hi)
  exact of_decide_eq_true this
theorem T_back (s : Nat) (h : s < 2 ^ 64) : cols invT (T s) = s :=
  lin_ext (lin_comp (lin_cols _) lin_T) lin_id 64 (all_lt (P := fun i => cols invT (T (2 ^ i)) = 2 ^ i) 64 (by decide +kernel)) s h
theorem T_back1 (s : Nat) (h : s < 2 ^ 64) : cols invT1 (T s ^^^ s) = s :=
  lin_ext (lin_comp (lin_cols _) (lin_xor lin_T lin_id)) lin_id 64 (all_lt (P := fun i => cols invT1 (T (2 ^ i) ^^^ 2 ^ i) = 2 ^ i) 64 (by decide +kernel)) s h
theorem T_inj {s t : Nat} (hs : s < 2 ^ 64) (ht : t < 2 ^ 64) (h : T s = T t) : s = t := by
  rw [← T_back s hs, h, T_back t ht]
theorem T_ne_zero {s : Nat} (hs : s < 2 ^ 64) (h0 : s ≠ 0) : T s ≠ 0 := fun h => h0 (by
  have := T_back s hs
  rw [h, (lin_cols _).zero] at this
  exact this.symm)
theorem T_ne {s : Nat} (hs : s < 2 ^ 64) (h0 : s ≠ 0) : T s ≠ s := fun h => h0 (by
  have := T_back1 s hs
  rw [h, Nat.xor_self, (lin_cols _).zero] at this
  exact this.symm)
/-- The number behind one. -/
def next (s : Nat) : Nat := if s = 0 then T 11400714819323198485 else T s
theorem next_lt {s : Nat} (h : s < 2 ^ 64) : next s < 2 ^ 64 := by
  unfold next
  split
  · exact T_lt (by decide)
  · exact T_lt h
theorem next_ne_zero {s : Nat} (h : s < 2 ^ 64) : next s ≠ 0 := by
  unfold next
  split
  · exact T_ne_zero (by decide) (by decide)
  · exact T_ne_zero h (by assumption)
theorem next_ne {s : Nat} (h : s < 2 ^ 64) : next s ≠ s := by
  by_cases h0 : s = 0
  · subst h0
    exact next_ne_zero h
  · unfold next
    rw [if_neg h0]
    exact T_ne h h0
theorem xor_u64 (a b : Nat) (ha : a < 2 ^ 64) (hb : b < 2 ^ 64) : Go.bits .xor .u64 (a : Int) (b : Int) = ((a ^^^ b : Nat) : Int) := by
  have ha' : a % 2 ^ 64 = a := Nat.mod_eq_of_lt ha
  have hb' : b % 2 ^ 64 = b := Nat.mod_eq_of_lt hb
  have h := Nat.xor_lt_two_pow ha hb
  have hx : ((BitVec.ofInt 64 (a : Int)) ^^^ (BitVec.ofInt 64 (b : Int))).toNat = a ^^^ b := by
    rw [BitVec.toNat_xor, BitVec.ofInt_natCast, BitVec.ofInt_natCast, BitVec.toNat_ofNat, BitVec.toNat_ofNat, ha', hb']
  show IntKind.u64.wrap ((((BitVec.ofInt 64 (a : Int)) ^^^ (BitVec.ofInt 64 (b : Int))).toNat : Nat) : Int) = _
  rw [hx]
  exact wrap_u64_in _ (Int.natCast_nonneg _) (by have h2 : (a ^^^ b) < 18446744073709551616 := h; omega)
theorem left_u64 (a k : Nat) (m : Int) (hm : m = ((2 ^ k : Nat) : Int)) : IntKind.u64.wrap ((a : Int) * m) = ((a <<< k % 2 ^ 64 : Nat) : Int) := by
  rw [wrap_u64, hm, Nat.shiftLeft_eq]
  omega
theorem right_u64 (a k : Nat) (m : Int) (hm : m = ((2 ^ k : Nat) : Int)) : (a : Int) / m = ((a >>> k : Nat) : Int) := by
  rw [hm, Nat.shiftRight_eq_div_pow]
  rfl
/-- The printed term is the step. -/
theorem T_term (a : Nat) (ha : a < 2 ^ 64) :
    Go.bits .xor .u64 (Go.bits .xor .u64 (Go.bits .xor .u64 (a : Int) (IntKind.u64.wrap ((a : Int) * 8192))) ((Go.bits .xor .u64 (a : Int) (IntKind.u64.wrap ((a : Int) * 8192))) / 128)) (IntKind.u64.wrap ((Go.bits .xor .u64 (Go.bits .xor .u64 (a : Int) (IntKind.u64.wrap ((a : Int) * 8192))) ((Go.bits .xor .u64 (a : Int) (IntKind.u64.wrap ((a : Int) * 8192))) / 128)) * 131072)) = ((T a : Nat) : Int) := by
  have m64 : ∀ n, n % 2 ^ 64 < 2 ^ 64 := fun n => Nat.mod_lt _ (Nat.two_pow_pos _)
  have e1 : Go.bits .xor .u64 (a : Int) (IntKind.u64.wrap ((a : Int) * 8192)) = ((T1 a : Nat) : Int) := by
    rw [left_u64 a 13 8192 rfl, xor_u64 a _ ha (m64 _)]; rfl
  rw [e1]
  have h1 := T1_lt ha
  have e2 : Go.bits .xor .u64 ((T1 a : Nat) : Int) (((T1 a : Nat) : Int) / 128) = ((T2 (T1 a) : Nat) : Int) := by
    rw [right_u64 _ 7 128 rfl, xor_u64 _ _ h1 (by rw [Nat.shiftRight_eq_div_pow]; exact Nat.lt_of_le_of_lt (Nat.div_le_self _ _) h1)]; rfl
  rw [e2, left_u64 _ 17 131072 rfl, xor_u64 _ _ (T2_lt h1) (m64 _)]
  rfl
end Go.Proofs.Ytfjndhlkdckieaa.Xor
