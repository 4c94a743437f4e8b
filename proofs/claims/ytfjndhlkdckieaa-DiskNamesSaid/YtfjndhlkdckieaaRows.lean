/-
  No cell of these rows narrows 'for every input' (looked for: loops, veiled, ifaces, maps, wideKeys, modest, calm, conditions, laid).
  DERIVED. THE GIVEN ROWS OF THIS SEAT. 12 by the template 'for every input the law returns true; each argument reads behind the call as it read before'; 0 by the template 'total and deterministic' (their statements: YtfjndhlkdckieaaTotals.lean).
  GIVEN WITH THE SEED: the statements are not yours to turn. If you find one false, say at which input.
  Laid BY PROGRAM, IN A SANDBOX (cutbox-rows.mjs): the forced cells as the released guide's own fill.sh prints them over the translation 43635178f09ed383… (all of the seat's roots in one cut). By AI agents, Wed Nov 11 2026. No macro, syntax, notation, axiom, sorry.
-/
import Derived.Test.YtfjndhlkdckieaaChecked
import GoSem.Claim
import GoSem.ClaimJoined
import GoSem.ClaimMapViews
import Derived.JoinedTies
import Derived.KernelRfl
namespace Go.Proofs.Ytfjndhlkdckieaa
/- THE CELL 'sum', in the pinned program and in every row, IS THE sha256 OF THE DUMP (.gsa) THAT YtfjndhlkdckieaaProg.lean LOADS. Nothing in Lean hashes anything: it is a label: what it is worth is what the hold of that sum in a sandbox is worth. -/
noncomputable def Try.pinned : Pinned := { name := "ytfjndhlkdckieaa", sum := "43635178f09ed38368182bfc1deb933384949ae1d78f0d978c5a8f6daa0de207", checked := Try.checked }
namespace Rows
def none {H : Type} : Left H := { results := [], args := [] }

/-- 'lecternlaw21.RandomExact': WHATEVER THE INPUT: true; the input reads as it did. -/
def randomExactSpec : ChangeSpec := { name := "randomExact", fn := fun _ => fun
  | [d] => { results := [.lit (.bool true)], args := [d] }
  | _ => none }
def randomExactRow : OpenClaim := { program := "ytfjndhlkdckieaa", sum := "43635178f09ed38368182bfc1deb933384949ae1d78f0d978c5a8f6daa0de207", func := "lectern/lecternlaw21.RandomExact", spec := "randomExact", apart := false }
def RandomExactSaid : Prop := randomExactRow.holds Try.pinned (OpenSpec.ofChange randomExactSpec)

/-- ITS FALSE NEIGHBOUR: 'it returns false'. Refute it at one input. -/
def randomExactWrong : ChangeSpec := { name := "randomExact", fn := fun _ => fun
  | [d] => { results := [.lit (.bool false)], args := [d] }
  | _ => none }
def RandomExactWrongFalsely : Prop := randomExactRow.holds Try.pinned (OpenSpec.ofChange randomExactWrong)

/-- 'lecternlaw21.RandomRuns': WHATEVER THE INPUT: true; the input reads as it did. -/
def randomRunsSpec : ChangeSpec := { name := "randomRuns", fn := fun _ => fun
  | [d] => { results := [.lit (.bool true)], args := [d] }
  | _ => none }
def randomRunsRow : OpenClaim := { program := "ytfjndhlkdckieaa", sum := "43635178f09ed38368182bfc1deb933384949ae1d78f0d978c5a8f6daa0de207", func := "lectern/lecternlaw21.RandomRuns", spec := "randomRuns", apart := false }
def RandomRunsSaid : Prop := randomRunsRow.holds Try.pinned (OpenSpec.ofChange randomRunsSpec)

/-- ITS FALSE NEIGHBOUR: 'it returns false'. Refute it at one input. -/
def randomRunsWrong : ChangeSpec := { name := "randomRuns", fn := fun _ => fun
  | [d] => { results := [.lit (.bool false)], args := [d] }
  | _ => none }
def RandomRunsWrongFalsely : Prop := randomRunsRow.holds Try.pinned (OpenSpec.ofChange randomRunsWrong)

/-- 'lecternlaw21.RandomSpread': WHATEVER THE INPUT: true; the input reads as it did. -/
def randomSpreadSpec : ChangeSpec := { name := "randomSpread", fn := fun _ => fun
  | [d] => { results := [.lit (.bool true)], args := [d] }
  | _ => none }
def randomSpreadRow : OpenClaim := { program := "ytfjndhlkdckieaa", sum := "43635178f09ed38368182bfc1deb933384949ae1d78f0d978c5a8f6daa0de207", func := "lectern/lecternlaw21.RandomSpread", spec := "randomSpread", apart := false }
def RandomSpreadSaid : Prop := randomSpreadRow.holds Try.pinned (OpenSpec.ofChange randomSpreadSpec)

/-- ITS FALSE NEIGHBOUR: 'it returns false'. Refute it at one input. -/
def randomSpreadWrong : ChangeSpec := { name := "randomSpread", fn := fun _ => fun
  | [d] => { results := [.lit (.bool false)], args := [d] }
  | _ => none }
def RandomSpreadWrongFalsely : Prop := randomSpreadRow.holds Try.pinned (OpenSpec.ofChange randomSpreadWrong)

/-- 'lecternlaw24.QuorumMeet': WHATEVER THE INPUT: true; the input reads as it did. -/
def quorumMeetSpec : ChangeSpec := { name := "quorumMeet", fn := fun _ => fun
  | [d] => { results := [.lit (.bool true)], args := [d] }
  | _ => none }
def quorumMeetRow : OpenClaim := { program := "ytfjndhlkdckieaa", sum := "43635178f09ed38368182bfc1deb933384949ae1d78f0d978c5a8f6daa0de207", func := "lectern/lecternlaw24.QuorumMeet", spec := "quorumMeet", apart := false }
def QuorumMeetSaid : Prop := quorumMeetRow.holds Try.pinned (OpenSpec.ofChange quorumMeetSpec)

/-- ITS FALSE NEIGHBOUR: 'it returns false'. Refute it at one input. -/
def quorumMeetWrong : ChangeSpec := { name := "quorumMeet", fn := fun _ => fun
  | [d] => { results := [.lit (.bool false)], args := [d] }
  | _ => none }
def QuorumMeetWrongFalsely : Prop := quorumMeetRow.holds Try.pinned (OpenSpec.ofChange quorumMeetWrong)

/-- 'lecternlaw2.IntsNew': WHATEVER THE INPUT: true; the input reads as it did. -/
def intsNewSpec : ChangeSpec := { name := "intsNew", fn := fun _ => fun
  | [d] => { results := [.lit (.bool true)], args := [d] }
  | _ => none }
def intsNewRow : OpenClaim := { program := "ytfjndhlkdckieaa", sum := "43635178f09ed38368182bfc1deb933384949ae1d78f0d978c5a8f6daa0de207", func := "lectern/lecternlaw2.IntsNew", spec := "intsNew", apart := false }
def IntsNewSaid : Prop := intsNewRow.holds Try.pinned (OpenSpec.ofChange intsNewSpec)

/-- ITS FALSE NEIGHBOUR: 'it returns false'. Refute it at one input. -/
def intsNewWrong : ChangeSpec := { name := "intsNew", fn := fun _ => fun
  | [d] => { results := [.lit (.bool false)], args := [d] }
  | _ => none }
def IntsNewWrongFalsely : Prop := intsNewRow.holds Try.pinned (OpenSpec.ofChange intsNewWrong)

/-- 'lecternlaw2.IntsWidths': WHATEVER THE INPUT: true; the input reads as it did. -/
def intsWidthsSpec : ChangeSpec := { name := "intsWidths", fn := fun _ => fun
  | [d] => { results := [.lit (.bool true)], args := [d] }
  | _ => none }
def intsWidthsRow : OpenClaim := { program := "ytfjndhlkdckieaa", sum := "43635178f09ed38368182bfc1deb933384949ae1d78f0d978c5a8f6daa0de207", func := "lectern/lecternlaw2.IntsWidths", spec := "intsWidths", apart := false }
def IntsWidthsSaid : Prop := intsWidthsRow.holds Try.pinned (OpenSpec.ofChange intsWidthsSpec)

/-- ITS FALSE NEIGHBOUR: 'it returns false'. Refute it at one input. -/
def intsWidthsWrong : ChangeSpec := { name := "intsWidths", fn := fun _ => fun
  | [d] => { results := [.lit (.bool false)], args := [d] }
  | _ => none }
def IntsWidthsWrongFalsely : Prop := intsWidthsRow.holds Try.pinned (OpenSpec.ofChange intsWidthsWrong)

/-- 'lecternlaw2.IntsParse': WHATEVER THE INPUT: true; the input reads as it did. -/
def intsParseSpec : ChangeSpec := { name := "intsParse", fn := fun _ => fun
  | [d] => { results := [.lit (.bool true)], args := [d] }
  | _ => none }
def intsParseRow : OpenClaim := { program := "ytfjndhlkdckieaa", sum := "43635178f09ed38368182bfc1deb933384949ae1d78f0d978c5a8f6daa0de207", func := "lectern/lecternlaw2.IntsParse", spec := "intsParse", apart := false }
def IntsParseSaid : Prop := intsParseRow.holds Try.pinned (OpenSpec.ofChange intsParseSpec)

/-- ITS FALSE NEIGHBOUR: 'it returns false'. Refute it at one input. -/
def intsParseWrong : ChangeSpec := { name := "intsParse", fn := fun _ => fun
  | [d] => { results := [.lit (.bool false)], args := [d] }
  | _ => none }
def IntsParseWrongFalsely : Prop := intsParseRow.holds Try.pinned (OpenSpec.ofChange intsParseWrong)

/-- 'lecternlaw2.IntsBack': WHATEVER THE INPUT: true; the input reads as it did. -/
def intsBackSpec : ChangeSpec := { name := "intsBack", fn := fun _ => fun
  | [d] => { results := [.lit (.bool true)], args := [d] }
  | _ => none }
def intsBackRow : OpenClaim := { program := "ytfjndhlkdckieaa", sum := "43635178f09ed38368182bfc1deb933384949ae1d78f0d978c5a8f6daa0de207", func := "lectern/lecternlaw2.IntsBack", spec := "intsBack", apart := false }
def IntsBackSaid : Prop := intsBackRow.holds Try.pinned (OpenSpec.ofChange intsBackSpec)

/-- ITS FALSE NEIGHBOUR: 'it returns false'. Refute it at one input. -/
def intsBackWrong : ChangeSpec := { name := "intsBack", fn := fun _ => fun
  | [d] => { results := [.lit (.bool false)], args := [d] }
  | _ => none }
def IntsBackWrongFalsely : Prop := intsBackRow.holds Try.pinned (OpenSpec.ofChange intsBackWrong)

/-- 'lecternlaw12.TiersPlans': WHATEVER THE INPUT: true; the input reads as it did. -/
def tiersPlansSpec : ChangeSpec := { name := "tiersPlans", fn := fun _ => fun
  | [d] => { results := [.lit (.bool true)], args := [d] }
  | _ => none }
def tiersPlansRow : OpenClaim := { program := "ytfjndhlkdckieaa", sum := "43635178f09ed38368182bfc1deb933384949ae1d78f0d978c5a8f6daa0de207", func := "lectern/lecternlaw12.TiersPlans", spec := "tiersPlans", apart := false }
def TiersPlansSaid : Prop := tiersPlansRow.holds Try.pinned (OpenSpec.ofChange tiersPlansSpec)

/-- ITS FALSE NEIGHBOUR: 'it returns false'. Refute it at one input. -/
def tiersPlansWrong : ChangeSpec := { name := "tiersPlans", fn := fun _ => fun
  | [d] => { results := [.lit (.bool false)], args := [d] }
  | _ => none }
def TiersPlansWrongFalsely : Prop := tiersPlansRow.holds Try.pinned (OpenSpec.ofChange tiersPlansWrong)

/-- 'lecternlaw12.TiersClasses': WHATEVER THE INPUT: true; the input reads as it did. -/
def tiersClassesSpec : ChangeSpec := { name := "tiersClasses", fn := fun _ => fun
  | [d] => { results := [.lit (.bool true)], args := [d] }
  | _ => none }
def tiersClassesRow : OpenClaim := { program := "ytfjndhlkdckieaa", sum := "43635178f09ed38368182bfc1deb933384949ae1d78f0d978c5a8f6daa0de207", func := "lectern/lecternlaw12.TiersClasses", spec := "tiersClasses", apart := false }
def TiersClassesSaid : Prop := tiersClassesRow.holds Try.pinned (OpenSpec.ofChange tiersClassesSpec)

/-- ITS FALSE NEIGHBOUR: 'it returns false'. Refute it at one input. -/
def tiersClassesWrong : ChangeSpec := { name := "tiersClasses", fn := fun _ => fun
  | [d] => { results := [.lit (.bool false)], args := [d] }
  | _ => none }
def TiersClassesWrongFalsely : Prop := tiersClassesRow.holds Try.pinned (OpenSpec.ofChange tiersClassesWrong)

/-- 'lecternlaw18.DiskNames': WHATEVER THE INPUT: true; the input reads as it did. -/
def diskNamesSpec : ChangeSpec := { name := "diskNames", fn := fun _ => fun
  | [d] => { results := [.lit (.bool true)], args := [d] }
  | _ => none }
def diskNamesRow : OpenClaim := { program := "ytfjndhlkdckieaa", sum := "43635178f09ed38368182bfc1deb933384949ae1d78f0d978c5a8f6daa0de207", func := "lectern/lecternlaw18.DiskNames", spec := "diskNames", apart := false }
def DiskNamesSaid : Prop := diskNamesRow.holds Try.pinned (OpenSpec.ofChange diskNamesSpec)

/-- ITS FALSE NEIGHBOUR: 'it returns false'. Refute it at one input. -/
def diskNamesWrong : ChangeSpec := { name := "diskNames", fn := fun _ => fun
  | [d] => { results := [.lit (.bool false)], args := [d] }
  | _ => none }
def DiskNamesWrongFalsely : Prop := diskNamesRow.holds Try.pinned (OpenSpec.ofChange diskNamesWrong)

/-- 'lecternlaw17.ImageAny': WHATEVER THE INPUT: true; the input reads as it did. -/
def imageAnySpec : ChangeSpec := { name := "imageAny", fn := fun _ => fun
  | [d] => { results := [.lit (.bool true)], args := [d] }
  | _ => none }
def imageAnyRow : OpenClaim := { program := "ytfjndhlkdckieaa", sum := "43635178f09ed38368182bfc1deb933384949ae1d78f0d978c5a8f6daa0de207", func := "lectern/lecternlaw17.ImageAny", spec := "imageAny", apart := false }
def ImageAnySaid : Prop := imageAnyRow.holds Try.pinned (OpenSpec.ofChange imageAnySpec)

/-- ITS FALSE NEIGHBOUR: 'it returns false'. Refute it at one input. -/
def imageAnyWrong : ChangeSpec := { name := "imageAny", fn := fun _ => fun
  | [d] => { results := [.lit (.bool false)], args := [d] }
  | _ => none }
def ImageAnyWrongFalsely : Prop := imageAnyRow.holds Try.pinned (OpenSpec.ofChange imageAnyWrong)

/- THE SECOND FORM. 'bulk': how many values and letters a reading holds, each counted each time it is reached (what is shared counts as often as it is met; a slice's spare places count too). A statement '..UptoSaid' is the law's where the arguments, and the package variables that the reading takes, are together of bulk at most 1048576: NARROWER than '..Said'. Prove '..Said' where nothing that the law and all that it calls make is longer than what came in: it says more and counts as full. Else prove '..UptoSaid'. A law counts once. -/
mutual
def uptoBulk {H : Type} : DataW H → Nat
  | .lit (.string bytes) => bytes.length + 1
  | .lit _ => 1
  | .nil => 1
  | .ptr d => uptoBulk d + 1
  | .slice elems spare => uptoBulkAll elems + uptoBulkAll spare + 1
  | .agg parts => uptoBulkAll parts + 1
  | .iface _ d => uptoBulk d + 1
  | .map entries => uptoBulkEntries entries + 1
  | .held _ => 1
def uptoBulkAll {H : Type} : List (DataW H) → Nat
  | [] => 0
  | d :: r => uptoBulk d + uptoBulkAll r
def uptoBulkEntries {H : Type} : List (Lit × DataW H) → Nat
  | [] => 0
  | x :: r => uptoBulkEntry x + uptoBulkEntries r
def uptoBulkEntry {H : Type} : Lit × DataW H → Nat
  | (.string bytes, d) => bytes.length + uptoBulk d + 1
  | (_, d) => uptoBulk d + 1
 end
def uptoSmall : (H : Type) → List (DataW H) → Bool := fun _ ds => decide (uptoBulkAll ds ≤ 1048576)
def OpenSpec.upto (s : _root_.Go.ChangeSpec) : _root_.Go.OpenSpec := { _root_.Go.OpenSpec.ofChange s with cond := some uptoSmall }

/-- 'lecternlaw21.RandomExact', WHERE WHAT IT READS IS OF BULK AT MOST 1048576: true; the input reads as it did. -/
def randomExactUptoRow : OpenClaim := { program := "ytfjndhlkdckieaa", sum := "43635178f09ed38368182bfc1deb933384949ae1d78f0d978c5a8f6daa0de207", func := "lectern/lecternlaw21.RandomExact", spec := "randomExact", apart := false, narrowed := true }
def RandomExactUptoSaid : Prop := randomExactUptoRow.holds Try.pinned (OpenSpec.upto randomExactSpec)

/-- 'lecternlaw21.RandomRuns', WHERE WHAT IT READS IS OF BULK AT MOST 1048576: true; the input reads as it did. -/
def randomRunsUptoRow : OpenClaim := { program := "ytfjndhlkdckieaa", sum := "43635178f09ed38368182bfc1deb933384949ae1d78f0d978c5a8f6daa0de207", func := "lectern/lecternlaw21.RandomRuns", spec := "randomRuns", apart := false, narrowed := true }
def RandomRunsUptoSaid : Prop := randomRunsUptoRow.holds Try.pinned (OpenSpec.upto randomRunsSpec)

/-- 'lecternlaw21.RandomSpread', WHERE WHAT IT READS IS OF BULK AT MOST 1048576: true; the input reads as it did. -/
def randomSpreadUptoRow : OpenClaim := { program := "ytfjndhlkdckieaa", sum := "43635178f09ed38368182bfc1deb933384949ae1d78f0d978c5a8f6daa0de207", func := "lectern/lecternlaw21.RandomSpread", spec := "randomSpread", apart := false, narrowed := true }
def RandomSpreadUptoSaid : Prop := randomSpreadUptoRow.holds Try.pinned (OpenSpec.upto randomSpreadSpec)

/-- 'lecternlaw24.QuorumMeet', WHERE WHAT IT READS IS OF BULK AT MOST 1048576: true; the input reads as it did. -/
def quorumMeetUptoRow : OpenClaim := { program := "ytfjndhlkdckieaa", sum := "43635178f09ed38368182bfc1deb933384949ae1d78f0d978c5a8f6daa0de207", func := "lectern/lecternlaw24.QuorumMeet", spec := "quorumMeet", apart := false, narrowed := true }
def QuorumMeetUptoSaid : Prop := quorumMeetUptoRow.holds Try.pinned (OpenSpec.upto quorumMeetSpec)

/-- 'lecternlaw2.IntsNew', WHERE WHAT IT READS IS OF BULK AT MOST 1048576: true; the input reads as it did. -/
def intsNewUptoRow : OpenClaim := { program := "ytfjndhlkdckieaa", sum := "43635178f09ed38368182bfc1deb933384949ae1d78f0d978c5a8f6daa0de207", func := "lectern/lecternlaw2.IntsNew", spec := "intsNew", apart := false, narrowed := true }
def IntsNewUptoSaid : Prop := intsNewUptoRow.holds Try.pinned (OpenSpec.upto intsNewSpec)

/-- 'lecternlaw2.IntsWidths', WHERE WHAT IT READS IS OF BULK AT MOST 1048576: true; the input reads as it did. -/
def intsWidthsUptoRow : OpenClaim := { program := "ytfjndhlkdckieaa", sum := "43635178f09ed38368182bfc1deb933384949ae1d78f0d978c5a8f6daa0de207", func := "lectern/lecternlaw2.IntsWidths", spec := "intsWidths", apart := false, narrowed := true }
def IntsWidthsUptoSaid : Prop := intsWidthsUptoRow.holds Try.pinned (OpenSpec.upto intsWidthsSpec)

/-- 'lecternlaw2.IntsParse', WHERE WHAT IT READS IS OF BULK AT MOST 1048576: true; the input reads as it did. -/
def intsParseUptoRow : OpenClaim := { program := "ytfjndhlkdckieaa", sum := "43635178f09ed38368182bfc1deb933384949ae1d78f0d978c5a8f6daa0de207", func := "lectern/lecternlaw2.IntsParse", spec := "intsParse", apart := false, narrowed := true }
def IntsParseUptoSaid : Prop := intsParseUptoRow.holds Try.pinned (OpenSpec.upto intsParseSpec)

/-- 'lecternlaw2.IntsBack', WHERE WHAT IT READS IS OF BULK AT MOST 1048576: true; the input reads as it did. -/
def intsBackUptoRow : OpenClaim := { program := "ytfjndhlkdckieaa", sum := "43635178f09ed38368182bfc1deb933384949ae1d78f0d978c5a8f6daa0de207", func := "lectern/lecternlaw2.IntsBack", spec := "intsBack", apart := false, narrowed := true }
def IntsBackUptoSaid : Prop := intsBackUptoRow.holds Try.pinned (OpenSpec.upto intsBackSpec)

/-- 'lecternlaw12.TiersPlans', WHERE WHAT IT READS IS OF BULK AT MOST 1048576: true; the input reads as it did. -/
def tiersPlansUptoRow : OpenClaim := { program := "ytfjndhlkdckieaa", sum := "43635178f09ed38368182bfc1deb933384949ae1d78f0d978c5a8f6daa0de207", func := "lectern/lecternlaw12.TiersPlans", spec := "tiersPlans", apart := false, narrowed := true }
def TiersPlansUptoSaid : Prop := tiersPlansUptoRow.holds Try.pinned (OpenSpec.upto tiersPlansSpec)

/-- 'lecternlaw12.TiersClasses', WHERE WHAT IT READS IS OF BULK AT MOST 1048576: true; the input reads as it did. -/
def tiersClassesUptoRow : OpenClaim := { program := "ytfjndhlkdckieaa", sum := "43635178f09ed38368182bfc1deb933384949ae1d78f0d978c5a8f6daa0de207", func := "lectern/lecternlaw12.TiersClasses", spec := "tiersClasses", apart := false, narrowed := true }
def TiersClassesUptoSaid : Prop := tiersClassesUptoRow.holds Try.pinned (OpenSpec.upto tiersClassesSpec)

/-- 'lecternlaw18.DiskNames', WHERE WHAT IT READS IS OF BULK AT MOST 1048576: true; the input reads as it did. -/
def diskNamesUptoRow : OpenClaim := { program := "ytfjndhlkdckieaa", sum := "43635178f09ed38368182bfc1deb933384949ae1d78f0d978c5a8f6daa0de207", func := "lectern/lecternlaw18.DiskNames", spec := "diskNames", apart := false, narrowed := true }
def DiskNamesUptoSaid : Prop := diskNamesUptoRow.holds Try.pinned (OpenSpec.upto diskNamesSpec)

/-- 'lecternlaw17.ImageAny', WHERE WHAT IT READS IS OF BULK AT MOST 1048576: true; the input reads as it did. -/
def imageAnyUptoRow : OpenClaim := { program := "ytfjndhlkdckieaa", sum := "43635178f09ed38368182bfc1deb933384949ae1d78f0d978c5a8f6daa0de207", func := "lectern/lecternlaw17.ImageAny", spec := "imageAny", apart := false, narrowed := true }
def ImageAnyUptoSaid : Prop := imageAnyUptoRow.holds Try.pinned (OpenSpec.upto imageAnySpec)

end Rows
end Go.Proofs.Ytfjndhlkdckieaa
