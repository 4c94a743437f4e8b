/-
  No cell of these rows narrows 'for every input' (looked for: loops, veiled, ifaces, maps, wideKeys, modest, calm, conditions, laid).
  DERIVED. THE GIVEN ROWS OF THIS SEAT. 5 by the template 'for every input the law returns true; each argument reads behind the call as it read before'; 0 by the template 'total and deterministic' (their statements: YtoonepmnlgfikaaTotals.lean).
  GIVEN WITH THE SEED: the statements are not yours to turn. If you find one false, say at which input.
  Laid BY PROGRAM, IN A SANDBOX (cutbox-rows.mjs): the forced cells as the released guide's own fill.sh prints them over the translation ececff0642623bd7… (all of the seat's roots in one cut). By AI agents, Wed Nov 11 2026. No macro, syntax, notation, axiom, sorry.
-/
import Derived.Test.YtoonepmnlgfikaaChecked
import GoSem.Claim
import GoSem.ClaimJoined
import GoSem.ClaimMapViews
import Derived.JoinedTies
import Derived.KernelRfl
namespace Go.Proofs.Ytoonepmnlgfikaa
/- THE CELL 'sum', in the pinned program and in every row, IS THE sha256 OF THE DUMP (.gsa) THAT YtoonepmnlgfikaaProg.lean LOADS. Nothing in Lean hashes anything: it is a label: what it is worth is what the hold of that sum in a sandbox is worth. -/
noncomputable def Try.pinned : Pinned := { name := "ytoonepmnlgfikaa", sum := "ececff0642623bd795d029f0253d67c5c2bdde89ca0e66da538ebdcee98bb32c", checked := Try.checked }
namespace Rows
def none {H : Type} : Left H := { results := [], args := [] }

/-- 'lecternlaw18.DiskTorn': WHATEVER THE INPUT: true; the input reads as it did. -/
def diskTornSpec : ChangeSpec := { name := "diskTorn", fn := fun _ => fun
  | [d] => { results := [.lit (.bool true)], args := [d] }
  | _ => none }
def diskTornRow : OpenClaim := { program := "ytoonepmnlgfikaa", sum := "ececff0642623bd795d029f0253d67c5c2bdde89ca0e66da538ebdcee98bb32c", func := "lectern/lecternlaw18.DiskTorn", spec := "diskTorn", unfollowed := true, recurses := true, apart := false }
def DiskTornSaid : Prop := diskTornRow.holds Try.pinned (OpenSpec.ofChange diskTornSpec)

/-- ITS FALSE NEIGHBOUR: 'it returns false'. Refute it at one input. -/
def diskTornWrong : ChangeSpec := { name := "diskTorn", fn := fun _ => fun
  | [d] => { results := [.lit (.bool false)], args := [d] }
  | _ => none }
def DiskTornWrongFalsely : Prop := diskTornRow.holds Try.pinned (OpenSpec.ofChange diskTornWrong)

/-- 'lecternlaw18.DiskMoves': WHATEVER THE INPUT: true; the input reads as it did. -/
def diskMovesSpec : ChangeSpec := { name := "diskMoves", fn := fun _ => fun
  | [d] => { results := [.lit (.bool true)], args := [d] }
  | _ => none }
def diskMovesRow : OpenClaim := { program := "ytoonepmnlgfikaa", sum := "ececff0642623bd795d029f0253d67c5c2bdde89ca0e66da538ebdcee98bb32c", func := "lectern/lecternlaw18.DiskMoves", spec := "diskMoves", unfollowed := true, recurses := true, apart := false }
def DiskMovesSaid : Prop := diskMovesRow.holds Try.pinned (OpenSpec.ofChange diskMovesSpec)

/-- ITS FALSE NEIGHBOUR: 'it returns false'. Refute it at one input. -/
def diskMovesWrong : ChangeSpec := { name := "diskMoves", fn := fun _ => fun
  | [d] => { results := [.lit (.bool false)], args := [d] }
  | _ => none }
def DiskMovesWrongFalsely : Prop := diskMovesRow.holds Try.pinned (OpenSpec.ofChange diskMovesWrong)

/-- 'lecternlaw18.DiskSafe': WHATEVER THE INPUT: true; the input reads as it did. -/
def diskSafeSpec : ChangeSpec := { name := "diskSafe", fn := fun _ => fun
  | [d] => { results := [.lit (.bool true)], args := [d] }
  | _ => none }
def diskSafeRow : OpenClaim := { program := "ytoonepmnlgfikaa", sum := "ececff0642623bd795d029f0253d67c5c2bdde89ca0e66da538ebdcee98bb32c", func := "lectern/lecternlaw18.DiskSafe", spec := "diskSafe", unfollowed := true, recurses := true, apart := false }
def DiskSafeSaid : Prop := diskSafeRow.holds Try.pinned (OpenSpec.ofChange diskSafeSpec)

/-- ITS FALSE NEIGHBOUR: 'it returns false'. Refute it at one input. -/
def diskSafeWrong : ChangeSpec := { name := "diskSafe", fn := fun _ => fun
  | [d] => { results := [.lit (.bool false)], args := [d] }
  | _ => none }
def DiskSafeWrongFalsely : Prop := diskSafeRow.holds Try.pinned (OpenSpec.ofChange diskSafeWrong)

/-- 'lecternlaw20.SnapModel': WHATEVER THE INPUT: true; the input reads as it did. -/
def snapModelSpec : ChangeSpec := { name := "snapModel", fn := fun _ => fun
  | [d] => { results := [.lit (.bool true)], args := [d] }
  | _ => none }
def snapModelRow : OpenClaim := { program := "ytoonepmnlgfikaa", sum := "ececff0642623bd795d029f0253d67c5c2bdde89ca0e66da538ebdcee98bb32c", func := "lectern/lecternlaw20.SnapModel", spec := "snapModel", unfollowed := true, recurses := true, apart := false }
def SnapModelSaid : Prop := snapModelRow.holds Try.pinned (OpenSpec.ofChange snapModelSpec)

/-- ITS FALSE NEIGHBOUR: 'it returns false'. Refute it at one input. -/
def snapModelWrong : ChangeSpec := { name := "snapModel", fn := fun _ => fun
  | [d] => { results := [.lit (.bool false)], args := [d] }
  | _ => none }
def SnapModelWrongFalsely : Prop := snapModelRow.holds Try.pinned (OpenSpec.ofChange snapModelWrong)

/-- 'lecternlaw20.SnapVotes': WHATEVER THE INPUT: true; the input reads as it did. -/
def snapVotesSpec : ChangeSpec := { name := "snapVotes", fn := fun _ => fun
  | [d] => { results := [.lit (.bool true)], args := [d] }
  | _ => none }
def snapVotesRow : OpenClaim := { program := "ytoonepmnlgfikaa", sum := "ececff0642623bd795d029f0253d67c5c2bdde89ca0e66da538ebdcee98bb32c", func := "lectern/lecternlaw20.SnapVotes", spec := "snapVotes", unfollowed := true, recurses := true, apart := false }
def SnapVotesSaid : Prop := snapVotesRow.holds Try.pinned (OpenSpec.ofChange snapVotesSpec)

/-- ITS FALSE NEIGHBOUR: 'it returns false'. Refute it at one input. -/
def snapVotesWrong : ChangeSpec := { name := "snapVotes", fn := fun _ => fun
  | [d] => { results := [.lit (.bool false)], args := [d] }
  | _ => none }
def SnapVotesWrongFalsely : Prop := snapVotesRow.holds Try.pinned (OpenSpec.ofChange snapVotesWrong)

/- THE SECOND FORM. 'bulk': how many values and letters a reading holds, each counted each time it is reached (what is shared counts as often as it is met; a slice's spare places count too). A statement '..UptoSaid' is the law's where the arguments, and the package variables that the reading takes, are together of bulk at most 1048576: NARROWER than '..Said'. Prove '..Said' where nothing that the law and all that it calls make is longer than what came in: it says more and counts as full. Else prove '..UptoSaid'. A law counts once. -/
mutual
def uptoBulk {H : Type} : DataW H → Nat
  | .lit (.string bytes) => bytes.length + 1
  | .lit _ => 1
  | .nil => 1
  | .ptr d => uptoBulk d + 1
  | .slice elems spare => uptoBulkAll elems + uptoBulkAll spare + 1
  | .agg parts => uptoBulkAll parts + 1
  | .iface _ d => uptoBulk d + 1
  | .map entries => uptoBulkEntries entries + 1
  | .held _ => 1
def uptoBulkAll {H : Type} : List (DataW H) → Nat
  | [] => 0
  | d :: r => uptoBulk d + uptoBulkAll r
def uptoBulkEntries {H : Type} : List (Lit × DataW H) → Nat
  | [] => 0
  | x :: r => uptoBulkEntry x + uptoBulkEntries r
def uptoBulkEntry {H : Type} : Lit × DataW H → Nat
  | (.string bytes, d) => bytes.length + uptoBulk d + 1
  | (_, d) => uptoBulk d + 1
 end
def uptoSmall : (H : Type) → List (DataW H) → Bool := fun _ ds => decide (uptoBulkAll ds ≤ 1048576)
def OpenSpec.upto (s : _root_.Go.ChangeSpec) : _root_.Go.OpenSpec := { _root_.Go.OpenSpec.ofChange s with cond := some uptoSmall }

/-- 'lecternlaw18.DiskTorn', WHERE WHAT IT READS IS OF BULK AT MOST 1048576: true; the input reads as it did. -/
def diskTornUptoRow : OpenClaim := { program := "ytoonepmnlgfikaa", sum := "ececff0642623bd795d029f0253d67c5c2bdde89ca0e66da538ebdcee98bb32c", func := "lectern/lecternlaw18.DiskTorn", spec := "diskTorn", unfollowed := true, recurses := true, apart := false, narrowed := true }
def DiskTornUptoSaid : Prop := diskTornUptoRow.holds Try.pinned (OpenSpec.upto diskTornSpec)

/-- 'lecternlaw18.DiskMoves', WHERE WHAT IT READS IS OF BULK AT MOST 1048576: true; the input reads as it did. -/
def diskMovesUptoRow : OpenClaim := { program := "ytoonepmnlgfikaa", sum := "ececff0642623bd795d029f0253d67c5c2bdde89ca0e66da538ebdcee98bb32c", func := "lectern/lecternlaw18.DiskMoves", spec := "diskMoves", unfollowed := true, recurses := true, apart := false, narrowed := true }
def DiskMovesUptoSaid : Prop := diskMovesUptoRow.holds Try.pinned (OpenSpec.upto diskMovesSpec)

/-- 'lecternlaw18.DiskSafe', WHERE WHAT IT READS IS OF BULK AT MOST 1048576: true; the input reads as it did. -/
def diskSafeUptoRow : OpenClaim := { program := "ytoonepmnlgfikaa", sum := "ececff0642623bd795d029f0253d67c5c2bdde89ca0e66da538ebdcee98bb32c", func := "lectern/lecternlaw18.DiskSafe", spec := "diskSafe", unfollowed := true, recurses := true, apart := false, narrowed := true }
def DiskSafeUptoSaid : Prop := diskSafeUptoRow.holds Try.pinned (OpenSpec.upto diskSafeSpec)

/-- 'lecternlaw20.SnapModel', WHERE WHAT IT READS IS OF BULK AT MOST 1048576: true; the input reads as it did. -/
def snapModelUptoRow : OpenClaim := { program := "ytoonepmnlgfikaa", sum := "ececff0642623bd795d029f0253d67c5c2bdde89ca0e66da538ebdcee98bb32c", func := "lectern/lecternlaw20.SnapModel", spec := "snapModel", unfollowed := true, recurses := true, apart := false, narrowed := true }
def SnapModelUptoSaid : Prop := snapModelUptoRow.holds Try.pinned (OpenSpec.upto snapModelSpec)

/-- 'lecternlaw20.SnapVotes', WHERE WHAT IT READS IS OF BULK AT MOST 1048576: true; the input reads as it did. -/
def snapVotesUptoRow : OpenClaim := { program := "ytoonepmnlgfikaa", sum := "ececff0642623bd795d029f0253d67c5c2bdde89ca0e66da538ebdcee98bb32c", func := "lectern/lecternlaw20.SnapVotes", spec := "snapVotes", unfollowed := true, recurses := true, apart := false, narrowed := true }
def SnapVotesUptoSaid : Prop := snapVotesUptoRow.holds Try.pinned (OpenSpec.upto snapVotesSpec)

end Rows
end Go.Proofs.Ytoonepmnlgfikaa
