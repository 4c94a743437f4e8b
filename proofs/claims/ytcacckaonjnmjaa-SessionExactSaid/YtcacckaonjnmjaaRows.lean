/-
  No cell of these rows narrows 'for every input' (looked for: loops, veiled, ifaces, maps, wideKeys, modest, calm, conditions, laid).
  DERIVED. THE GIVEN ROWS OF THIS SEAT. 10 by the template 'for every input the law returns true; each argument reads behind the call as it read before'; 0 by the template 'total and deterministic' (their statements: YtcacckaonjnmjaaTotals.lean).
  GIVEN WITH THE SEED: the statements are not yours to turn. If you find one false, say at which input.
  Laid BY PROGRAM, IN A SANDBOX (cutbox-rows.mjs): the forced cells as the released guide's own fill.sh prints them over the translation 339c9b0319bfbb7a… (all of the seat's roots in one cut). By AI agents, Wed Nov 11 2026. No macro, syntax, notation, axiom, sorry.
-/
import Derived.Test.YtcacckaonjnmjaaChecked
import GoSem.Claim
import GoSem.ClaimJoined
import GoSem.ClaimMapViews
import Derived.JoinedTies
import Derived.KernelRfl
namespace Go.Proofs.Ytcacckaonjnmjaa
/- THE CELL 'sum', in the pinned program and in every row, IS THE sha256 OF THE DUMP (.gsa) THAT YtcacckaonjnmjaaProg.lean LOADS. Nothing in Lean hashes anything: it is a label: what it is worth is what the hold of that sum in a sandbox is worth. -/
noncomputable def Try.pinned : Pinned := { name := "ytcacckaonjnmjaa", sum := "339c9b0319bfbb7aeb202ac16d94b8a312a97b2440e1767a25c7a3928afcb3b0", checked := Try.checked }
namespace Rows
def none {H : Type} : Left H := { results := [], args := [] }

/-- 'lecternlaw14.SessionBegins': WHATEVER THE INPUT: true; the input reads as it did. -/
def sessionBeginsSpec : ChangeSpec := { name := "sessionBegins", fn := fun _ => fun
  | [d] => { results := [.lit (.bool true)], args := [d] }
  | _ => none }
def sessionBeginsRow : OpenClaim := { program := "ytcacckaonjnmjaa", sum := "339c9b0319bfbb7aeb202ac16d94b8a312a97b2440e1767a25c7a3928afcb3b0", func := "lectern/lecternlaw14.SessionBegins", spec := "sessionBegins", inPlace := ["slices.overlaps[lectern/api.Session]"], unfollowed := true, recurses := true, apart := false }
def SessionBeginsSaid : Prop := sessionBeginsRow.holds Try.pinned (OpenSpec.ofChange sessionBeginsSpec)

/-- ITS FALSE NEIGHBOUR: 'it returns false'. Refute it at one input. -/
def sessionBeginsWrong : ChangeSpec := { name := "sessionBegins", fn := fun _ => fun
  | [d] => { results := [.lit (.bool false)], args := [d] }
  | _ => none }
def SessionBeginsWrongFalsely : Prop := sessionBeginsRow.holds Try.pinned (OpenSpec.ofChange sessionBeginsWrong)

/-- 'lecternlaw14.SessionOpens': WHATEVER THE INPUT: true; the input reads as it did. -/
def sessionOpensSpec : ChangeSpec := { name := "sessionOpens", fn := fun _ => fun
  | [d] => { results := [.lit (.bool true)], args := [d] }
  | _ => none }
def sessionOpensRow : OpenClaim := { program := "ytcacckaonjnmjaa", sum := "339c9b0319bfbb7aeb202ac16d94b8a312a97b2440e1767a25c7a3928afcb3b0", func := "lectern/lecternlaw14.SessionOpens", spec := "sessionOpens", inPlace := ["slices.overlaps[lectern/api.Session]"], unfollowed := true, recurses := true, apart := false }
def SessionOpensSaid : Prop := sessionOpensRow.holds Try.pinned (OpenSpec.ofChange sessionOpensSpec)

/-- ITS FALSE NEIGHBOUR: 'it returns false'. Refute it at one input. -/
def sessionOpensWrong : ChangeSpec := { name := "sessionOpens", fn := fun _ => fun
  | [d] => { results := [.lit (.bool false)], args := [d] }
  | _ => none }
def SessionOpensWrongFalsely : Prop := sessionOpensRow.holds Try.pinned (OpenSpec.ofChange sessionOpensWrong)

/-- 'lecternlaw14.SessionDones': WHATEVER THE INPUT: true; the input reads as it did. -/
def sessionDonesSpec : ChangeSpec := { name := "sessionDones", fn := fun _ => fun
  | [d] => { results := [.lit (.bool true)], args := [d] }
  | _ => none }
def sessionDonesRow : OpenClaim := { program := "ytcacckaonjnmjaa", sum := "339c9b0319bfbb7aeb202ac16d94b8a312a97b2440e1767a25c7a3928afcb3b0", func := "lectern/lecternlaw14.SessionDones", spec := "sessionDones", inPlace := ["slices.overlaps[lectern/api.Session]"], unfollowed := true, recurses := true, apart := false }
def SessionDonesSaid : Prop := sessionDonesRow.holds Try.pinned (OpenSpec.ofChange sessionDonesSpec)

/-- ITS FALSE NEIGHBOUR: 'it returns false'. Refute it at one input. -/
def sessionDonesWrong : ChangeSpec := { name := "sessionDones", fn := fun _ => fun
  | [d] => { results := [.lit (.bool false)], args := [d] }
  | _ => none }
def SessionDonesWrongFalsely : Prop := sessionDonesRow.holds Try.pinned (OpenSpec.ofChange sessionDonesWrong)

/-- 'lecternlaw14.SessionCloses': WHATEVER THE INPUT: true; the input reads as it did. -/
def sessionClosesSpec : ChangeSpec := { name := "sessionCloses", fn := fun _ => fun
  | [d] => { results := [.lit (.bool true)], args := [d] }
  | _ => none }
def sessionClosesRow : OpenClaim := { program := "ytcacckaonjnmjaa", sum := "339c9b0319bfbb7aeb202ac16d94b8a312a97b2440e1767a25c7a3928afcb3b0", func := "lectern/lecternlaw14.SessionCloses", spec := "sessionCloses", inPlace := ["slices.overlaps[lectern/api.Session]"], unfollowed := true, recurses := true, apart := false }
def SessionClosesSaid : Prop := sessionClosesRow.holds Try.pinned (OpenSpec.ofChange sessionClosesSpec)

/-- ITS FALSE NEIGHBOUR: 'it returns false'. Refute it at one input. -/
def sessionClosesWrong : ChangeSpec := { name := "sessionCloses", fn := fun _ => fun
  | [d] => { results := [.lit (.bool false)], args := [d] }
  | _ => none }
def SessionClosesWrongFalsely : Prop := sessionClosesRow.holds Try.pinned (OpenSpec.ofChange sessionClosesWrong)

/-- 'lecternlaw14.SessionOnce': WHATEVER THE INPUT: true; the input reads as it did. -/
def sessionOnceSpec : ChangeSpec := { name := "sessionOnce", fn := fun _ => fun
  | [d] => { results := [.lit (.bool true)], args := [d] }
  | _ => none }
def sessionOnceRow : OpenClaim := { program := "ytcacckaonjnmjaa", sum := "339c9b0319bfbb7aeb202ac16d94b8a312a97b2440e1767a25c7a3928afcb3b0", func := "lectern/lecternlaw14.SessionOnce", spec := "sessionOnce", inPlace := ["slices.overlaps[lectern/api.Session]"], unfollowed := true, recurses := true, apart := false }
def SessionOnceSaid : Prop := sessionOnceRow.holds Try.pinned (OpenSpec.ofChange sessionOnceSpec)

/-- ITS FALSE NEIGHBOUR: 'it returns false'. Refute it at one input. -/
def sessionOnceWrong : ChangeSpec := { name := "sessionOnce", fn := fun _ => fun
  | [d] => { results := [.lit (.bool false)], args := [d] }
  | _ => none }
def SessionOnceWrongFalsely : Prop := sessionOnceRow.holds Try.pinned (OpenSpec.ofChange sessionOnceWrong)

/-- 'lecternlaw14.SessionExact': WHATEVER THE INPUT: true; the input reads as it did. -/
def sessionExactSpec : ChangeSpec := { name := "sessionExact", fn := fun _ => fun
  | [d] => { results := [.lit (.bool true)], args := [d] }
  | _ => none }
def sessionExactRow : OpenClaim := { program := "ytcacckaonjnmjaa", sum := "339c9b0319bfbb7aeb202ac16d94b8a312a97b2440e1767a25c7a3928afcb3b0", func := "lectern/lecternlaw14.SessionExact", spec := "sessionExact", inPlace := ["slices.overlaps[lectern/api.Session]"], unfollowed := true, recurses := true, apart := false }
def SessionExactSaid : Prop := sessionExactRow.holds Try.pinned (OpenSpec.ofChange sessionExactSpec)

/-- ITS FALSE NEIGHBOUR: 'it returns false'. Refute it at one input. -/
def sessionExactWrong : ChangeSpec := { name := "sessionExact", fn := fun _ => fun
  | [d] => { results := [.lit (.bool false)], args := [d] }
  | _ => none }
def SessionExactWrongFalsely : Prop := sessionExactRow.holds Try.pinned (OpenSpec.ofChange sessionExactWrong)

/-- 'lecternlaw12.TiersMerges': WHATEVER THE INPUT: true; the input reads as it did. -/
def tiersMergesSpec : ChangeSpec := { name := "tiersMerges", fn := fun _ => fun
  | [d] => { results := [.lit (.bool true)], args := [d] }
  | _ => none }
def tiersMergesRow : OpenClaim := { program := "ytcacckaonjnmjaa", sum := "339c9b0319bfbb7aeb202ac16d94b8a312a97b2440e1767a25c7a3928afcb3b0", func := "lectern/lecternlaw12.TiersMerges", spec := "tiersMerges", inPlace := ["internal/bytealg.abigen_runtime_cmpstring"], unfollowed := true, recurses := true, apart := false }
def TiersMergesSaid : Prop := tiersMergesRow.holds Try.pinned (OpenSpec.ofChange tiersMergesSpec)

/-- ITS FALSE NEIGHBOUR: 'it returns false'. Refute it at one input. -/
def tiersMergesWrong : ChangeSpec := { name := "tiersMerges", fn := fun _ => fun
  | [d] => { results := [.lit (.bool false)], args := [d] }
  | _ => none }
def TiersMergesWrongFalsely : Prop := tiersMergesRow.holds Try.pinned (OpenSpec.ofChange tiersMergesWrong)

/-- 'lecternlaw12.TiersOrders': WHATEVER THE INPUT: true; the input reads as it did. -/
def tiersOrdersSpec : ChangeSpec := { name := "tiersOrders", fn := fun _ => fun
  | [d] => { results := [.lit (.bool true)], args := [d] }
  | _ => none }
def tiersOrdersRow : OpenClaim := { program := "ytcacckaonjnmjaa", sum := "339c9b0319bfbb7aeb202ac16d94b8a312a97b2440e1767a25c7a3928afcb3b0", func := "lectern/lecternlaw12.TiersOrders", spec := "tiersOrders", inPlace := ["internal/bytealg.abigen_runtime_cmpstring"], unfollowed := true, recurses := true, apart := false }
def TiersOrdersSaid : Prop := tiersOrdersRow.holds Try.pinned (OpenSpec.ofChange tiersOrdersSpec)

/-- ITS FALSE NEIGHBOUR: 'it returns false'. Refute it at one input. -/
def tiersOrdersWrong : ChangeSpec := { name := "tiersOrders", fn := fun _ => fun
  | [d] => { results := [.lit (.bool false)], args := [d] }
  | _ => none }
def TiersOrdersWrongFalsely : Prop := tiersOrdersRow.holds Try.pinned (OpenSpec.ofChange tiersOrdersWrong)

/-- 'lecternlaw24.QuorumExact': WHATEVER THE INPUT: true; the input reads as it did. -/
def quorumExactSpec : ChangeSpec := { name := "quorumExact", fn := fun _ => fun
  | [d] => { results := [.lit (.bool true)], args := [d] }
  | _ => none }
def quorumExactRow : OpenClaim := { program := "ytcacckaonjnmjaa", sum := "339c9b0319bfbb7aeb202ac16d94b8a312a97b2440e1767a25c7a3928afcb3b0", func := "lectern/lecternlaw24.QuorumExact", spec := "quorumExact", unfollowed := true, recurses := true, apart := false }
def QuorumExactSaid : Prop := quorumExactRow.holds Try.pinned (OpenSpec.ofChange quorumExactSpec)

/-- ITS FALSE NEIGHBOUR: 'it returns false'. Refute it at one input. -/
def quorumExactWrong : ChangeSpec := { name := "quorumExact", fn := fun _ => fun
  | [d] => { results := [.lit (.bool false)], args := [d] }
  | _ => none }
def QuorumExactWrongFalsely : Prop := quorumExactRow.holds Try.pinned (OpenSpec.ofChange quorumExactWrong)

/-- 'lecternlaw24.QuorumMatch': WHATEVER THE INPUT: true; the input reads as it did. -/
def quorumMatchSpec : ChangeSpec := { name := "quorumMatch", fn := fun _ => fun
  | [d] => { results := [.lit (.bool true)], args := [d] }
  | _ => none }
def quorumMatchRow : OpenClaim := { program := "ytcacckaonjnmjaa", sum := "339c9b0319bfbb7aeb202ac16d94b8a312a97b2440e1767a25c7a3928afcb3b0", func := "lectern/lecternlaw24.QuorumMatch", spec := "quorumMatch", unfollowed := true, recurses := true, apart := false }
def QuorumMatchSaid : Prop := quorumMatchRow.holds Try.pinned (OpenSpec.ofChange quorumMatchSpec)

/-- ITS FALSE NEIGHBOUR: 'it returns false'. Refute it at one input. -/
def quorumMatchWrong : ChangeSpec := { name := "quorumMatch", fn := fun _ => fun
  | [d] => { results := [.lit (.bool false)], args := [d] }
  | _ => none }
def QuorumMatchWrongFalsely : Prop := quorumMatchRow.holds Try.pinned (OpenSpec.ofChange quorumMatchWrong)

/- THE SECOND FORM. 'bulk': how many values and letters a reading holds, each counted each time it is reached (what is shared counts as often as it is met; a slice's spare places count too). A statement '..UptoSaid' is the law's where the arguments, and the package variables that the reading takes, are together of bulk at most 1048576: NARROWER than '..Said'. Prove '..Said' where nothing that the law and all that it calls make is longer than what came in: it says more and counts as full. Else prove '..UptoSaid'. A law counts once. -/
mutual
def uptoBulk {H : Type} : DataW H → Nat
  | .lit (.string bytes) => bytes.length + 1
  | .lit _ => 1
  | .nil => 1
  | .ptr d => uptoBulk d + 1
  | .slice elems spare => uptoBulkAll elems + uptoBulkAll spare + 1
  | .agg parts => uptoBulkAll parts + 1
  | .iface _ d => uptoBulk d + 1
  | .map entries => uptoBulkEntries entries + 1
  | .held _ => 1
def uptoBulkAll {H : Type} : List (DataW H) → Nat
  | [] => 0
  | d :: r => uptoBulk d + uptoBulkAll r
def uptoBulkEntries {H : Type} : List (Lit × DataW H) → Nat
  | [] => 0
  | x :: r => uptoBulkEntry x + uptoBulkEntries r
def uptoBulkEntry {H : Type} : Lit × DataW H → Nat
  | (.string bytes, d) => bytes.length + uptoBulk d + 1
  | (_, d) => uptoBulk d + 1
 end
def uptoSmall : (H : Type) → List (DataW H) → Bool := fun _ ds => decide (uptoBulkAll ds ≤ 1048576)
def OpenSpec.upto (s : _root_.Go.ChangeSpec) : _root_.Go.OpenSpec := { _root_.Go.OpenSpec.ofChange s with cond := some uptoSmall }

/-- 'lecternlaw14.SessionBegins', WHERE WHAT IT READS IS OF BULK AT MOST 1048576: true; the input reads as it did. -/
def sessionBeginsUptoRow : OpenClaim := { program := "ytcacckaonjnmjaa", sum := "339c9b0319bfbb7aeb202ac16d94b8a312a97b2440e1767a25c7a3928afcb3b0", func := "lectern/lecternlaw14.SessionBegins", spec := "sessionBegins", inPlace := ["slices.overlaps[lectern/api.Session]"], unfollowed := true, recurses := true, apart := false, narrowed := true }
def SessionBeginsUptoSaid : Prop := sessionBeginsUptoRow.holds Try.pinned (OpenSpec.upto sessionBeginsSpec)

/-- 'lecternlaw14.SessionOpens', WHERE WHAT IT READS IS OF BULK AT MOST 1048576: true; the input reads as it did. -/
def sessionOpensUptoRow : OpenClaim := { program := "ytcacckaonjnmjaa", sum := "339c9b0319bfbb7aeb202ac16d94b8a312a97b2440e1767a25c7a3928afcb3b0", func := "lectern/lecternlaw14.SessionOpens", spec := "sessionOpens", inPlace := ["slices.overlaps[lectern/api.Session]"], unfollowed := true, recurses := true, apart := false, narrowed := true }
def SessionOpensUptoSaid : Prop := sessionOpensUptoRow.holds Try.pinned (OpenSpec.upto sessionOpensSpec)

/-- 'lecternlaw14.SessionDones', WHERE WHAT IT READS IS OF BULK AT MOST 1048576: true; the input reads as it did. -/
def sessionDonesUptoRow : OpenClaim := { program := "ytcacckaonjnmjaa", sum := "339c9b0319bfbb7aeb202ac16d94b8a312a97b2440e1767a25c7a3928afcb3b0", func := "lectern/lecternlaw14.SessionDones", spec := "sessionDones", inPlace := ["slices.overlaps[lectern/api.Session]"], unfollowed := true, recurses := true, apart := false, narrowed := true }
def SessionDonesUptoSaid : Prop := sessionDonesUptoRow.holds Try.pinned (OpenSpec.upto sessionDonesSpec)

/-- 'lecternlaw14.SessionCloses', WHERE WHAT IT READS IS OF BULK AT MOST 1048576: true; the input reads as it did. -/
def sessionClosesUptoRow : OpenClaim := { program := "ytcacckaonjnmjaa", sum := "339c9b0319bfbb7aeb202ac16d94b8a312a97b2440e1767a25c7a3928afcb3b0", func := "lectern/lecternlaw14.SessionCloses", spec := "sessionCloses", inPlace := ["slices.overlaps[lectern/api.Session]"], unfollowed := true, recurses := true, apart := false, narrowed := true }
def SessionClosesUptoSaid : Prop := sessionClosesUptoRow.holds Try.pinned (OpenSpec.upto sessionClosesSpec)

/-- 'lecternlaw14.SessionOnce', WHERE WHAT IT READS IS OF BULK AT MOST 1048576: true; the input reads as it did. -/
def sessionOnceUptoRow : OpenClaim := { program := "ytcacckaonjnmjaa", sum := "339c9b0319bfbb7aeb202ac16d94b8a312a97b2440e1767a25c7a3928afcb3b0", func := "lectern/lecternlaw14.SessionOnce", spec := "sessionOnce", inPlace := ["slices.overlaps[lectern/api.Session]"], unfollowed := true, recurses := true, apart := false, narrowed := true }
def SessionOnceUptoSaid : Prop := sessionOnceUptoRow.holds Try.pinned (OpenSpec.upto sessionOnceSpec)

/-- 'lecternlaw14.SessionExact', WHERE WHAT IT READS IS OF BULK AT MOST 1048576: true; the input reads as it did. -/
def sessionExactUptoRow : OpenClaim := { program := "ytcacckaonjnmjaa", sum := "339c9b0319bfbb7aeb202ac16d94b8a312a97b2440e1767a25c7a3928afcb3b0", func := "lectern/lecternlaw14.SessionExact", spec := "sessionExact", inPlace := ["slices.overlaps[lectern/api.Session]"], unfollowed := true, recurses := true, apart := false, narrowed := true }
def SessionExactUptoSaid : Prop := sessionExactUptoRow.holds Try.pinned (OpenSpec.upto sessionExactSpec)

/-- 'lecternlaw12.TiersMerges', WHERE WHAT IT READS IS OF BULK AT MOST 1048576: true; the input reads as it did. -/
def tiersMergesUptoRow : OpenClaim := { program := "ytcacckaonjnmjaa", sum := "339c9b0319bfbb7aeb202ac16d94b8a312a97b2440e1767a25c7a3928afcb3b0", func := "lectern/lecternlaw12.TiersMerges", spec := "tiersMerges", inPlace := ["internal/bytealg.abigen_runtime_cmpstring"], unfollowed := true, recurses := true, apart := false, narrowed := true }
def TiersMergesUptoSaid : Prop := tiersMergesUptoRow.holds Try.pinned (OpenSpec.upto tiersMergesSpec)

/-- 'lecternlaw12.TiersOrders', WHERE WHAT IT READS IS OF BULK AT MOST 1048576: true; the input reads as it did. -/
def tiersOrdersUptoRow : OpenClaim := { program := "ytcacckaonjnmjaa", sum := "339c9b0319bfbb7aeb202ac16d94b8a312a97b2440e1767a25c7a3928afcb3b0", func := "lectern/lecternlaw12.TiersOrders", spec := "tiersOrders", inPlace := ["internal/bytealg.abigen_runtime_cmpstring"], unfollowed := true, recurses := true, apart := false, narrowed := true }
def TiersOrdersUptoSaid : Prop := tiersOrdersUptoRow.holds Try.pinned (OpenSpec.upto tiersOrdersSpec)

/-- 'lecternlaw24.QuorumExact', WHERE WHAT IT READS IS OF BULK AT MOST 1048576: true; the input reads as it did. -/
def quorumExactUptoRow : OpenClaim := { program := "ytcacckaonjnmjaa", sum := "339c9b0319bfbb7aeb202ac16d94b8a312a97b2440e1767a25c7a3928afcb3b0", func := "lectern/lecternlaw24.QuorumExact", spec := "quorumExact", unfollowed := true, recurses := true, apart := false, narrowed := true }
def QuorumExactUptoSaid : Prop := quorumExactUptoRow.holds Try.pinned (OpenSpec.upto quorumExactSpec)

/-- 'lecternlaw24.QuorumMatch', WHERE WHAT IT READS IS OF BULK AT MOST 1048576: true; the input reads as it did. -/
def quorumMatchUptoRow : OpenClaim := { program := "ytcacckaonjnmjaa", sum := "339c9b0319bfbb7aeb202ac16d94b8a312a97b2440e1767a25c7a3928afcb3b0", func := "lectern/lecternlaw24.QuorumMatch", spec := "quorumMatch", unfollowed := true, recurses := true, apart := false, narrowed := true }
def QuorumMatchUptoSaid : Prop := quorumMatchUptoRow.holds Try.pinned (OpenSpec.upto quorumMatchSpec)

end Rows
end Go.Proofs.Ytcacckaonjnmjaa
