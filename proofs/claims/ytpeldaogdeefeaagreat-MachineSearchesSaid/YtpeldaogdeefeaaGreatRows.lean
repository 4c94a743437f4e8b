/-
  No cell of these rows narrows 'for every input' (looked for: loops, veiled, ifaces, maps, wideKeys, modest, calm, conditions, laid).
  DERIVED. THE GIVEN ROWS OF THIS SEAT. 16 by the template 'for every input the law returns true; each argument reads behind the call as it read before'; 0 by the template 'total and deterministic' (their statements: YtpeldaogdeefeaaGreatTotals.lean).
  GIVEN WITH THE SEED: the statements are not yours to turn. If you find one false, say at which input.
  Laid BY PROGRAM, IN A SANDBOX (cutbox-rows.mjs): the forced cells as the released guide's own fill.sh prints them over the translation edcc9c52ffa18eb9… (all of the seat's roots in one cut). By AI agents, Wed Nov 11 2026. No macro, syntax, notation, axiom, sorry.
-/
import Derived.Test.YtpeldaogdeefeaaGreatChecked
import GoSem.Claim
import GoSem.ClaimJoined
import GoSem.ClaimMapViews
import Derived.JoinedTies
import Derived.KernelRfl
namespace Go.Proofs.YtpeldaogdeefeaaGreat
/- THE CELL 'sum', in the pinned program and in every row, IS THE sha256 OF THE DUMP (.gsa) THAT YtpeldaogdeefeaaGreatProg.lean LOADS. Nothing in Lean hashes anything: it is a label: what it is worth is what the hold of that sum in a sandbox is worth. -/
noncomputable def Tryz.pinned : Pinned := { name := "ytpeldaogdeefeaagreat", sum := "edcc9c52ffa18eb91d1b9a7612ce995336983cf1c095a0993037e15264efce49", checked := Tryz.checked }
namespace Rows
def none {H : Type} : Left H := { results := [], args := [] }

/-- 'lecternlaw13.ShelfAdds': WHATEVER THE INPUT: true; the input reads as it did. -/
def shelfAddsSpec : ChangeSpec := { name := "shelfAdds", fn := fun _ => fun
  | [d] => { results := [.lit (.bool true)], args := [d] }
  | _ => none }
def shelfAddsRow : OpenClaim := { program := "ytpeldaogdeefeaagreat", sum := "edcc9c52ffa18eb91d1b9a7612ce995336983cf1c095a0993037e15264efce49", func := "lectern/lecternlaw13.ShelfAdds", spec := "shelfAdds", inPlace := ["internal/bytealg.IndexByteString", "internal/bytealg.IndexString", "internal/bytealg.abigen_runtime_cmpstring"], unfollowed := true, recurses := true, named := ["internal/bytealg.MaxLen"], apart := false }
def ShelfAddsSaid : Prop := shelfAddsRow.holds Tryz.pinned (OpenSpec.ofChange shelfAddsSpec)

/-- ITS FALSE NEIGHBOUR: 'it returns false'. Refute it at one input. -/
def shelfAddsWrong : ChangeSpec := { name := "shelfAdds", fn := fun _ => fun
  | [d] => { results := [.lit (.bool false)], args := [d] }
  | _ => none }
def ShelfAddsWrongFalsely : Prop := shelfAddsRow.holds Tryz.pinned (OpenSpec.ofChange shelfAddsWrong)

/-- 'lecternlaw13.ShelfCounts': WHATEVER THE INPUT: true; the input reads as it did. -/
def shelfCountsSpec : ChangeSpec := { name := "shelfCounts", fn := fun _ => fun
  | [d] => { results := [.lit (.bool true)], args := [d] }
  | _ => none }
def shelfCountsRow : OpenClaim := { program := "ytpeldaogdeefeaagreat", sum := "edcc9c52ffa18eb91d1b9a7612ce995336983cf1c095a0993037e15264efce49", func := "lectern/lecternlaw13.ShelfCounts", spec := "shelfCounts", inPlace := ["internal/bytealg.IndexByteString", "internal/bytealg.IndexString", "internal/bytealg.abigen_runtime_cmpstring", "slices.overlaps[*lectern/shelf.part]", "internal/abi.NoEscape"], unfollowed := true, recurses := true, named := ["internal/bytealg.MaxLen"], apart := false }
def ShelfCountsSaid : Prop := shelfCountsRow.holds Tryz.pinned (OpenSpec.ofChange shelfCountsSpec)

/-- ITS FALSE NEIGHBOUR: 'it returns false'. Refute it at one input. -/
def shelfCountsWrong : ChangeSpec := { name := "shelfCounts", fn := fun _ => fun
  | [d] => { results := [.lit (.bool false)], args := [d] }
  | _ => none }
def ShelfCountsWrongFalsely : Prop := shelfCountsRow.holds Tryz.pinned (OpenSpec.ofChange shelfCountsWrong)

/-- 'lecternlaw13.ShelfDeletes': WHATEVER THE INPUT: true; the input reads as it did. -/
def shelfDeletesSpec : ChangeSpec := { name := "shelfDeletes", fn := fun _ => fun
  | [d] => { results := [.lit (.bool true)], args := [d] }
  | _ => none }
def shelfDeletesRow : OpenClaim := { program := "ytpeldaogdeefeaagreat", sum := "edcc9c52ffa18eb91d1b9a7612ce995336983cf1c095a0993037e15264efce49", func := "lectern/lecternlaw13.ShelfDeletes", spec := "shelfDeletes", inPlace := ["slices.overlaps[*lectern/shelf.part]", "internal/abi.NoEscape", "internal/bytealg.IndexByteString", "internal/bytealg.IndexString", "internal/bytealg.abigen_runtime_cmpstring"], unfollowed := true, recurses := true, named := ["internal/bytealg.MaxLen"], apart := false }
def ShelfDeletesSaid : Prop := shelfDeletesRow.holds Tryz.pinned (OpenSpec.ofChange shelfDeletesSpec)

/-- ITS FALSE NEIGHBOUR: 'it returns false'. Refute it at one input. -/
def shelfDeletesWrong : ChangeSpec := { name := "shelfDeletes", fn := fun _ => fun
  | [d] => { results := [.lit (.bool false)], args := [d] }
  | _ => none }
def ShelfDeletesWrongFalsely : Prop := shelfDeletesRow.holds Tryz.pinned (OpenSpec.ofChange shelfDeletesWrong)

/-- 'lecternlaw13.ShelfSearches': WHATEVER THE INPUT: true; the input reads as it did. -/
def shelfSearchesSpec : ChangeSpec := { name := "shelfSearches", fn := fun _ => fun
  | [d] => { results := [.lit (.bool true)], args := [d] }
  | _ => none }
def shelfSearchesRow : OpenClaim := { program := "ytpeldaogdeefeaagreat", sum := "edcc9c52ffa18eb91d1b9a7612ce995336983cf1c095a0993037e15264efce49", func := "lectern/lecternlaw13.ShelfSearches", spec := "shelfSearches", inPlace := ["internal/bytealg.IndexByteString", "internal/bytealg.IndexString", "internal/bytealg.abigen_runtime_cmpstring", "slices.overlaps[*lectern/shelf.part]", "internal/abi.NoEscape"], unfollowed := true, recurses := true, named := ["internal/bytealg.MaxLen"], apart := false }
def ShelfSearchesSaid : Prop := shelfSearchesRow.holds Tryz.pinned (OpenSpec.ofChange shelfSearchesSpec)

/-- ITS FALSE NEIGHBOUR: 'it returns false'. Refute it at one input. -/
def shelfSearchesWrong : ChangeSpec := { name := "shelfSearches", fn := fun _ => fun
  | [d] => { results := [.lit (.bool false)], args := [d] }
  | _ => none }
def ShelfSearchesWrongFalsely : Prop := shelfSearchesRow.holds Tryz.pinned (OpenSpec.ofChange shelfSearchesWrong)

/-- 'lecternlaw13.ShelfTiers': WHATEVER THE INPUT: true; the input reads as it did. -/
def shelfTiersSpec : ChangeSpec := { name := "shelfTiers", fn := fun _ => fun
  | [d] => { results := [.lit (.bool true)], args := [d] }
  | _ => none }
def shelfTiersRow : OpenClaim := { program := "ytpeldaogdeefeaagreat", sum := "edcc9c52ffa18eb91d1b9a7612ce995336983cf1c095a0993037e15264efce49", func := "lectern/lecternlaw13.ShelfTiers", spec := "shelfTiers", inPlace := ["slices.overlaps[*lectern/shelf.part]", "internal/abi.NoEscape", "internal/bytealg.abigen_runtime_cmpstring", "internal/bytealg.IndexByteString", "internal/bytealg.IndexString"], unfollowed := true, recurses := true, named := ["internal/bytealg.MaxLen"], apart := false }
def ShelfTiersSaid : Prop := shelfTiersRow.holds Tryz.pinned (OpenSpec.ofChange shelfTiersSpec)

/-- ITS FALSE NEIGHBOUR: 'it returns false'. Refute it at one input. -/
def shelfTiersWrong : ChangeSpec := { name := "shelfTiers", fn := fun _ => fun
  | [d] => { results := [.lit (.bool false)], args := [d] }
  | _ => none }
def ShelfTiersWrongFalsely : Prop := shelfTiersRow.holds Tryz.pinned (OpenSpec.ofChange shelfTiersWrong)

/-- 'lecternlaw13.ShelfExact': WHATEVER THE INPUT: true; the input reads as it did. -/
def shelfExactSpec : ChangeSpec := { name := "shelfExact", fn := fun _ => fun
  | [d] => { results := [.lit (.bool true)], args := [d] }
  | _ => none }
def shelfExactRow : OpenClaim := { program := "ytpeldaogdeefeaagreat", sum := "edcc9c52ffa18eb91d1b9a7612ce995336983cf1c095a0993037e15264efce49", func := "lectern/lecternlaw13.ShelfExact", spec := "shelfExact", inPlace := ["internal/bytealg.IndexByteString", "internal/bytealg.IndexString", "internal/bytealg.abigen_runtime_cmpstring", "internal/abi.NoEscape", "slices.overlaps[*lectern/shelf.part]"], unfollowed := true, recurses := true, named := ["internal/bytealg.MaxLen"], apart := false }
def ShelfExactSaid : Prop := shelfExactRow.holds Tryz.pinned (OpenSpec.ofChange shelfExactSpec)

/-- ITS FALSE NEIGHBOUR: 'it returns false'. Refute it at one input. -/
def shelfExactWrong : ChangeSpec := { name := "shelfExact", fn := fun _ => fun
  | [d] => { results := [.lit (.bool false)], args := [d] }
  | _ => none }
def ShelfExactWrongFalsely : Prop := shelfExactRow.holds Tryz.pinned (OpenSpec.ofChange shelfExactWrong)

/-- 'lecternlaw13.ShelfSame': WHATEVER THE INPUT: true; the input reads as it did. -/
def shelfSameSpec : ChangeSpec := { name := "shelfSame", fn := fun _ => fun
  | [d] => { results := [.lit (.bool true)], args := [d] }
  | _ => none }
def shelfSameRow : OpenClaim := { program := "ytpeldaogdeefeaagreat", sum := "edcc9c52ffa18eb91d1b9a7612ce995336983cf1c095a0993037e15264efce49", func := "lectern/lecternlaw13.ShelfSame", spec := "shelfSame", inPlace := ["internal/bytealg.IndexByteString", "internal/bytealg.IndexString", "internal/bytealg.abigen_runtime_cmpstring", "internal/abi.NoEscape", "slices.overlaps[*lectern/shelf.part]"], unfollowed := true, recurses := true, named := ["internal/bytealg.MaxLen"], apart := false }
def ShelfSameSaid : Prop := shelfSameRow.holds Tryz.pinned (OpenSpec.ofChange shelfSameSpec)

/-- ITS FALSE NEIGHBOUR: 'it returns false'. Refute it at one input. -/
def shelfSameWrong : ChangeSpec := { name := "shelfSame", fn := fun _ => fun
  | [d] => { results := [.lit (.bool false)], args := [d] }
  | _ => none }
def ShelfSameWrongFalsely : Prop := shelfSameRow.holds Tryz.pinned (OpenSpec.ofChange shelfSameWrong)

/-- 'lecternlaw15.MachineOpens': WHATEVER THE INPUT: true; the input reads as it did. -/
def machineOpensSpec : ChangeSpec := { name := "machineOpens", fn := fun _ => fun
  | [d] => { results := [.lit (.bool true)], args := [d] }
  | _ => none }
def machineOpensRow : OpenClaim := { program := "ytpeldaogdeefeaagreat", sum := "edcc9c52ffa18eb91d1b9a7612ce995336983cf1c095a0993037e15264efce49", func := "lectern/lecternlaw15.MachineOpens", spec := "machineOpens", inPlace := ["slices.overlaps[lectern/api.Session]", "internal/abi.NoEscape", "slices.overlaps[*lectern/shelf.part]", "internal/bytealg.abigen_runtime_cmpstring"], unfollowed := true, recurses := true, apart := false }
def MachineOpensSaid : Prop := machineOpensRow.holds Tryz.pinned (OpenSpec.ofChange machineOpensSpec)

/-- ITS FALSE NEIGHBOUR: 'it returns false'. Refute it at one input. -/
def machineOpensWrong : ChangeSpec := { name := "machineOpens", fn := fun _ => fun
  | [d] => { results := [.lit (.bool false)], args := [d] }
  | _ => none }
def MachineOpensWrongFalsely : Prop := machineOpensRow.holds Tryz.pinned (OpenSpec.ofChange machineOpensWrong)

/-- 'lecternlaw15.MachineAdds': WHATEVER THE INPUT: true; the input reads as it did. -/
def machineAddsSpec : ChangeSpec := { name := "machineAdds", fn := fun _ => fun
  | [d] => { results := [.lit (.bool true)], args := [d] }
  | _ => none }
def machineAddsRow : OpenClaim := { program := "ytpeldaogdeefeaagreat", sum := "edcc9c52ffa18eb91d1b9a7612ce995336983cf1c095a0993037e15264efce49", func := "lectern/lecternlaw15.MachineAdds", spec := "machineAdds", inPlace := ["slices.overlaps[lectern/api.Session]", "internal/abi.NoEscape", "slices.overlaps[*lectern/shelf.part]", "internal/bytealg.abigen_runtime_cmpstring"], unfollowed := true, recurses := true, apart := false }
def MachineAddsSaid : Prop := machineAddsRow.holds Tryz.pinned (OpenSpec.ofChange machineAddsSpec)

/-- ITS FALSE NEIGHBOUR: 'it returns false'. Refute it at one input. -/
def machineAddsWrong : ChangeSpec := { name := "machineAdds", fn := fun _ => fun
  | [d] => { results := [.lit (.bool false)], args := [d] }
  | _ => none }
def MachineAddsWrongFalsely : Prop := machineAddsRow.holds Tryz.pinned (OpenSpec.ofChange machineAddsWrong)

/-- 'lecternlaw15.MachineDeletes': WHATEVER THE INPUT: true; the input reads as it did. -/
def machineDeletesSpec : ChangeSpec := { name := "machineDeletes", fn := fun _ => fun
  | [d] => { results := [.lit (.bool true)], args := [d] }
  | _ => none }
def machineDeletesRow : OpenClaim := { program := "ytpeldaogdeefeaagreat", sum := "edcc9c52ffa18eb91d1b9a7612ce995336983cf1c095a0993037e15264efce49", func := "lectern/lecternlaw15.MachineDeletes", spec := "machineDeletes", inPlace := ["slices.overlaps[lectern/api.Session]", "internal/abi.NoEscape", "slices.overlaps[*lectern/shelf.part]", "internal/bytealg.abigen_runtime_cmpstring"], unfollowed := true, recurses := true, apart := false }
def MachineDeletesSaid : Prop := machineDeletesRow.holds Tryz.pinned (OpenSpec.ofChange machineDeletesSpec)

/-- ITS FALSE NEIGHBOUR: 'it returns false'. Refute it at one input. -/
def machineDeletesWrong : ChangeSpec := { name := "machineDeletes", fn := fun _ => fun
  | [d] => { results := [.lit (.bool false)], args := [d] }
  | _ => none }
def MachineDeletesWrongFalsely : Prop := machineDeletesRow.holds Tryz.pinned (OpenSpec.ofChange machineDeletesWrong)

/-- 'lecternlaw15.MachineCloses': WHATEVER THE INPUT: true; the input reads as it did. -/
def machineClosesSpec : ChangeSpec := { name := "machineCloses", fn := fun _ => fun
  | [d] => { results := [.lit (.bool true)], args := [d] }
  | _ => none }
def machineClosesRow : OpenClaim := { program := "ytpeldaogdeefeaagreat", sum := "edcc9c52ffa18eb91d1b9a7612ce995336983cf1c095a0993037e15264efce49", func := "lectern/lecternlaw15.MachineCloses", spec := "machineCloses", inPlace := ["slices.overlaps[lectern/api.Session]", "internal/abi.NoEscape", "slices.overlaps[*lectern/shelf.part]", "internal/bytealg.abigen_runtime_cmpstring"], unfollowed := true, recurses := true, apart := false }
def MachineClosesSaid : Prop := machineClosesRow.holds Tryz.pinned (OpenSpec.ofChange machineClosesSpec)

/-- ITS FALSE NEIGHBOUR: 'it returns false'. Refute it at one input. -/
def machineClosesWrong : ChangeSpec := { name := "machineCloses", fn := fun _ => fun
  | [d] => { results := [.lit (.bool false)], args := [d] }
  | _ => none }
def MachineClosesWrongFalsely : Prop := machineClosesRow.holds Tryz.pinned (OpenSpec.ofChange machineClosesWrong)

/-- 'lecternlaw15.MachineOnce': WHATEVER THE INPUT: true; the input reads as it did. -/
def machineOnceSpec : ChangeSpec := { name := "machineOnce", fn := fun _ => fun
  | [d] => { results := [.lit (.bool true)], args := [d] }
  | _ => none }
def machineOnceRow : OpenClaim := { program := "ytpeldaogdeefeaagreat", sum := "edcc9c52ffa18eb91d1b9a7612ce995336983cf1c095a0993037e15264efce49", func := "lectern/lecternlaw15.MachineOnce", spec := "machineOnce", inPlace := ["slices.overlaps[lectern/api.Session]", "internal/abi.NoEscape", "slices.overlaps[*lectern/shelf.part]", "internal/bytealg.abigen_runtime_cmpstring"], unfollowed := true, recurses := true, apart := false }
def MachineOnceSaid : Prop := machineOnceRow.holds Tryz.pinned (OpenSpec.ofChange machineOnceSpec)

/-- ITS FALSE NEIGHBOUR: 'it returns false'. Refute it at one input. -/
def machineOnceWrong : ChangeSpec := { name := "machineOnce", fn := fun _ => fun
  | [d] => { results := [.lit (.bool false)], args := [d] }
  | _ => none }
def MachineOnceWrongFalsely : Prop := machineOnceRow.holds Tryz.pinned (OpenSpec.ofChange machineOnceWrong)

/-- 'lecternlaw15.MachineTwins': WHATEVER THE INPUT: true; the input reads as it did. -/
def machineTwinsSpec : ChangeSpec := { name := "machineTwins", fn := fun _ => fun
  | [d] => { results := [.lit (.bool true)], args := [d] }
  | _ => none }
def machineTwinsRow : OpenClaim := { program := "ytpeldaogdeefeaagreat", sum := "edcc9c52ffa18eb91d1b9a7612ce995336983cf1c095a0993037e15264efce49", func := "lectern/lecternlaw15.MachineTwins", spec := "machineTwins", inPlace := ["slices.overlaps[lectern/api.Session]", "internal/abi.NoEscape", "slices.overlaps[*lectern/shelf.part]", "internal/bytealg.abigen_runtime_cmpstring", "internal/bytealg.IndexByteString", "internal/bytealg.IndexString"], unfollowed := true, recurses := true, named := ["internal/bytealg.MaxLen"], apart := false }
def MachineTwinsSaid : Prop := machineTwinsRow.holds Tryz.pinned (OpenSpec.ofChange machineTwinsSpec)

/-- ITS FALSE NEIGHBOUR: 'it returns false'. Refute it at one input. -/
def machineTwinsWrong : ChangeSpec := { name := "machineTwins", fn := fun _ => fun
  | [d] => { results := [.lit (.bool false)], args := [d] }
  | _ => none }
def MachineTwinsWrongFalsely : Prop := machineTwinsRow.holds Tryz.pinned (OpenSpec.ofChange machineTwinsWrong)

/-- 'lecternlaw15.MachineSearches': WHATEVER THE INPUT: true; the input reads as it did. -/
def machineSearchesSpec : ChangeSpec := { name := "machineSearches", fn := fun _ => fun
  | [d] => { results := [.lit (.bool true)], args := [d] }
  | _ => none }
def machineSearchesRow : OpenClaim := { program := "ytpeldaogdeefeaagreat", sum := "edcc9c52ffa18eb91d1b9a7612ce995336983cf1c095a0993037e15264efce49", func := "lectern/lecternlaw15.MachineSearches", spec := "machineSearches", inPlace := ["internal/bytealg.IndexByteString", "internal/bytealg.IndexString", "internal/bytealg.abigen_runtime_cmpstring", "slices.overlaps[lectern/api.Session]", "internal/abi.NoEscape", "slices.overlaps[*lectern/shelf.part]"], unfollowed := true, recurses := true, named := ["internal/bytealg.MaxLen"], apart := false }
def MachineSearchesSaid : Prop := machineSearchesRow.holds Tryz.pinned (OpenSpec.ofChange machineSearchesSpec)

/-- ITS FALSE NEIGHBOUR: 'it returns false'. Refute it at one input. -/
def machineSearchesWrong : ChangeSpec := { name := "machineSearches", fn := fun _ => fun
  | [d] => { results := [.lit (.bool false)], args := [d] }
  | _ => none }
def MachineSearchesWrongFalsely : Prop := machineSearchesRow.holds Tryz.pinned (OpenSpec.ofChange machineSearchesWrong)

/-- 'lecternlaw15.MachineQuotas': WHATEVER THE INPUT: true; the input reads as it did. -/
def machineQuotasSpec : ChangeSpec := { name := "machineQuotas", fn := fun _ => fun
  | [d] => { results := [.lit (.bool true)], args := [d] }
  | _ => none }
def machineQuotasRow : OpenClaim := { program := "ytpeldaogdeefeaagreat", sum := "edcc9c52ffa18eb91d1b9a7612ce995336983cf1c095a0993037e15264efce49", func := "lectern/lecternlaw15.MachineQuotas", spec := "machineQuotas", inPlace := ["slices.overlaps[lectern/api.Session]", "internal/abi.NoEscape", "slices.overlaps[*lectern/shelf.part]", "internal/bytealg.abigen_runtime_cmpstring", "internal/bytealg.IndexByteString", "internal/bytealg.IndexString"], unfollowed := true, recurses := true, named := ["internal/bytealg.MaxLen"], apart := false }
def MachineQuotasSaid : Prop := machineQuotasRow.holds Tryz.pinned (OpenSpec.ofChange machineQuotasSpec)

/-- ITS FALSE NEIGHBOUR: 'it returns false'. Refute it at one input. -/
def machineQuotasWrong : ChangeSpec := { name := "machineQuotas", fn := fun _ => fun
  | [d] => { results := [.lit (.bool false)], args := [d] }
  | _ => none }
def MachineQuotasWrongFalsely : Prop := machineQuotasRow.holds Tryz.pinned (OpenSpec.ofChange machineQuotasWrong)

/-- 'lecternlaw15.MachineExact': WHATEVER THE INPUT: true; the input reads as it did. -/
def machineExactSpec : ChangeSpec := { name := "machineExact", fn := fun _ => fun
  | [d] => { results := [.lit (.bool true)], args := [d] }
  | _ => none }
def machineExactRow : OpenClaim := { program := "ytpeldaogdeefeaagreat", sum := "edcc9c52ffa18eb91d1b9a7612ce995336983cf1c095a0993037e15264efce49", func := "lectern/lecternlaw15.MachineExact", spec := "machineExact", inPlace := ["slices.overlaps[lectern/api.Session]", "internal/abi.NoEscape", "slices.overlaps[*lectern/shelf.part]", "internal/bytealg.abigen_runtime_cmpstring", "internal/bytealg.IndexByteString", "internal/bytealg.IndexString"], unfollowed := true, recurses := true, named := ["internal/bytealg.MaxLen"], apart := false }
def MachineExactSaid : Prop := machineExactRow.holds Tryz.pinned (OpenSpec.ofChange machineExactSpec)

/-- ITS FALSE NEIGHBOUR: 'it returns false'. Refute it at one input. -/
def machineExactWrong : ChangeSpec := { name := "machineExact", fn := fun _ => fun
  | [d] => { results := [.lit (.bool false)], args := [d] }
  | _ => none }
def MachineExactWrongFalsely : Prop := machineExactRow.holds Tryz.pinned (OpenSpec.ofChange machineExactWrong)

/- THE SECOND FORM. 'bulk': how many values and letters a reading holds, each counted each time it is reached (what is shared counts as often as it is met; a slice's spare places count too). A statement '..UptoSaid' is the law's where the arguments, and the package variables that the reading takes, are together of bulk at most 1048576: NARROWER than '..Said'. Prove '..Said' where nothing that the law and all that it calls make is longer than what came in: it says more and counts as full. Else prove '..UptoSaid'. A law counts once. -/
mutual
def uptoBulk {H : Type} : DataW H → Nat
  | .lit (.string bytes) => bytes.length + 1
  | .lit _ => 1
  | .nil => 1
  | .ptr d => uptoBulk d + 1
  | .slice elems spare => uptoBulkAll elems + uptoBulkAll spare + 1
  | .agg parts => uptoBulkAll parts + 1
  | .iface _ d => uptoBulk d + 1
  | .map entries => uptoBulkEntries entries + 1
  | .held _ => 1
def uptoBulkAll {H : Type} : List (DataW H) → Nat
  | [] => 0
  | d :: r => uptoBulk d + uptoBulkAll r
def uptoBulkEntries {H : Type} : List (Lit × DataW H) → Nat
  | [] => 0
  | x :: r => uptoBulkEntry x + uptoBulkEntries r
def uptoBulkEntry {H : Type} : Lit × DataW H → Nat
  | (.string bytes, d) => bytes.length + uptoBulk d + 1
  | (_, d) => uptoBulk d + 1
 end
def uptoSmall : (H : Type) → List (DataW H) → Bool := fun _ ds => decide (uptoBulkAll ds ≤ 1048576)
def OpenSpec.upto (s : _root_.Go.ChangeSpec) : _root_.Go.OpenSpec := { _root_.Go.OpenSpec.ofChange s with cond := some uptoSmall }

/-- 'lecternlaw13.ShelfAdds', WHERE WHAT IT READS IS OF BULK AT MOST 1048576: true; the input reads as it did. -/
def shelfAddsUptoRow : OpenClaim := { program := "ytpeldaogdeefeaagreat", sum := "edcc9c52ffa18eb91d1b9a7612ce995336983cf1c095a0993037e15264efce49", func := "lectern/lecternlaw13.ShelfAdds", spec := "shelfAdds", inPlace := ["internal/bytealg.IndexByteString", "internal/bytealg.IndexString", "internal/bytealg.abigen_runtime_cmpstring"], unfollowed := true, recurses := true, named := ["internal/bytealg.MaxLen"], apart := false, narrowed := true }
def ShelfAddsUptoSaid : Prop := shelfAddsUptoRow.holds Tryz.pinned (OpenSpec.upto shelfAddsSpec)

/-- 'lecternlaw13.ShelfCounts', WHERE WHAT IT READS IS OF BULK AT MOST 1048576: true; the input reads as it did. -/
def shelfCountsUptoRow : OpenClaim := { program := "ytpeldaogdeefeaagreat", sum := "edcc9c52ffa18eb91d1b9a7612ce995336983cf1c095a0993037e15264efce49", func := "lectern/lecternlaw13.ShelfCounts", spec := "shelfCounts", inPlace := ["internal/bytealg.IndexByteString", "internal/bytealg.IndexString", "internal/bytealg.abigen_runtime_cmpstring", "slices.overlaps[*lectern/shelf.part]", "internal/abi.NoEscape"], unfollowed := true, recurses := true, named := ["internal/bytealg.MaxLen"], apart := false, narrowed := true }
def ShelfCountsUptoSaid : Prop := shelfCountsUptoRow.holds Tryz.pinned (OpenSpec.upto shelfCountsSpec)

/-- 'lecternlaw13.ShelfDeletes', WHERE WHAT IT READS IS OF BULK AT MOST 1048576: true; the input reads as it did. -/
def shelfDeletesUptoRow : OpenClaim := { program := "ytpeldaogdeefeaagreat", sum := "edcc9c52ffa18eb91d1b9a7612ce995336983cf1c095a0993037e15264efce49", func := "lectern/lecternlaw13.ShelfDeletes", spec := "shelfDeletes", inPlace := ["slices.overlaps[*lectern/shelf.part]", "internal/abi.NoEscape", "internal/bytealg.IndexByteString", "internal/bytealg.IndexString", "internal/bytealg.abigen_runtime_cmpstring"], unfollowed := true, recurses := true, named := ["internal/bytealg.MaxLen"], apart := false, narrowed := true }
def ShelfDeletesUptoSaid : Prop := shelfDeletesUptoRow.holds Tryz.pinned (OpenSpec.upto shelfDeletesSpec)

/-- 'lecternlaw13.ShelfSearches', WHERE WHAT IT READS IS OF BULK AT MOST 1048576: true; the input reads as it did. -/
def shelfSearchesUptoRow : OpenClaim := { program := "ytpeldaogdeefeaagreat", sum := "edcc9c52ffa18eb91d1b9a7612ce995336983cf1c095a0993037e15264efce49", func := "lectern/lecternlaw13.ShelfSearches", spec := "shelfSearches", inPlace := ["internal/bytealg.IndexByteString", "internal/bytealg.IndexString", "internal/bytealg.abigen_runtime_cmpstring", "slices.overlaps[*lectern/shelf.part]", "internal/abi.NoEscape"], unfollowed := true, recurses := true, named := ["internal/bytealg.MaxLen"], apart := false, narrowed := true }
def ShelfSearchesUptoSaid : Prop := shelfSearchesUptoRow.holds Tryz.pinned (OpenSpec.upto shelfSearchesSpec)

/-- 'lecternlaw13.ShelfTiers', WHERE WHAT IT READS IS OF BULK AT MOST 1048576: true; the input reads as it did. -/
def shelfTiersUptoRow : OpenClaim := { program := "ytpeldaogdeefeaagreat", sum := "edcc9c52ffa18eb91d1b9a7612ce995336983cf1c095a0993037e15264efce49", func := "lectern/lecternlaw13.ShelfTiers", spec := "shelfTiers", inPlace := ["slices.overlaps[*lectern/shelf.part]", "internal/abi.NoEscape", "internal/bytealg.abigen_runtime_cmpstring", "internal/bytealg.IndexByteString", "internal/bytealg.IndexString"], unfollowed := true, recurses := true, named := ["internal/bytealg.MaxLen"], apart := false, narrowed := true }
def ShelfTiersUptoSaid : Prop := shelfTiersUptoRow.holds Tryz.pinned (OpenSpec.upto shelfTiersSpec)

/-- 'lecternlaw13.ShelfExact', WHERE WHAT IT READS IS OF BULK AT MOST 1048576: true; the input reads as it did. -/
def shelfExactUptoRow : OpenClaim := { program := "ytpeldaogdeefeaagreat", sum := "edcc9c52ffa18eb91d1b9a7612ce995336983cf1c095a0993037e15264efce49", func := "lectern/lecternlaw13.ShelfExact", spec := "shelfExact", inPlace := ["internal/bytealg.IndexByteString", "internal/bytealg.IndexString", "internal/bytealg.abigen_runtime_cmpstring", "internal/abi.NoEscape", "slices.overlaps[*lectern/shelf.part]"], unfollowed := true, recurses := true, named := ["internal/bytealg.MaxLen"], apart := false, narrowed := true }
def ShelfExactUptoSaid : Prop := shelfExactUptoRow.holds Tryz.pinned (OpenSpec.upto shelfExactSpec)

/-- 'lecternlaw13.ShelfSame', WHERE WHAT IT READS IS OF BULK AT MOST 1048576: true; the input reads as it did. -/
def shelfSameUptoRow : OpenClaim := { program := "ytpeldaogdeefeaagreat", sum := "edcc9c52ffa18eb91d1b9a7612ce995336983cf1c095a0993037e15264efce49", func := "lectern/lecternlaw13.ShelfSame", spec := "shelfSame", inPlace := ["internal/bytealg.IndexByteString", "internal/bytealg.IndexString", "internal/bytealg.abigen_runtime_cmpstring", "internal/abi.NoEscape", "slices.overlaps[*lectern/shelf.part]"], unfollowed := true, recurses := true, named := ["internal/bytealg.MaxLen"], apart := false, narrowed := true }
def ShelfSameUptoSaid : Prop := shelfSameUptoRow.holds Tryz.pinned (OpenSpec.upto shelfSameSpec)

/-- 'lecternlaw15.MachineOpens', WHERE WHAT IT READS IS OF BULK AT MOST 1048576: true; the input reads as it did. -/
def machineOpensUptoRow : OpenClaim := { program := "ytpeldaogdeefeaagreat", sum := "edcc9c52ffa18eb91d1b9a7612ce995336983cf1c095a0993037e15264efce49", func := "lectern/lecternlaw15.MachineOpens", spec := "machineOpens", inPlace := ["slices.overlaps[lectern/api.Session]", "internal/abi.NoEscape", "slices.overlaps[*lectern/shelf.part]", "internal/bytealg.abigen_runtime_cmpstring"], unfollowed := true, recurses := true, apart := false, narrowed := true }
def MachineOpensUptoSaid : Prop := machineOpensUptoRow.holds Tryz.pinned (OpenSpec.upto machineOpensSpec)

/-- 'lecternlaw15.MachineAdds', WHERE WHAT IT READS IS OF BULK AT MOST 1048576: true; the input reads as it did. -/
def machineAddsUptoRow : OpenClaim := { program := "ytpeldaogdeefeaagreat", sum := "edcc9c52ffa18eb91d1b9a7612ce995336983cf1c095a0993037e15264efce49", func := "lectern/lecternlaw15.MachineAdds", spec := "machineAdds", inPlace := ["slices.overlaps[lectern/api.Session]", "internal/abi.NoEscape", "slices.overlaps[*lectern/shelf.part]", "internal/bytealg.abigen_runtime_cmpstring"], unfollowed := true, recurses := true, apart := false, narrowed := true }
def MachineAddsUptoSaid : Prop := machineAddsUptoRow.holds Tryz.pinned (OpenSpec.upto machineAddsSpec)

/-- 'lecternlaw15.MachineDeletes', WHERE WHAT IT READS IS OF BULK AT MOST 1048576: true; the input reads as it did. -/
def machineDeletesUptoRow : OpenClaim := { program := "ytpeldaogdeefeaagreat", sum := "edcc9c52ffa18eb91d1b9a7612ce995336983cf1c095a0993037e15264efce49", func := "lectern/lecternlaw15.MachineDeletes", spec := "machineDeletes", inPlace := ["slices.overlaps[lectern/api.Session]", "internal/abi.NoEscape", "slices.overlaps[*lectern/shelf.part]", "internal/bytealg.abigen_runtime_cmpstring"], unfollowed := true, recurses := true, apart := false, narrowed := true }
def MachineDeletesUptoSaid : Prop := machineDeletesUptoRow.holds Tryz.pinned (OpenSpec.upto machineDeletesSpec)

/-- 'lecternlaw15.MachineCloses', WHERE WHAT IT READS IS OF BULK AT MOST 1048576: true; the input reads as it did. -/
def machineClosesUptoRow : OpenClaim := { program := "ytpeldaogdeefeaagreat", sum := "edcc9c52ffa18eb91d1b9a7612ce995336983cf1c095a0993037e15264efce49", func := "lectern/lecternlaw15.MachineCloses", spec := "machineCloses", inPlace := ["slices.overlaps[lectern/api.Session]", "internal/abi.NoEscape", "slices.overlaps[*lectern/shelf.part]", "internal/bytealg.abigen_runtime_cmpstring"], unfollowed := true, recurses := true, apart := false, narrowed := true }
def MachineClosesUptoSaid : Prop := machineClosesUptoRow.holds Tryz.pinned (OpenSpec.upto machineClosesSpec)

/-- 'lecternlaw15.MachineOnce', WHERE WHAT IT READS IS OF BULK AT MOST 1048576: true; the input reads as it did. -/
def machineOnceUptoRow : OpenClaim := { program := "ytpeldaogdeefeaagreat", sum := "edcc9c52ffa18eb91d1b9a7612ce995336983cf1c095a0993037e15264efce49", func := "lectern/lecternlaw15.MachineOnce", spec := "machineOnce", inPlace := ["slices.overlaps[lectern/api.Session]", "internal/abi.NoEscape", "slices.overlaps[*lectern/shelf.part]", "internal/bytealg.abigen_runtime_cmpstring"], unfollowed := true, recurses := true, apart := false, narrowed := true }
def MachineOnceUptoSaid : Prop := machineOnceUptoRow.holds Tryz.pinned (OpenSpec.upto machineOnceSpec)

/-- 'lecternlaw15.MachineTwins', WHERE WHAT IT READS IS OF BULK AT MOST 1048576: true; the input reads as it did. -/
def machineTwinsUptoRow : OpenClaim := { program := "ytpeldaogdeefeaagreat", sum := "edcc9c52ffa18eb91d1b9a7612ce995336983cf1c095a0993037e15264efce49", func := "lectern/lecternlaw15.MachineTwins", spec := "machineTwins", inPlace := ["slices.overlaps[lectern/api.Session]", "internal/abi.NoEscape", "slices.overlaps[*lectern/shelf.part]", "internal/bytealg.abigen_runtime_cmpstring", "internal/bytealg.IndexByteString", "internal/bytealg.IndexString"], unfollowed := true, recurses := true, named := ["internal/bytealg.MaxLen"], apart := false, narrowed := true }
def MachineTwinsUptoSaid : Prop := machineTwinsUptoRow.holds Tryz.pinned (OpenSpec.upto machineTwinsSpec)

/-- 'lecternlaw15.MachineSearches', WHERE WHAT IT READS IS OF BULK AT MOST 1048576: true; the input reads as it did. -/
def machineSearchesUptoRow : OpenClaim := { program := "ytpeldaogdeefeaagreat", sum := "edcc9c52ffa18eb91d1b9a7612ce995336983cf1c095a0993037e15264efce49", func := "lectern/lecternlaw15.MachineSearches", spec := "machineSearches", inPlace := ["internal/bytealg.IndexByteString", "internal/bytealg.IndexString", "internal/bytealg.abigen_runtime_cmpstring", "slices.overlaps[lectern/api.Session]", "internal/abi.NoEscape", "slices.overlaps[*lectern/shelf.part]"], unfollowed := true, recurses := true, named := ["internal/bytealg.MaxLen"], apart := false, narrowed := true }
def MachineSearchesUptoSaid : Prop := machineSearchesUptoRow.holds Tryz.pinned (OpenSpec.upto machineSearchesSpec)

/-- 'lecternlaw15.MachineQuotas', WHERE WHAT IT READS IS OF BULK AT MOST 1048576: true; the input reads as it did. -/
def machineQuotasUptoRow : OpenClaim := { program := "ytpeldaogdeefeaagreat", sum := "edcc9c52ffa18eb91d1b9a7612ce995336983cf1c095a0993037e15264efce49", func := "lectern/lecternlaw15.MachineQuotas", spec := "machineQuotas", inPlace := ["slices.overlaps[lectern/api.Session]", "internal/abi.NoEscape", "slices.overlaps[*lectern/shelf.part]", "internal/bytealg.abigen_runtime_cmpstring", "internal/bytealg.IndexByteString", "internal/bytealg.IndexString"], unfollowed := true, recurses := true, named := ["internal/bytealg.MaxLen"], apart := false, narrowed := true }
def MachineQuotasUptoSaid : Prop := machineQuotasUptoRow.holds Tryz.pinned (OpenSpec.upto machineQuotasSpec)

/-- 'lecternlaw15.MachineExact', WHERE WHAT IT READS IS OF BULK AT MOST 1048576: true; the input reads as it did. -/
def machineExactUptoRow : OpenClaim := { program := "ytpeldaogdeefeaagreat", sum := "edcc9c52ffa18eb91d1b9a7612ce995336983cf1c095a0993037e15264efce49", func := "lectern/lecternlaw15.MachineExact", spec := "machineExact", inPlace := ["slices.overlaps[lectern/api.Session]", "internal/abi.NoEscape", "slices.overlaps[*lectern/shelf.part]", "internal/bytealg.abigen_runtime_cmpstring", "internal/bytealg.IndexByteString", "internal/bytealg.IndexString"], unfollowed := true, recurses := true, named := ["internal/bytealg.MaxLen"], apart := false, narrowed := true }
def MachineExactUptoSaid : Prop := machineExactUptoRow.holds Tryz.pinned (OpenSpec.upto machineExactSpec)

end Rows
end Go.Proofs.YtpeldaogdeefeaaGreat
