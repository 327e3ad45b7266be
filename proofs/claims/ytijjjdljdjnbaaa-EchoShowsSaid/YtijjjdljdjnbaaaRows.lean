/-
  No cell of these rows narrows 'for every input' (looked for: loops, veiled, ifaces, maps, wideKeys, modest, calm, conditions, laid).
  DERIVED. THE GIVEN ROWS OF THIS SEAT. 12 by the template 'for every input the law returns true; each argument reads behind the call as it read before'; 0 by the template 'total and deterministic' (their statements: YtijjjdljdjnbaaaTotals.lean).
  GIVEN WITH THE SEED: the statements are not yours to turn. If you find one false, say at which input.
  Laid BY PROGRAM, IN A SANDBOX (cutbox-rows.mjs): the forced cells as the released guide's own fill.sh prints them over the translation 41d638e366de6785… (all of the seat's roots in one cut). By AI agents, Wed Nov 11 2026. No macro, syntax, notation, axiom, sorry.
-/
import Derived.Test.YtijjjdljdjnbaaaChecked
import GoSem.Claim
import GoSem.ClaimJoined
import GoSem.ClaimMapViews
import Derived.JoinedTies
import Derived.KernelRfl
namespace Go.Proofs.Ytijjjdljdjnbaaa
/- THE CELL 'sum', in the pinned program and in every row, IS THE sha256 OF THE DUMP (.gsa) THAT YtijjjdljdjnbaaaProg.lean LOADS. Nothing in Lean hashes anything: it is a label: what it is worth is what the hold of that sum in a sandbox is worth. -/
noncomputable def Try.pinned : Pinned := { name := "ytijjjdljdjnbaaa", sum := "41d638e366de67859876e952f70cf9bcd3a0a14bcb35ecd5d984cd42a8d019c3", checked := Try.checked }
namespace Rows
def none {H : Type} : Left H := { results := [], args := [] }

/-- 'longlinelaw21.PatchDiffs': WHATEVER THE INPUT: true; the input reads as it did. -/
def patchDiffsSpec : ChangeSpec := { name := "patchDiffs", fn := fun _ => fun
  | [d1, d2] => { results := [.lit (.bool true)], args := [d1, d2] }
  | _ => none }
def patchDiffsRow : OpenClaim := { program := "ytijjjdljdjnbaaa", sum := "41d638e366de67859876e952f70cf9bcd3a0a14bcb35ecd5d984cd42a8d019c3", func := "longline/longlinelaw21.PatchDiffs", spec := "patchDiffs", unfollowed := true, recurses := true, apart := false }
def PatchDiffsSaid : Prop := patchDiffsRow.holds Try.pinned (OpenSpec.ofChange patchDiffsSpec)

/-- ITS FALSE NEIGHBOUR: 'it returns false'. Refute it at one input. -/
def patchDiffsWrong : ChangeSpec := { name := "patchDiffs", fn := fun _ => fun
  | [d1, d2] => { results := [.lit (.bool false)], args := [d1, d2] }
  | _ => none }
def PatchDiffsWrongFalsely : Prop := patchDiffsRow.holds Try.pinned (OpenSpec.ofChange patchDiffsWrong)

/-- 'longlinelaw21.PatchApplies': WHATEVER THE INPUT: true; the input reads as it did. -/
def patchAppliesSpec : ChangeSpec := { name := "patchApplies", fn := fun _ => fun
  | [d1, d2] => { results := [.lit (.bool true)], args := [d1, d2] }
  | _ => none }
def patchAppliesRow : OpenClaim := { program := "ytijjjdljdjnbaaa", sum := "41d638e366de67859876e952f70cf9bcd3a0a14bcb35ecd5d984cd42a8d019c3", func := "longline/longlinelaw21.PatchApplies", spec := "patchApplies", unfollowed := true, recurses := true, apart := false }
def PatchAppliesSaid : Prop := patchAppliesRow.holds Try.pinned (OpenSpec.ofChange patchAppliesSpec)

/-- ITS FALSE NEIGHBOUR: 'it returns false'. Refute it at one input. -/
def patchAppliesWrong : ChangeSpec := { name := "patchApplies", fn := fun _ => fun
  | [d1, d2] => { results := [.lit (.bool false)], args := [d1, d2] }
  | _ => none }
def PatchAppliesWrongFalsely : Prop := patchAppliesRow.holds Try.pinned (OpenSpec.ofChange patchAppliesWrong)

/-- 'longlinelaw21.PatchMakes': WHATEVER THE INPUT: true; the input reads as it did. -/
def patchMakesSpec : ChangeSpec := { name := "patchMakes", fn := fun _ => fun
  | [d1, d2, d3] => { results := [.lit (.bool true)], args := [d1, d2, d3] }
  | _ => none }
def patchMakesRow : OpenClaim := { program := "ytijjjdljdjnbaaa", sum := "41d638e366de67859876e952f70cf9bcd3a0a14bcb35ecd5d984cd42a8d019c3", func := "longline/longlinelaw21.PatchMakes", spec := "patchMakes", unfollowed := true, recurses := true, apart := false }
def PatchMakesSaid : Prop := patchMakesRow.holds Try.pinned (OpenSpec.ofChange patchMakesSpec)

/-- ITS FALSE NEIGHBOUR: 'it returns false'. Refute it at one input. -/
def patchMakesWrong : ChangeSpec := { name := "patchMakes", fn := fun _ => fun
  | [d1, d2, d3] => { results := [.lit (.bool false)], args := [d1, d2, d3] }
  | _ => none }
def PatchMakesWrongFalsely : Prop := patchMakesRow.holds Try.pinned (OpenSpec.ofChange patchMakesWrong)

/-- 'longlinelaw21.PatchFew': WHATEVER THE INPUT: true; the input reads as it did. -/
def patchFewSpec : ChangeSpec := { name := "patchFew", fn := fun _ => fun
  | [d1, d2] => { results := [.lit (.bool true)], args := [d1, d2] }
  | _ => none }
def patchFewRow : OpenClaim := { program := "ytijjjdljdjnbaaa", sum := "41d638e366de67859876e952f70cf9bcd3a0a14bcb35ecd5d984cd42a8d019c3", func := "longline/longlinelaw21.PatchFew", spec := "patchFew", unfollowed := true, recurses := true, apart := false }
def PatchFewSaid : Prop := patchFewRow.holds Try.pinned (OpenSpec.ofChange patchFewSpec)

/-- ITS FALSE NEIGHBOUR: 'it returns false'. Refute it at one input. -/
def patchFewWrong : ChangeSpec := { name := "patchFew", fn := fun _ => fun
  | [d1, d2] => { results := [.lit (.bool false)], args := [d1, d2] }
  | _ => none }
def PatchFewWrongFalsely : Prop := patchFewRow.holds Try.pinned (OpenSpec.ofChange patchFewWrong)

/-- 'longlinelaw20.ViewBytes': WHATEVER THE INPUT: true; the input reads as it did. -/
def viewBytesSpec : ChangeSpec := { name := "viewBytes", fn := fun _ => fun
  | [d1, d2, d3] => { results := [.lit (.bool true)], args := [d1, d2, d3] }
  | _ => none }
def viewBytesRow : OpenClaim := { program := "ytijjjdljdjnbaaa", sum := "41d638e366de67859876e952f70cf9bcd3a0a14bcb35ecd5d984cd42a8d019c3", func := "longline/longlinelaw20.ViewBytes", spec := "viewBytes", unfollowed := true, recurses := true, apart := false }
def ViewBytesSaid : Prop := viewBytesRow.holds Try.pinned (OpenSpec.ofChange viewBytesSpec)

/-- ITS FALSE NEIGHBOUR: 'it returns false'. Refute it at one input. -/
def viewBytesWrong : ChangeSpec := { name := "viewBytes", fn := fun _ => fun
  | [d1, d2, d3] => { results := [.lit (.bool false)], args := [d1, d2, d3] }
  | _ => none }
def ViewBytesWrongFalsely : Prop := viewBytesRow.holds Try.pinned (OpenSpec.ofChange viewBytesWrong)

/-- 'longlinelaw20.ViewCells': WHATEVER THE INPUT: true; the input reads as it did. -/
def viewCellsSpec : ChangeSpec := { name := "viewCells", fn := fun _ => fun
  | [d1, d2, d3] => { results := [.lit (.bool true)], args := [d1, d2, d3] }
  | _ => none }
def viewCellsRow : OpenClaim := { program := "ytijjjdljdjnbaaa", sum := "41d638e366de67859876e952f70cf9bcd3a0a14bcb35ecd5d984cd42a8d019c3", func := "longline/longlinelaw20.ViewCells", spec := "viewCells", unfollowed := true, recurses := true, apart := false }
def ViewCellsSaid : Prop := viewCellsRow.holds Try.pinned (OpenSpec.ofChange viewCellsSpec)

/-- ITS FALSE NEIGHBOUR: 'it returns false'. Refute it at one input. -/
def viewCellsWrong : ChangeSpec := { name := "viewCells", fn := fun _ => fun
  | [d1, d2, d3] => { results := [.lit (.bool false)], args := [d1, d2, d3] }
  | _ => none }
def ViewCellsWrongFalsely : Prop := viewCellsRow.holds Try.pinned (OpenSpec.ofChange viewCellsWrong)

/-- 'longlinelaw20.ViewBack': WHATEVER THE INPUT: true; the input reads as it did. -/
def viewBackSpec : ChangeSpec := { name := "viewBack", fn := fun _ => fun
  | [d1, d2, d3] => { results := [.lit (.bool true)], args := [d1, d2, d3] }
  | _ => none }
def viewBackRow : OpenClaim := { program := "ytijjjdljdjnbaaa", sum := "41d638e366de67859876e952f70cf9bcd3a0a14bcb35ecd5d984cd42a8d019c3", func := "longline/longlinelaw20.ViewBack", spec := "viewBack", unfollowed := true, recurses := true, apart := false }
def ViewBackSaid : Prop := viewBackRow.holds Try.pinned (OpenSpec.ofChange viewBackSpec)

/-- ITS FALSE NEIGHBOUR: 'it returns false'. Refute it at one input. -/
def viewBackWrong : ChangeSpec := { name := "viewBack", fn := fun _ => fun
  | [d1, d2, d3] => { results := [.lit (.bool false)], args := [d1, d2, d3] }
  | _ => none }
def ViewBackWrongFalsely : Prop := viewBackRow.holds Try.pinned (OpenSpec.ofChange viewBackWrong)

/-- 'longlinelaw20.ViewSizes': WHATEVER THE INPUT: true; the input reads as it did. -/
def viewSizesSpec : ChangeSpec := { name := "viewSizes", fn := fun _ => fun
  | [d] => { results := [.lit (.bool true)], args := [d] }
  | _ => none }
def viewSizesRow : OpenClaim := { program := "ytijjjdljdjnbaaa", sum := "41d638e366de67859876e952f70cf9bcd3a0a14bcb35ecd5d984cd42a8d019c3", func := "longline/longlinelaw20.ViewSizes", spec := "viewSizes", unfollowed := true, recurses := true, apart := false }
def ViewSizesSaid : Prop := viewSizesRow.holds Try.pinned (OpenSpec.ofChange viewSizesSpec)

/-- ITS FALSE NEIGHBOUR: 'it returns false'. Refute it at one input. -/
def viewSizesWrong : ChangeSpec := { name := "viewSizes", fn := fun _ => fun
  | [d] => { results := [.lit (.bool false)], args := [d] }
  | _ => none }
def ViewSizesWrongFalsely : Prop := viewSizesRow.holds Try.pinned (OpenSpec.ofChange viewSizesWrong)

/-- 'longlinelaw22.RegDiffs': WHATEVER THE INPUT: true; the input reads as it did. -/
def regDiffsSpec : ChangeSpec := { name := "regDiffs", fn := fun _ => fun
  | [d1, d2] => { results := [.lit (.bool true)], args := [d1, d2] }
  | _ => none }
def regDiffsRow : OpenClaim := { program := "ytijjjdljdjnbaaa", sum := "41d638e366de67859876e952f70cf9bcd3a0a14bcb35ecd5d984cd42a8d019c3", func := "longline/longlinelaw22.RegDiffs", spec := "regDiffs", unfollowed := true, recurses := true, apart := false }
def RegDiffsSaid : Prop := regDiffsRow.holds Try.pinned (OpenSpec.ofChange regDiffsSpec)

/-- ITS FALSE NEIGHBOUR: 'it returns false'. Refute it at one input. -/
def regDiffsWrong : ChangeSpec := { name := "regDiffs", fn := fun _ => fun
  | [d1, d2] => { results := [.lit (.bool false)], args := [d1, d2] }
  | _ => none }
def RegDiffsWrongFalsely : Prop := regDiffsRow.holds Try.pinned (OpenSpec.ofChange regDiffsWrong)

/-- 'longlinelaw22.RegApplies': WHATEVER THE INPUT: true; the input reads as it did. -/
def regAppliesSpec : ChangeSpec := { name := "regApplies", fn := fun _ => fun
  | [d1, d2] => { results := [.lit (.bool true)], args := [d1, d2] }
  | _ => none }
def regAppliesRow : OpenClaim := { program := "ytijjjdljdjnbaaa", sum := "41d638e366de67859876e952f70cf9bcd3a0a14bcb35ecd5d984cd42a8d019c3", func := "longline/longlinelaw22.RegApplies", spec := "regApplies", unfollowed := true, recurses := true, apart := false }
def RegAppliesSaid : Prop := regAppliesRow.holds Try.pinned (OpenSpec.ofChange regAppliesSpec)

/-- ITS FALSE NEIGHBOUR: 'it returns false'. Refute it at one input. -/
def regAppliesWrong : ChangeSpec := { name := "regApplies", fn := fun _ => fun
  | [d1, d2] => { results := [.lit (.bool false)], args := [d1, d2] }
  | _ => none }
def RegAppliesWrongFalsely : Prop := regAppliesRow.holds Try.pinned (OpenSpec.ofChange regAppliesWrong)

/-- 'longlinelaw22.RegMakes': WHATEVER THE INPUT: true; the input reads as it did. -/
def regMakesSpec : ChangeSpec := { name := "regMakes", fn := fun _ => fun
  | [d1, d2, d3] => { results := [.lit (.bool true)], args := [d1, d2, d3] }
  | _ => none }
def regMakesRow : OpenClaim := { program := "ytijjjdljdjnbaaa", sum := "41d638e366de67859876e952f70cf9bcd3a0a14bcb35ecd5d984cd42a8d019c3", func := "longline/longlinelaw22.RegMakes", spec := "regMakes", unfollowed := true, recurses := true, apart := false }
def RegMakesSaid : Prop := regMakesRow.holds Try.pinned (OpenSpec.ofChange regMakesSpec)

/-- ITS FALSE NEIGHBOUR: 'it returns false'. Refute it at one input. -/
def regMakesWrong : ChangeSpec := { name := "regMakes", fn := fun _ => fun
  | [d1, d2, d3] => { results := [.lit (.bool false)], args := [d1, d2, d3] }
  | _ => none }
def RegMakesWrongFalsely : Prop := regMakesRow.holds Try.pinned (OpenSpec.ofChange regMakesWrong)

/-- 'longlinelaw35.EchoShows': WHATEVER THE INPUT: true; the input reads as it did. -/
def echoShowsSpec : ChangeSpec := { name := "echoShows", fn := fun _ => fun
  | [d] => { results := [.lit (.bool true)], args := [d] }
  | _ => none }
def echoShowsRow : OpenClaim := { program := "ytijjjdljdjnbaaa", sum := "41d638e366de67859876e952f70cf9bcd3a0a14bcb35ecd5d984cd42a8d019c3", func := "longline/longlinelaw35.EchoShows", spec := "echoShows", unfollowed := true, recurses := true, apart := false }
def EchoShowsSaid : Prop := echoShowsRow.holds Try.pinned (OpenSpec.ofChange echoShowsSpec)

/-- ITS FALSE NEIGHBOUR: 'it returns false'. Refute it at one input. -/
def echoShowsWrong : ChangeSpec := { name := "echoShows", fn := fun _ => fun
  | [d] => { results := [.lit (.bool false)], args := [d] }
  | _ => none }
def EchoShowsWrongFalsely : Prop := echoShowsRow.holds Try.pinned (OpenSpec.ofChange echoShowsWrong)

/- THE SECOND FORM. 'bulk': how many values and letters a reading holds, each counted each time it is reached (what is shared counts as often as it is met; a slice's spare places count too). A statement '..UptoSaid' is the law's where the arguments, and the package variables that the reading takes, are together of bulk at most 1048576: NARROWER than '..Said'. Prove '..Said' where nothing that the law and all that it calls make is longer than what came in: it says more and counts as full. Else prove '..UptoSaid'. A law counts once. -/
mutual
def uptoBulk {H : Type} : DataW H → Nat
  | .lit (.string bytes) => bytes.length + 1
  | .lit _ => 1
  | .nil => 1
  | .ptr d => uptoBulk d + 1
  | .slice elems spare => uptoBulkAll elems + uptoBulkAll spare + 1
  | .agg parts => uptoBulkAll parts + 1
  | .iface _ d => uptoBulk d + 1
  | .map entries => uptoBulkEntries entries + 1
  | .held _ => 1
def uptoBulkAll {H : Type} : List (DataW H) → Nat
  | [] => 0
  | d :: r => uptoBulk d + uptoBulkAll r
def uptoBulkEntries {H : Type} : List (Lit × DataW H) → Nat
  | [] => 0
  | x :: r => uptoBulkEntry x + uptoBulkEntries r
def uptoBulkEntry {H : Type} : Lit × DataW H → Nat
  | (.string bytes, d) => bytes.length + uptoBulk d + 1
  | (_, d) => uptoBulk d + 1
 end
def uptoSmall : (H : Type) → List (DataW H) → Bool := fun _ ds => decide (uptoBulkAll ds ≤ 1048576)
def OpenSpec.upto (s : _root_.Go.ChangeSpec) : _root_.Go.OpenSpec := { _root_.Go.OpenSpec.ofChange s with cond := some uptoSmall }

/-- 'longlinelaw21.PatchDiffs', WHERE WHAT IT READS IS OF BULK AT MOST 1048576: true; the input reads as it did. -/
def patchDiffsUptoRow : OpenClaim := { program := "ytijjjdljdjnbaaa", sum := "41d638e366de67859876e952f70cf9bcd3a0a14bcb35ecd5d984cd42a8d019c3", func := "longline/longlinelaw21.PatchDiffs", spec := "patchDiffs", unfollowed := true, recurses := true, apart := false, narrowed := true }
def PatchDiffsUptoSaid : Prop := patchDiffsUptoRow.holds Try.pinned (OpenSpec.upto patchDiffsSpec)

/-- 'longlinelaw21.PatchApplies', WHERE WHAT IT READS IS OF BULK AT MOST 1048576: true; the input reads as it did. -/
def patchAppliesUptoRow : OpenClaim := { program := "ytijjjdljdjnbaaa", sum := "41d638e366de67859876e952f70cf9bcd3a0a14bcb35ecd5d984cd42a8d019c3", func := "longline/longlinelaw21.PatchApplies", spec := "patchApplies", unfollowed := true, recurses := true, apart := false, narrowed := true }
def PatchAppliesUptoSaid : Prop := patchAppliesUptoRow.holds Try.pinned (OpenSpec.upto patchAppliesSpec)

/-- 'longlinelaw21.PatchMakes', WHERE WHAT IT READS IS OF BULK AT MOST 1048576: true; the input reads as it did. -/
def patchMakesUptoRow : OpenClaim := { program := "ytijjjdljdjnbaaa", sum := "41d638e366de67859876e952f70cf9bcd3a0a14bcb35ecd5d984cd42a8d019c3", func := "longline/longlinelaw21.PatchMakes", spec := "patchMakes", unfollowed := true, recurses := true, apart := false, narrowed := true }
def PatchMakesUptoSaid : Prop := patchMakesUptoRow.holds Try.pinned (OpenSpec.upto patchMakesSpec)

/-- 'longlinelaw21.PatchFew', WHERE WHAT IT READS IS OF BULK AT MOST 1048576: true; the input reads as it did. -/
def patchFewUptoRow : OpenClaim := { program := "ytijjjdljdjnbaaa", sum := "41d638e366de67859876e952f70cf9bcd3a0a14bcb35ecd5d984cd42a8d019c3", func := "longline/longlinelaw21.PatchFew", spec := "patchFew", unfollowed := true, recurses := true, apart := false, narrowed := true }
def PatchFewUptoSaid : Prop := patchFewUptoRow.holds Try.pinned (OpenSpec.upto patchFewSpec)

/-- 'longlinelaw20.ViewBytes', WHERE WHAT IT READS IS OF BULK AT MOST 1048576: true; the input reads as it did. -/
def viewBytesUptoRow : OpenClaim := { program := "ytijjjdljdjnbaaa", sum := "41d638e366de67859876e952f70cf9bcd3a0a14bcb35ecd5d984cd42a8d019c3", func := "longline/longlinelaw20.ViewBytes", spec := "viewBytes", unfollowed := true, recurses := true, apart := false, narrowed := true }
def ViewBytesUptoSaid : Prop := viewBytesUptoRow.holds Try.pinned (OpenSpec.upto viewBytesSpec)

/-- 'longlinelaw20.ViewCells', WHERE WHAT IT READS IS OF BULK AT MOST 1048576: true; the input reads as it did. -/
def viewCellsUptoRow : OpenClaim := { program := "ytijjjdljdjnbaaa", sum := "41d638e366de67859876e952f70cf9bcd3a0a14bcb35ecd5d984cd42a8d019c3", func := "longline/longlinelaw20.ViewCells", spec := "viewCells", unfollowed := true, recurses := true, apart := false, narrowed := true }
def ViewCellsUptoSaid : Prop := viewCellsUptoRow.holds Try.pinned (OpenSpec.upto viewCellsSpec)

/-- 'longlinelaw20.ViewBack', WHERE WHAT IT READS IS OF BULK AT MOST 1048576: true; the input reads as it did. -/
def viewBackUptoRow : OpenClaim := { program := "ytijjjdljdjnbaaa", sum := "41d638e366de67859876e952f70cf9bcd3a0a14bcb35ecd5d984cd42a8d019c3", func := "longline/longlinelaw20.ViewBack", spec := "viewBack", unfollowed := true, recurses := true, apart := false, narrowed := true }
def ViewBackUptoSaid : Prop := viewBackUptoRow.holds Try.pinned (OpenSpec.upto viewBackSpec)

/-- 'longlinelaw20.ViewSizes', WHERE WHAT IT READS IS OF BULK AT MOST 1048576: true; the input reads as it did. -/
def viewSizesUptoRow : OpenClaim := { program := "ytijjjdljdjnbaaa", sum := "41d638e366de67859876e952f70cf9bcd3a0a14bcb35ecd5d984cd42a8d019c3", func := "longline/longlinelaw20.ViewSizes", spec := "viewSizes", unfollowed := true, recurses := true, apart := false, narrowed := true }
def ViewSizesUptoSaid : Prop := viewSizesUptoRow.holds Try.pinned (OpenSpec.upto viewSizesSpec)

/-- 'longlinelaw22.RegDiffs', WHERE WHAT IT READS IS OF BULK AT MOST 1048576: true; the input reads as it did. -/
def regDiffsUptoRow : OpenClaim := { program := "ytijjjdljdjnbaaa", sum := "41d638e366de67859876e952f70cf9bcd3a0a14bcb35ecd5d984cd42a8d019c3", func := "longline/longlinelaw22.RegDiffs", spec := "regDiffs", unfollowed := true, recurses := true, apart := false, narrowed := true }
def RegDiffsUptoSaid : Prop := regDiffsUptoRow.holds Try.pinned (OpenSpec.upto regDiffsSpec)

/-- 'longlinelaw22.RegApplies', WHERE WHAT IT READS IS OF BULK AT MOST 1048576: true; the input reads as it did. -/
def regAppliesUptoRow : OpenClaim := { program := "ytijjjdljdjnbaaa", sum := "41d638e366de67859876e952f70cf9bcd3a0a14bcb35ecd5d984cd42a8d019c3", func := "longline/longlinelaw22.RegApplies", spec := "regApplies", unfollowed := true, recurses := true, apart := false, narrowed := true }
def RegAppliesUptoSaid : Prop := regAppliesUptoRow.holds Try.pinned (OpenSpec.upto regAppliesSpec)

/-- 'longlinelaw22.RegMakes', WHERE WHAT IT READS IS OF BULK AT MOST 1048576: true; the input reads as it did. -/
def regMakesUptoRow : OpenClaim := { program := "ytijjjdljdjnbaaa", sum := "41d638e366de67859876e952f70cf9bcd3a0a14bcb35ecd5d984cd42a8d019c3", func := "longline/longlinelaw22.RegMakes", spec := "regMakes", unfollowed := true, recurses := true, apart := false, narrowed := true }
def RegMakesUptoSaid : Prop := regMakesUptoRow.holds Try.pinned (OpenSpec.upto regMakesSpec)

/-- 'longlinelaw35.EchoShows', WHERE WHAT IT READS IS OF BULK AT MOST 1048576: true; the input reads as it did. -/
def echoShowsUptoRow : OpenClaim := { program := "ytijjjdljdjnbaaa", sum := "41d638e366de67859876e952f70cf9bcd3a0a14bcb35ecd5d984cd42a8d019c3", func := "longline/longlinelaw35.EchoShows", spec := "echoShows", unfollowed := true, recurses := true, apart := false, narrowed := true }
def EchoShowsUptoSaid : Prop := echoShowsUptoRow.holds Try.pinned (OpenSpec.upto echoShowsSpec)

end Rows
end Go.Proofs.Ytijjjdljdjnbaaa
