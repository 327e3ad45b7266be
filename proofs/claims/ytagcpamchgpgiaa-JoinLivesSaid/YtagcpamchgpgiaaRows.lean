/-
  No cell of these rows narrows 'for every input' (looked for: loops, veiled, ifaces, maps, wideKeys, modest, calm, conditions, laid).
  DERIVED. THE GIVEN ROWS OF THIS SEAT. 6 by the template 'for every input the law returns true; each argument reads behind the call as it read before'; 0 by the template 'total and deterministic' (their statements: YtagcpamchgpgiaaTotals.lean).
  GIVEN WITH THE SEED: the statements are not yours to turn. If you find one false, say at which input.
  Laid BY PROGRAM, IN A SANDBOX (cutbox-rows.mjs): the forced cells as the released guide's own fill.sh prints them over the translation 22872deb50dfb44f… (all of the seat's roots in one cut). By AI agents, Wed Nov 11 2026. No macro, syntax, notation, axiom, sorry.
-/
import Derived.Test.YtagcpamchgpgiaaChecked
import GoSem.Claim
import GoSem.ClaimJoined
import GoSem.ClaimMapViews
import Derived.JoinedTies
import Derived.KernelRfl
namespace Go.Proofs.Ytagcpamchgpgiaa
/- THE CELL 'sum', in the pinned program and in every row, IS THE sha256 OF THE DUMP (.gsa) THAT YtagcpamchgpgiaaProg.lean LOADS. Nothing in Lean hashes anything: it is a label: what it is worth is what the hold of that sum in a sandbox is worth. -/
noncomputable def Try.pinned : Pinned := { name := "ytagcpamchgpgiaa", sum := "22872deb50dfb44f1cce496624ba4109660494c4c68a2d0133615afdddf23f58", checked := Try.checked }
namespace Rows
def none {H : Type} : Left H := { results := [], args := [] }

/-- 'longlinelaw10.JoinMakes': WHATEVER THE INPUT: true; the input reads as it did. -/
def joinMakesSpec : ChangeSpec := { name := "joinMakes", fn := fun _ => fun
  | [d1, d2, d3] => { results := [.lit (.bool true)], args := [d1, d2, d3] }
  | _ => none }
def joinMakesRow : OpenClaim := { program := "ytagcpamchgpgiaa", sum := "22872deb50dfb44f1cce496624ba4109660494c4c68a2d0133615afdddf23f58", func := "longline/longlinelaw10.JoinMakes", spec := "joinMakes", unfollowed := true, recurses := true, apart := false }
def JoinMakesSaid : Prop := joinMakesRow.holds Try.pinned (OpenSpec.ofChange joinMakesSpec)

/-- ITS FALSE NEIGHBOUR: 'it returns false'. Refute it at one input. -/
def joinMakesWrong : ChangeSpec := { name := "joinMakes", fn := fun _ => fun
  | [d1, d2, d3] => { results := [.lit (.bool false)], args := [d1, d2, d3] }
  | _ => none }
def JoinMakesWrongFalsely : Prop := joinMakesRow.holds Try.pinned (OpenSpec.ofChange joinMakesWrong)

/-- 'longlinelaw10.JoinBounds': WHATEVER THE INPUT: true; the input reads as it did. -/
def joinBoundsSpec : ChangeSpec := { name := "joinBounds", fn := fun _ => fun
  | [d] => { results := [.lit (.bool true)], args := [d] }
  | _ => none }
def joinBoundsRow : OpenClaim := { program := "ytagcpamchgpgiaa", sum := "22872deb50dfb44f1cce496624ba4109660494c4c68a2d0133615afdddf23f58", func := "longline/longlinelaw10.JoinBounds", spec := "joinBounds", unfollowed := true, recurses := true, apart := false }
def JoinBoundsSaid : Prop := joinBoundsRow.holds Try.pinned (OpenSpec.ofChange joinBoundsSpec)

/-- ITS FALSE NEIGHBOUR: 'it returns false'. Refute it at one input. -/
def joinBoundsWrong : ChangeSpec := { name := "joinBounds", fn := fun _ => fun
  | [d] => { results := [.lit (.bool false)], args := [d] }
  | _ => none }
def JoinBoundsWrongFalsely : Prop := joinBoundsRow.holds Try.pinned (OpenSpec.ofChange joinBoundsWrong)

/-- 'longlinelaw10.JoinLives': WHATEVER THE INPUT: true; the input reads as it did. -/
def joinLivesSpec : ChangeSpec := { name := "joinLives", fn := fun _ => fun
  | [d] => { results := [.lit (.bool true)], args := [d] }
  | _ => none }
def joinLivesRow : OpenClaim := { program := "ytagcpamchgpgiaa", sum := "22872deb50dfb44f1cce496624ba4109660494c4c68a2d0133615afdddf23f58", func := "longline/longlinelaw10.JoinLives", spec := "joinLives", unfollowed := true, recurses := true, apart := false }
def JoinLivesSaid : Prop := joinLivesRow.holds Try.pinned (OpenSpec.ofChange joinLivesSpec)

/-- ITS FALSE NEIGHBOUR: 'it returns false'. Refute it at one input. -/
def joinLivesWrong : ChangeSpec := { name := "joinLives", fn := fun _ => fun
  | [d] => { results := [.lit (.bool false)], args := [d] }
  | _ => none }
def JoinLivesWrongFalsely : Prop := joinLivesRow.holds Try.pinned (OpenSpec.ofChange joinLivesWrong)

/-- 'longlinelaw29.SyncVersions': WHATEVER THE INPUT: true; the input reads as it did. -/
def syncVersionsSpec : ChangeSpec := { name := "syncVersions", fn := fun _ => fun
  | [d] => { results := [.lit (.bool true)], args := [d] }
  | _ => none }
def syncVersionsRow : OpenClaim := { program := "ytagcpamchgpgiaa", sum := "22872deb50dfb44f1cce496624ba4109660494c4c68a2d0133615afdddf23f58", func := "longline/longlinelaw29.SyncVersions", spec := "syncVersions", unfollowed := true, recurses := true, apart := false }
def SyncVersionsSaid : Prop := syncVersionsRow.holds Try.pinned (OpenSpec.ofChange syncVersionsSpec)

/-- ITS FALSE NEIGHBOUR: 'it returns false'. Refute it at one input. -/
def syncVersionsWrong : ChangeSpec := { name := "syncVersions", fn := fun _ => fun
  | [d] => { results := [.lit (.bool false)], args := [d] }
  | _ => none }
def SyncVersionsWrongFalsely : Prop := syncVersionsRow.holds Try.pinned (OpenSpec.ofChange syncVersionsWrong)

/-- 'longlinelaw29.SyncComes': WHATEVER THE INPUT: true; the input reads as it did. -/
def syncComesSpec : ChangeSpec := { name := "syncComes", fn := fun _ => fun
  | [d] => { results := [.lit (.bool true)], args := [d] }
  | _ => none }
def syncComesRow : OpenClaim := { program := "ytagcpamchgpgiaa", sum := "22872deb50dfb44f1cce496624ba4109660494c4c68a2d0133615afdddf23f58", func := "longline/longlinelaw29.SyncComes", spec := "syncComes", unfollowed := true, recurses := true, apart := false }
def SyncComesSaid : Prop := syncComesRow.holds Try.pinned (OpenSpec.ofChange syncComesSpec)

/-- ITS FALSE NEIGHBOUR: 'it returns false'. Refute it at one input. -/
def syncComesWrong : ChangeSpec := { name := "syncComes", fn := fun _ => fun
  | [d] => { results := [.lit (.bool false)], args := [d] }
  | _ => none }
def SyncComesWrongFalsely : Prop := syncComesRow.holds Try.pinned (OpenSpec.ofChange syncComesWrong)

/-- 'longlinelaw29.SyncBase': WHATEVER THE INPUT: true; the input reads as it did. -/
def syncBaseSpec : ChangeSpec := { name := "syncBase", fn := fun _ => fun
  | [d1, d2] => { results := [.lit (.bool true)], args := [d1, d2] }
  | _ => none }
def syncBaseRow : OpenClaim := { program := "ytagcpamchgpgiaa", sum := "22872deb50dfb44f1cce496624ba4109660494c4c68a2d0133615afdddf23f58", func := "longline/longlinelaw29.SyncBase", spec := "syncBase", unfollowed := true, recurses := true, apart := false }
def SyncBaseSaid : Prop := syncBaseRow.holds Try.pinned (OpenSpec.ofChange syncBaseSpec)

/-- ITS FALSE NEIGHBOUR: 'it returns false'. Refute it at one input. -/
def syncBaseWrong : ChangeSpec := { name := "syncBase", fn := fun _ => fun
  | [d1, d2] => { results := [.lit (.bool false)], args := [d1, d2] }
  | _ => none }
def SyncBaseWrongFalsely : Prop := syncBaseRow.holds Try.pinned (OpenSpec.ofChange syncBaseWrong)

/- THE SECOND FORM. 'bulk': how many values and letters a reading holds, each counted each time it is reached (what is shared counts as often as it is met; a slice's spare places count too). A statement '..UptoSaid' is the law's where the arguments, and the package variables that the reading takes, are together of bulk at most 1048576: NARROWER than '..Said'. Prove '..Said' where nothing that the law and all that it calls make is longer than what came in: it says more and counts as full. Else prove '..UptoSaid'. A law counts once. -/
mutual
def uptoBulk {H : Type} : DataW H → Nat
  | .lit (.string bytes) => bytes.length + 1
  | .lit _ => 1
  | .nil => 1
  | .ptr d => uptoBulk d + 1
  | .slice elems spare => uptoBulkAll elems + uptoBulkAll spare + 1
  | .agg parts => uptoBulkAll parts + 1
  | .iface _ d => uptoBulk d + 1
  | .map entries => uptoBulkEntries entries + 1
  | .held _ => 1
def uptoBulkAll {H : Type} : List (DataW H) → Nat
  | [] => 0
  | d :: r => uptoBulk d + uptoBulkAll r
def uptoBulkEntries {H : Type} : List (Lit × DataW H) → Nat
  | [] => 0
  | x :: r => uptoBulkEntry x + uptoBulkEntries r
def uptoBulkEntry {H : Type} : Lit × DataW H → Nat
  | (.string bytes, d) => bytes.length + uptoBulk d + 1
  | (_, d) => uptoBulk d + 1
 end
def uptoSmall : (H : Type) → List (DataW H) → Bool := fun _ ds => decide (uptoBulkAll ds ≤ 1048576)
def OpenSpec.upto (s : _root_.Go.ChangeSpec) : _root_.Go.OpenSpec := { _root_.Go.OpenSpec.ofChange s with cond := some uptoSmall }

/-- 'longlinelaw10.JoinMakes', WHERE WHAT IT READS IS OF BULK AT MOST 1048576: true; the input reads as it did. -/
def joinMakesUptoRow : OpenClaim := { program := "ytagcpamchgpgiaa", sum := "22872deb50dfb44f1cce496624ba4109660494c4c68a2d0133615afdddf23f58", func := "longline/longlinelaw10.JoinMakes", spec := "joinMakes", unfollowed := true, recurses := true, apart := false, narrowed := true }
def JoinMakesUptoSaid : Prop := joinMakesUptoRow.holds Try.pinned (OpenSpec.upto joinMakesSpec)

/-- 'longlinelaw10.JoinBounds', WHERE WHAT IT READS IS OF BULK AT MOST 1048576: true; the input reads as it did. -/
def joinBoundsUptoRow : OpenClaim := { program := "ytagcpamchgpgiaa", sum := "22872deb50dfb44f1cce496624ba4109660494c4c68a2d0133615afdddf23f58", func := "longline/longlinelaw10.JoinBounds", spec := "joinBounds", unfollowed := true, recurses := true, apart := false, narrowed := true }
def JoinBoundsUptoSaid : Prop := joinBoundsUptoRow.holds Try.pinned (OpenSpec.upto joinBoundsSpec)

/-- 'longlinelaw10.JoinLives', WHERE WHAT IT READS IS OF BULK AT MOST 1048576: true; the input reads as it did. -/
def joinLivesUptoRow : OpenClaim := { program := "ytagcpamchgpgiaa", sum := "22872deb50dfb44f1cce496624ba4109660494c4c68a2d0133615afdddf23f58", func := "longline/longlinelaw10.JoinLives", spec := "joinLives", unfollowed := true, recurses := true, apart := false, narrowed := true }
def JoinLivesUptoSaid : Prop := joinLivesUptoRow.holds Try.pinned (OpenSpec.upto joinLivesSpec)

/-- 'longlinelaw29.SyncVersions', WHERE WHAT IT READS IS OF BULK AT MOST 1048576: true; the input reads as it did. -/
def syncVersionsUptoRow : OpenClaim := { program := "ytagcpamchgpgiaa", sum := "22872deb50dfb44f1cce496624ba4109660494c4c68a2d0133615afdddf23f58", func := "longline/longlinelaw29.SyncVersions", spec := "syncVersions", unfollowed := true, recurses := true, apart := false, narrowed := true }
def SyncVersionsUptoSaid : Prop := syncVersionsUptoRow.holds Try.pinned (OpenSpec.upto syncVersionsSpec)

/-- 'longlinelaw29.SyncComes', WHERE WHAT IT READS IS OF BULK AT MOST 1048576: true; the input reads as it did. -/
def syncComesUptoRow : OpenClaim := { program := "ytagcpamchgpgiaa", sum := "22872deb50dfb44f1cce496624ba4109660494c4c68a2d0133615afdddf23f58", func := "longline/longlinelaw29.SyncComes", spec := "syncComes", unfollowed := true, recurses := true, apart := false, narrowed := true }
def SyncComesUptoSaid : Prop := syncComesUptoRow.holds Try.pinned (OpenSpec.upto syncComesSpec)

/-- 'longlinelaw29.SyncBase', WHERE WHAT IT READS IS OF BULK AT MOST 1048576: true; the input reads as it did. -/
def syncBaseUptoRow : OpenClaim := { program := "ytagcpamchgpgiaa", sum := "22872deb50dfb44f1cce496624ba4109660494c4c68a2d0133615afdddf23f58", func := "longline/longlinelaw29.SyncBase", spec := "syncBase", unfollowed := true, recurses := true, apart := false, narrowed := true }
def SyncBaseUptoSaid : Prop := syncBaseUptoRow.holds Try.pinned (OpenSpec.upto syncBaseSpec)

end Rows
end Go.Proofs.Ytagcpamchgpgiaa
