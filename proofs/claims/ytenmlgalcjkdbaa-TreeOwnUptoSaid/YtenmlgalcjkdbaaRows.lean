/-
  No cell of these rows narrows 'for every input' (looked for: loops, veiled, ifaces, maps, wideKeys, modest, calm, conditions, laid).
  DERIVED. THE GIVEN ROWS OF THIS SEAT. 8 by the template 'for every input the law returns true; each argument reads behind the call as it read before'; 0 by the template 'total and deterministic' (their statements: YtenmlgalcjkdbaaTotals.lean).
  GIVEN WITH THE SEED: the statements are not yours to turn. If you find one false, say at which input.
  Laid BY PROGRAM, IN A SANDBOX (cutbox-rows.mjs): the forced cells as the released guide's own fill.sh prints them over the translation b3311bf5d65d4fe3… (all of the seat's roots in one cut). By AI agents, Wed Nov 11 2026. No macro, syntax, notation, axiom, sorry.
-/
import Derived.Test.YtenmlgalcjkdbaaChecked
import GoSem.Claim
import GoSem.ClaimJoined
import GoSem.ClaimMapViews
import Derived.JoinedTies
import Derived.KernelRfl
namespace Go.Proofs.Ytenmlgalcjkdbaa
/- THE CELL 'sum', in the pinned program and in every row, IS THE sha256 OF THE DUMP (.gsa) THAT YtenmlgalcjkdbaaProg.lean LOADS. Nothing in Lean hashes anything: it is a label: what it is worth is what the hold of that sum in a sandbox is worth. -/
noncomputable def Try.pinned : Pinned := { name := "ytenmlgalcjkdbaa", sum := "b3311bf5d65d4fe3ab4d85645f3deb8752bf7be204d18eaad96c7dc0660e437f", checked := Try.checked }
namespace Rows
def none {H : Type} : Left H := { results := [], args := [] }

/-- 'mootlaw10.BlockNames': WHATEVER THE INPUT: true; the input reads as it did. -/
def blockNamesSpec : ChangeSpec := { name := "blockNames", fn := fun _ => fun
  | [d1, d2, d3] => { results := [.lit (.bool true)], args := [d1, d2, d3] }
  | _ => none }
def blockNamesRow : OpenClaim := { program := "ytenmlgalcjkdbaa", sum := "b3311bf5d65d4fe3ab4d85645f3deb8752bf7be204d18eaad96c7dc0660e437f", func := "moot/mootlaw10.BlockNames", spec := "blockNames", inPlace := ["internal/abi.NoEscape", "internal/bytealg.MakeNoZero"], unfollowed := true, recurses := true, apart := false }
def BlockNamesSaid : Prop := blockNamesRow.holds Try.pinned (OpenSpec.ofChange blockNamesSpec)

/-- ITS FALSE NEIGHBOUR: 'it returns false'. Refute it at one input. -/
def blockNamesWrong : ChangeSpec := { name := "blockNames", fn := fun _ => fun
  | [d1, d2, d3] => { results := [.lit (.bool false)], args := [d1, d2, d3] }
  | _ => none }
def BlockNamesWrongFalsely : Prop := blockNamesRow.holds Try.pinned (OpenSpec.ofChange blockNamesWrong)

/-- 'mootlaw14.TreeThree': WHATEVER THE INPUT: true; the input reads as it did. -/
def treeThreeSpec : ChangeSpec := { name := "treeThree", fn := fun _ => fun
  | [d1, d2, d3, d4] => { results := [.lit (.bool true)], args := [d1, d2, d3, d4] }
  | _ => none }
def treeThreeRow : OpenClaim := { program := "ytenmlgalcjkdbaa", sum := "b3311bf5d65d4fe3ab4d85645f3deb8752bf7be204d18eaad96c7dc0660e437f", func := "moot/mootlaw14.TreeThree", spec := "treeThree", inPlace := ["internal/abi.NoEscape", "internal/bytealg.MakeNoZero"], unfollowed := true, recurses := true, apart := false }
def TreeThreeSaid : Prop := treeThreeRow.holds Try.pinned (OpenSpec.ofChange treeThreeSpec)

/-- ITS FALSE NEIGHBOUR: 'it returns false'. Refute it at one input. -/
def treeThreeWrong : ChangeSpec := { name := "treeThree", fn := fun _ => fun
  | [d1, d2, d3, d4] => { results := [.lit (.bool false)], args := [d1, d2, d3, d4] }
  | _ => none }
def TreeThreeWrongFalsely : Prop := treeThreeRow.holds Try.pinned (OpenSpec.ofChange treeThreeWrong)

/-- 'mootlaw14.TreeOrder': WHATEVER THE INPUT: true; the input reads as it did. -/
def treeOrderSpec : ChangeSpec := { name := "treeOrder", fn := fun _ => fun
  | [d1, d2] => { results := [.lit (.bool true)], args := [d1, d2] }
  | _ => none }
def treeOrderRow : OpenClaim := { program := "ytenmlgalcjkdbaa", sum := "b3311bf5d65d4fe3ab4d85645f3deb8752bf7be204d18eaad96c7dc0660e437f", func := "moot/mootlaw14.TreeOrder", spec := "treeOrder", inPlace := ["internal/abi.NoEscape", "internal/bytealg.MakeNoZero"], unfollowed := true, recurses := true, apart := false }
def TreeOrderSaid : Prop := treeOrderRow.holds Try.pinned (OpenSpec.ofChange treeOrderSpec)

/-- ITS FALSE NEIGHBOUR: 'it returns false'. Refute it at one input. -/
def treeOrderWrong : ChangeSpec := { name := "treeOrder", fn := fun _ => fun
  | [d1, d2] => { results := [.lit (.bool false)], args := [d1, d2] }
  | _ => none }
def TreeOrderWrongFalsely : Prop := treeOrderRow.holds Try.pinned (OpenSpec.ofChange treeOrderWrong)

/-- 'mootlaw14.TreeOwn': WHATEVER THE INPUT: true; the input reads as it did. -/
def treeOwnSpec : ChangeSpec := { name := "treeOwn", fn := fun _ => fun
  | [d] => { results := [.lit (.bool true)], args := [d] }
  | _ => none }
def treeOwnRow : OpenClaim := { program := "ytenmlgalcjkdbaa", sum := "b3311bf5d65d4fe3ab4d85645f3deb8752bf7be204d18eaad96c7dc0660e437f", func := "moot/mootlaw14.TreeOwn", spec := "treeOwn", inPlace := ["internal/abi.NoEscape", "internal/bytealg.MakeNoZero"], unfollowed := true, recurses := true, apart := false }
def TreeOwnSaid : Prop := treeOwnRow.holds Try.pinned (OpenSpec.ofChange treeOwnSpec)

/-- ITS FALSE NEIGHBOUR: 'it returns false'. Refute it at one input. -/
def treeOwnWrong : ChangeSpec := { name := "treeOwn", fn := fun _ => fun
  | [d] => { results := [.lit (.bool false)], args := [d] }
  | _ => none }
def TreeOwnWrongFalsely : Prop := treeOwnRow.holds Try.pinned (OpenSpec.ofChange treeOwnWrong)

/-- 'mootlaw14.TreeTells': WHATEVER THE INPUT: true; the input reads as it did. -/
def treeTellsSpec : ChangeSpec := { name := "treeTells", fn := fun _ => fun
  | [d1, d2, d3] => { results := [.lit (.bool true)], args := [d1, d2, d3] }
  | _ => none }
def treeTellsRow : OpenClaim := { program := "ytenmlgalcjkdbaa", sum := "b3311bf5d65d4fe3ab4d85645f3deb8752bf7be204d18eaad96c7dc0660e437f", func := "moot/mootlaw14.TreeTells", spec := "treeTells", inPlace := ["internal/abi.NoEscape", "internal/bytealg.MakeNoZero"], unfollowed := true, recurses := true, apart := false }
def TreeTellsSaid : Prop := treeTellsRow.holds Try.pinned (OpenSpec.ofChange treeTellsSpec)

/-- ITS FALSE NEIGHBOUR: 'it returns false'. Refute it at one input. -/
def treeTellsWrong : ChangeSpec := { name := "treeTells", fn := fun _ => fun
  | [d1, d2, d3] => { results := [.lit (.bool false)], args := [d1, d2, d3] }
  | _ => none }
def TreeTellsWrongFalsely : Prop := treeTellsRow.holds Try.pinned (OpenSpec.ofChange treeTellsWrong)

/-- 'mootlaw43.PlannerTells': WHATEVER THE INPUT: true; the input reads as it did. -/
def plannerTellsSpec : ChangeSpec := { name := "plannerTells", fn := fun _ => fun
  | [d1, d2, d3] => { results := [.lit (.bool true)], args := [d1, d2, d3] }
  | _ => none }
def plannerTellsRow : OpenClaim := { program := "ytenmlgalcjkdbaa", sum := "b3311bf5d65d4fe3ab4d85645f3deb8752bf7be204d18eaad96c7dc0660e437f", func := "moot/mootlaw43.PlannerTells", spec := "plannerTells", inPlace := ["internal/abi.NoEscape", "internal/bytealg.MakeNoZero"], unfollowed := true, recurses := true, apart := false }
def PlannerTellsSaid : Prop := plannerTellsRow.holds Try.pinned (OpenSpec.ofChange plannerTellsSpec)

/-- ITS FALSE NEIGHBOUR: 'it returns false'. Refute it at one input. -/
def plannerTellsWrong : ChangeSpec := { name := "plannerTells", fn := fun _ => fun
  | [d1, d2, d3] => { results := [.lit (.bool false)], args := [d1, d2, d3] }
  | _ => none }
def PlannerTellsWrongFalsely : Prop := plannerTellsRow.holds Try.pinned (OpenSpec.ofChange plannerTellsWrong)

/-- 'mootlaw43.PlannerFills': WHATEVER THE INPUT: true; the input reads as it did. -/
def plannerFillsSpec : ChangeSpec := { name := "plannerFills", fn := fun _ => fun
  | [d1, d2, d3] => { results := [.lit (.bool true)], args := [d1, d2, d3] }
  | _ => none }
def plannerFillsRow : OpenClaim := { program := "ytenmlgalcjkdbaa", sum := "b3311bf5d65d4fe3ab4d85645f3deb8752bf7be204d18eaad96c7dc0660e437f", func := "moot/mootlaw43.PlannerFills", spec := "plannerFills", inPlace := ["internal/abi.NoEscape", "internal/bytealg.MakeNoZero"], unfollowed := true, recurses := true, apart := false }
def PlannerFillsSaid : Prop := plannerFillsRow.holds Try.pinned (OpenSpec.ofChange plannerFillsSpec)

/-- ITS FALSE NEIGHBOUR: 'it returns false'. Refute it at one input. -/
def plannerFillsWrong : ChangeSpec := { name := "plannerFills", fn := fun _ => fun
  | [d1, d2, d3] => { results := [.lit (.bool false)], args := [d1, d2, d3] }
  | _ => none }
def PlannerFillsWrongFalsely : Prop := plannerFillsRow.holds Try.pinned (OpenSpec.ofChange plannerFillsWrong)

/-- 'mootlaw17.GuardBelow': WHATEVER THE INPUT: true; the input reads as it did. -/
def guardBelowSpec : ChangeSpec := { name := "guardBelow", fn := fun _ => fun
  | [d1, d2, d3, d4] => { results := [.lit (.bool true)], args := [d1, d2, d3, d4] }
  | _ => none }
def guardBelowRow : OpenClaim := { program := "ytenmlgalcjkdbaa", sum := "b3311bf5d65d4fe3ab4d85645f3deb8752bf7be204d18eaad96c7dc0660e437f", func := "moot/mootlaw17.GuardBelow", spec := "guardBelow", inPlace := ["internal/abi.NoEscape", "internal/bytealg.MakeNoZero"], unfollowed := true, recurses := true, apart := false }
def GuardBelowSaid : Prop := guardBelowRow.holds Try.pinned (OpenSpec.ofChange guardBelowSpec)

/-- ITS FALSE NEIGHBOUR: 'it returns false'. Refute it at one input. -/
def guardBelowWrong : ChangeSpec := { name := "guardBelow", fn := fun _ => fun
  | [d1, d2, d3, d4] => { results := [.lit (.bool false)], args := [d1, d2, d3, d4] }
  | _ => none }
def GuardBelowWrongFalsely : Prop := guardBelowRow.holds Try.pinned (OpenSpec.ofChange guardBelowWrong)

/- THE SECOND FORM. 'bulk': how many values and letters a reading holds, each counted each time it is reached (what is shared counts as often as it is met; a slice's spare places count too). A statement '..UptoSaid' is the law's where the arguments, and the package variables that the reading takes, are together of bulk at most 1048576: NARROWER than '..Said'. Prove '..Said' where nothing that the law and all that it calls make is longer than what came in: it says more and counts as full. Else prove '..UptoSaid'. A law counts once. -/
mutual
def uptoBulk {H : Type} : DataW H → Nat
  | .lit (.string bytes) => bytes.length + 1
  | .lit _ => 1
  | .nil => 1
  | .ptr d => uptoBulk d + 1
  | .slice elems spare => uptoBulkAll elems + uptoBulkAll spare + 1
  | .agg parts => uptoBulkAll parts + 1
  | .iface _ d => uptoBulk d + 1
  | .map entries => uptoBulkEntries entries + 1
  | .held _ => 1
def uptoBulkAll {H : Type} : List (DataW H) → Nat
  | [] => 0
  | d :: r => uptoBulk d + uptoBulkAll r
def uptoBulkEntries {H : Type} : List (Lit × DataW H) → Nat
  | [] => 0
  | x :: r => uptoBulkEntry x + uptoBulkEntries r
def uptoBulkEntry {H : Type} : Lit × DataW H → Nat
  | (.string bytes, d) => bytes.length + uptoBulk d + 1
  | (_, d) => uptoBulk d + 1
 end
def uptoSmall : (H : Type) → List (DataW H) → Bool := fun _ ds => decide (uptoBulkAll ds ≤ 1048576)
def OpenSpec.upto (s : _root_.Go.ChangeSpec) : _root_.Go.OpenSpec := { _root_.Go.OpenSpec.ofChange s with cond := some uptoSmall }

/-- 'mootlaw10.BlockNames', WHERE WHAT IT READS IS OF BULK AT MOST 1048576: true; the input reads as it did. -/
def blockNamesUptoRow : OpenClaim := { program := "ytenmlgalcjkdbaa", sum := "b3311bf5d65d4fe3ab4d85645f3deb8752bf7be204d18eaad96c7dc0660e437f", func := "moot/mootlaw10.BlockNames", spec := "blockNames", inPlace := ["internal/abi.NoEscape", "internal/bytealg.MakeNoZero"], unfollowed := true, recurses := true, apart := false, narrowed := true }
def BlockNamesUptoSaid : Prop := blockNamesUptoRow.holds Try.pinned (OpenSpec.upto blockNamesSpec)

/-- 'mootlaw14.TreeThree', WHERE WHAT IT READS IS OF BULK AT MOST 1048576: true; the input reads as it did. -/
def treeThreeUptoRow : OpenClaim := { program := "ytenmlgalcjkdbaa", sum := "b3311bf5d65d4fe3ab4d85645f3deb8752bf7be204d18eaad96c7dc0660e437f", func := "moot/mootlaw14.TreeThree", spec := "treeThree", inPlace := ["internal/abi.NoEscape", "internal/bytealg.MakeNoZero"], unfollowed := true, recurses := true, apart := false, narrowed := true }
def TreeThreeUptoSaid : Prop := treeThreeUptoRow.holds Try.pinned (OpenSpec.upto treeThreeSpec)

/-- 'mootlaw14.TreeOrder', WHERE WHAT IT READS IS OF BULK AT MOST 1048576: true; the input reads as it did. -/
def treeOrderUptoRow : OpenClaim := { program := "ytenmlgalcjkdbaa", sum := "b3311bf5d65d4fe3ab4d85645f3deb8752bf7be204d18eaad96c7dc0660e437f", func := "moot/mootlaw14.TreeOrder", spec := "treeOrder", inPlace := ["internal/abi.NoEscape", "internal/bytealg.MakeNoZero"], unfollowed := true, recurses := true, apart := false, narrowed := true }
def TreeOrderUptoSaid : Prop := treeOrderUptoRow.holds Try.pinned (OpenSpec.upto treeOrderSpec)

/-- 'mootlaw14.TreeOwn', WHERE WHAT IT READS IS OF BULK AT MOST 1048576: true; the input reads as it did. -/
def treeOwnUptoRow : OpenClaim := { program := "ytenmlgalcjkdbaa", sum := "b3311bf5d65d4fe3ab4d85645f3deb8752bf7be204d18eaad96c7dc0660e437f", func := "moot/mootlaw14.TreeOwn", spec := "treeOwn", inPlace := ["internal/abi.NoEscape", "internal/bytealg.MakeNoZero"], unfollowed := true, recurses := true, apart := false, narrowed := true }
def TreeOwnUptoSaid : Prop := treeOwnUptoRow.holds Try.pinned (OpenSpec.upto treeOwnSpec)

/-- 'mootlaw14.TreeTells', WHERE WHAT IT READS IS OF BULK AT MOST 1048576: true; the input reads as it did. -/
def treeTellsUptoRow : OpenClaim := { program := "ytenmlgalcjkdbaa", sum := "b3311bf5d65d4fe3ab4d85645f3deb8752bf7be204d18eaad96c7dc0660e437f", func := "moot/mootlaw14.TreeTells", spec := "treeTells", inPlace := ["internal/abi.NoEscape", "internal/bytealg.MakeNoZero"], unfollowed := true, recurses := true, apart := false, narrowed := true }
def TreeTellsUptoSaid : Prop := treeTellsUptoRow.holds Try.pinned (OpenSpec.upto treeTellsSpec)

/-- 'mootlaw43.PlannerTells', WHERE WHAT IT READS IS OF BULK AT MOST 1048576: true; the input reads as it did. -/
def plannerTellsUptoRow : OpenClaim := { program := "ytenmlgalcjkdbaa", sum := "b3311bf5d65d4fe3ab4d85645f3deb8752bf7be204d18eaad96c7dc0660e437f", func := "moot/mootlaw43.PlannerTells", spec := "plannerTells", inPlace := ["internal/abi.NoEscape", "internal/bytealg.MakeNoZero"], unfollowed := true, recurses := true, apart := false, narrowed := true }
def PlannerTellsUptoSaid : Prop := plannerTellsUptoRow.holds Try.pinned (OpenSpec.upto plannerTellsSpec)

/-- 'mootlaw43.PlannerFills', WHERE WHAT IT READS IS OF BULK AT MOST 1048576: true; the input reads as it did. -/
def plannerFillsUptoRow : OpenClaim := { program := "ytenmlgalcjkdbaa", sum := "b3311bf5d65d4fe3ab4d85645f3deb8752bf7be204d18eaad96c7dc0660e437f", func := "moot/mootlaw43.PlannerFills", spec := "plannerFills", inPlace := ["internal/abi.NoEscape", "internal/bytealg.MakeNoZero"], unfollowed := true, recurses := true, apart := false, narrowed := true }
def PlannerFillsUptoSaid : Prop := plannerFillsUptoRow.holds Try.pinned (OpenSpec.upto plannerFillsSpec)

/-- 'mootlaw17.GuardBelow', WHERE WHAT IT READS IS OF BULK AT MOST 1048576: true; the input reads as it did. -/
def guardBelowUptoRow : OpenClaim := { program := "ytenmlgalcjkdbaa", sum := "b3311bf5d65d4fe3ab4d85645f3deb8752bf7be204d18eaad96c7dc0660e437f", func := "moot/mootlaw17.GuardBelow", spec := "guardBelow", inPlace := ["internal/abi.NoEscape", "internal/bytealg.MakeNoZero"], unfollowed := true, recurses := true, apart := false, narrowed := true }
def GuardBelowUptoSaid : Prop := guardBelowUptoRow.holds Try.pinned (OpenSpec.upto guardBelowSpec)

end Rows
end Go.Proofs.Ytenmlgalcjkdbaa
