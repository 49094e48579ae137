/-
  No cell of these rows narrows 'for every input' (looked for: loops, veiled, ifaces, maps, wideKeys, modest, calm, conditions, laid).
  DERIVED. THE GIVEN ROWS OF THIS SEAT. 4 by the template 'for every input the law returns true; each argument reads behind the call as it read before'; 0 by the template 'total and deterministic' (their statements: YtenmlgalcjkdbaaGreatTotals.lean).
  GIVEN WITH THE SEED: the statements are not yours to turn. If you find one false, say at which input.
  Laid BY PROGRAM, IN A SANDBOX (cutbox-rows.mjs): the forced cells as the released guide's own fill.sh prints them over the translation 693c8e47d0371fe5… (all of the seat's roots in one cut). By AI agents, Wed Nov 11 2026. No macro, syntax, notation, axiom, sorry.
-/
import Derived.Test.YtenmlgalcjkdbaaGreatChecked
import GoSem.Claim
import GoSem.ClaimJoined
import GoSem.ClaimMapViews
import Derived.JoinedTies
import Derived.KernelRfl
namespace Go.Proofs.YtenmlgalcjkdbaaGreat
/- THE CELL 'sum', in the pinned program and in every row, IS THE sha256 OF THE DUMP (.gsa) THAT YtenmlgalcjkdbaaGreatProg.lean LOADS. Nothing in Lean hashes anything: it is a label: what it is worth is what the hold of that sum in a sandbox is worth. -/
noncomputable def Tryz.pinned : Pinned := { name := "ytenmlgalcjkdbaagreat", sum := "693c8e47d0371fe571f714c0e1d757726ad6ad4d3b197ccdfd6c88d3295d75f7", checked := Tryz.checked }
namespace Rows
def none {H : Type} : Left H := { results := [], args := [] }

/-- 'mootlaw10.BlockSigned': WHATEVER THE INPUT: true; the input reads as it did. -/
def blockSignedSpec : ChangeSpec := { name := "blockSigned", fn := fun _ => fun
  | [d1, d2, d3] => { results := [.lit (.bool true)], args := [d1, d2, d3] }
  | _ => none }
def blockSignedRow : OpenClaim := { program := "ytenmlgalcjkdbaagreat", sum := "693c8e47d0371fe571f714c0e1d757726ad6ad4d3b197ccdfd6c88d3295d75f7", func := "moot/mootlaw10.BlockSigned", spec := "blockSigned", inPlace := ["internal/abi.NoEscape", "internal/bytealg.MakeNoZero"], unfollowed := true, recurses := true, apart := false }
def BlockSignedSaid : Prop := blockSignedRow.holds Tryz.pinned (OpenSpec.ofChange blockSignedSpec)

/-- ITS FALSE NEIGHBOUR: 'it returns false'. Refute it at one input. -/
def blockSignedWrong : ChangeSpec := { name := "blockSigned", fn := fun _ => fun
  | [d1, d2, d3] => { results := [.lit (.bool false)], args := [d1, d2, d3] }
  | _ => none }
def BlockSignedWrongFalsely : Prop := blockSignedRow.holds Tryz.pinned (OpenSpec.ofChange blockSignedWrong)

/-- 'mootlaw42.ForensicFinds': WHATEVER THE INPUT: true; the input reads as it did. -/
def forensicFindsSpec : ChangeSpec := { name := "forensicFinds", fn := fun _ => fun
  | [d1, d2, d3] => { results := [.lit (.bool true)], args := [d1, d2, d3] }
  | _ => none }
def forensicFindsRow : OpenClaim := { program := "ytenmlgalcjkdbaagreat", sum := "693c8e47d0371fe571f714c0e1d757726ad6ad4d3b197ccdfd6c88d3295d75f7", func := "moot/mootlaw42.ForensicFinds", spec := "forensicFinds", inPlace := ["internal/abi.NoEscape", "internal/bytealg.MakeNoZero"], unfollowed := true, recurses := true, apart := false }
def ForensicFindsSaid : Prop := forensicFindsRow.holds Tryz.pinned (OpenSpec.ofChange forensicFindsSpec)

/-- ITS FALSE NEIGHBOUR: 'it returns false'. Refute it at one input. -/
def forensicFindsWrong : ChangeSpec := { name := "forensicFinds", fn := fun _ => fun
  | [d1, d2, d3] => { results := [.lit (.bool false)], args := [d1, d2, d3] }
  | _ => none }
def ForensicFindsWrongFalsely : Prop := forensicFindsRow.holds Tryz.pinned (OpenSpec.ofChange forensicFindsWrong)

/-- 'mootlaw17.GuardChain': WHATEVER THE INPUT: true; the input reads as it did. -/
def guardChainSpec : ChangeSpec := { name := "guardChain", fn := fun _ => fun
  | [d1, d2, d3] => { results := [.lit (.bool true)], args := [d1, d2, d3] }
  | _ => none }
def guardChainRow : OpenClaim := { program := "ytenmlgalcjkdbaagreat", sum := "693c8e47d0371fe571f714c0e1d757726ad6ad4d3b197ccdfd6c88d3295d75f7", func := "moot/mootlaw17.GuardChain", spec := "guardChain", inPlace := ["internal/abi.NoEscape", "internal/bytealg.MakeNoZero"], unfollowed := true, recurses := true, apart := false }
def GuardChainSaid : Prop := guardChainRow.holds Tryz.pinned (OpenSpec.ofChange guardChainSpec)

/-- ITS FALSE NEIGHBOUR: 'it returns false'. Refute it at one input. -/
def guardChainWrong : ChangeSpec := { name := "guardChain", fn := fun _ => fun
  | [d1, d2, d3] => { results := [.lit (.bool false)], args := [d1, d2, d3] }
  | _ => none }
def GuardChainWrongFalsely : Prop := guardChainRow.holds Tryz.pinned (OpenSpec.ofChange guardChainWrong)

/-- 'mootlaw10.BlockValid': WHATEVER THE INPUT: true; the input reads as it did. -/
def blockValidSpec : ChangeSpec := { name := "blockValid", fn := fun _ => fun
  | [d1, d2] => { results := [.lit (.bool true)], args := [d1, d2] }
  | _ => none }
def blockValidRow : OpenClaim := { program := "ytenmlgalcjkdbaagreat", sum := "693c8e47d0371fe571f714c0e1d757726ad6ad4d3b197ccdfd6c88d3295d75f7", func := "moot/mootlaw10.BlockValid", spec := "blockValid", inPlace := ["internal/abi.NoEscape", "internal/bytealg.MakeNoZero"], unfollowed := true, recurses := true, apart := false }
def BlockValidSaid : Prop := blockValidRow.holds Tryz.pinned (OpenSpec.ofChange blockValidSpec)

/-- ITS FALSE NEIGHBOUR: 'it returns false'. Refute it at one input. -/
def blockValidWrong : ChangeSpec := { name := "blockValid", fn := fun _ => fun
  | [d1, d2] => { results := [.lit (.bool false)], args := [d1, d2] }
  | _ => none }
def BlockValidWrongFalsely : Prop := blockValidRow.holds Tryz.pinned (OpenSpec.ofChange blockValidWrong)

/- THE SECOND FORM. 'bulk': how many values and letters a reading holds, each counted each time it is reached (what is shared counts as often as it is met; a slice's spare places count too). A statement '..UptoSaid' is the law's where the arguments, and the package variables that the reading takes, are together of bulk at most 1048576: NARROWER than '..Said'. Prove '..Said' where nothing that the law and all that it calls make is longer than what came in: it says more and counts as full. Else prove '..UptoSaid'. A law counts once. -/
mutual
def uptoBulk {H : Type} : DataW H → Nat
  | .lit (.string bytes) => bytes.length + 1
  | .lit _ => 1
  | .nil => 1
  | .ptr d => uptoBulk d + 1
  | .slice elems spare => uptoBulkAll elems + uptoBulkAll spare + 1
  | .agg parts => uptoBulkAll parts + 1
  | .iface _ d => uptoBulk d + 1
  | .map entries => uptoBulkEntries entries + 1
  | .held _ => 1
def uptoBulkAll {H : Type} : List (DataW H) → Nat
  | [] => 0
  | d :: r => uptoBulk d + uptoBulkAll r
def uptoBulkEntries {H : Type} : List (Lit × DataW H) → Nat
  | [] => 0
  | x :: r => uptoBulkEntry x + uptoBulkEntries r
def uptoBulkEntry {H : Type} : Lit × DataW H → Nat
  | (.string bytes, d) => bytes.length + uptoBulk d + 1
  | (_, d) => uptoBulk d + 1
 end
def uptoSmall : (H : Type) → List (DataW H) → Bool := fun _ ds => decide (uptoBulkAll ds ≤ 1048576)
def OpenSpec.upto (s : _root_.Go.ChangeSpec) : _root_.Go.OpenSpec := { _root_.Go.OpenSpec.ofChange s with cond := some uptoSmall }

/-- 'mootlaw10.BlockSigned', WHERE WHAT IT READS IS OF BULK AT MOST 1048576: true; the input reads as it did. -/
def blockSignedUptoRow : OpenClaim := { program := "ytenmlgalcjkdbaagreat", sum := "693c8e47d0371fe571f714c0e1d757726ad6ad4d3b197ccdfd6c88d3295d75f7", func := "moot/mootlaw10.BlockSigned", spec := "blockSigned", inPlace := ["internal/abi.NoEscape", "internal/bytealg.MakeNoZero"], unfollowed := true, recurses := true, apart := false, narrowed := true }
def BlockSignedUptoSaid : Prop := blockSignedUptoRow.holds Tryz.pinned (OpenSpec.upto blockSignedSpec)

/-- 'mootlaw42.ForensicFinds', WHERE WHAT IT READS IS OF BULK AT MOST 1048576: true; the input reads as it did. -/
def forensicFindsUptoRow : OpenClaim := { program := "ytenmlgalcjkdbaagreat", sum := "693c8e47d0371fe571f714c0e1d757726ad6ad4d3b197ccdfd6c88d3295d75f7", func := "moot/mootlaw42.ForensicFinds", spec := "forensicFinds", inPlace := ["internal/abi.NoEscape", "internal/bytealg.MakeNoZero"], unfollowed := true, recurses := true, apart := false, narrowed := true }
def ForensicFindsUptoSaid : Prop := forensicFindsUptoRow.holds Tryz.pinned (OpenSpec.upto forensicFindsSpec)

/-- 'mootlaw17.GuardChain', WHERE WHAT IT READS IS OF BULK AT MOST 1048576: true; the input reads as it did. -/
def guardChainUptoRow : OpenClaim := { program := "ytenmlgalcjkdbaagreat", sum := "693c8e47d0371fe571f714c0e1d757726ad6ad4d3b197ccdfd6c88d3295d75f7", func := "moot/mootlaw17.GuardChain", spec := "guardChain", inPlace := ["internal/abi.NoEscape", "internal/bytealg.MakeNoZero"], unfollowed := true, recurses := true, apart := false, narrowed := true }
def GuardChainUptoSaid : Prop := guardChainUptoRow.holds Tryz.pinned (OpenSpec.upto guardChainSpec)

/-- 'mootlaw10.BlockValid', WHERE WHAT IT READS IS OF BULK AT MOST 1048576: true; the input reads as it did. -/
def blockValidUptoRow : OpenClaim := { program := "ytenmlgalcjkdbaagreat", sum := "693c8e47d0371fe571f714c0e1d757726ad6ad4d3b197ccdfd6c88d3295d75f7", func := "moot/mootlaw10.BlockValid", spec := "blockValid", inPlace := ["internal/abi.NoEscape", "internal/bytealg.MakeNoZero"], unfollowed := true, recurses := true, apart := false, narrowed := true }
def BlockValidUptoSaid : Prop := blockValidUptoRow.holds Tryz.pinned (OpenSpec.upto blockValidSpec)

end Rows
end Go.Proofs.YtenmlgalcjkdbaaGreat
