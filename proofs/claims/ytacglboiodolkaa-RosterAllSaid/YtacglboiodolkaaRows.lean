/-
  No cell of these rows narrows 'for every input' (looked for: loops, veiled, ifaces, maps, wideKeys, modest, calm, conditions, laid).
  DERIVED. THE GIVEN ROWS OF THIS SEAT. 10 by the template 'for every input the law returns true; each argument reads behind the call as it read before'; 0 by the template 'total and deterministic' (their statements: YtacglboiodolkaaTotals.lean).
  GIVEN WITH THE SEED: the statements are not yours to turn. If you find one false, say at which input.
  Laid BY PROGRAM, IN A SANDBOX (cutbox-rows.mjs): the forced cells as the released guide's own fill.sh prints them over the translation ffd53a1db9a837f6… (all of the seat's roots in one cut). By AI agents, Wed Nov 11 2026. No macro, syntax, notation, axiom, sorry.
-/
import Derived.Test.YtacglboiodolkaaChecked
import GoSem.Claim
import GoSem.ClaimJoined
import GoSem.ClaimMapViews
import Derived.JoinedTies
import Derived.KernelRfl
namespace Go.Proofs.Ytacglboiodolkaa
/- THE CELL 'sum', in the pinned program and in every row, IS THE sha256 OF THE DUMP (.gsa) THAT YtacglboiodolkaaProg.lean LOADS. Nothing in Lean hashes anything: it is a label: what it is worth is what the hold of that sum in a sandbox is worth. -/
noncomputable def Try.pinned : Pinned := { name := "ytacglboiodolkaa", sum := "ffd53a1db9a837f6c572dbe8d3558200c99fd80fb8f784a84d71703176a0c60a", checked := Try.checked }
namespace Rows
def none {H : Type} : Left H := { results := [], args := [] }

/-- 'mootlaw40.RosterAll': WHATEVER THE INPUT: true; the input reads as it did. -/
def rosterAllSpec : ChangeSpec := { name := "rosterAll", fn := fun _ => fun
  | [d] => { results := [.lit (.bool true)], args := [d] }
  | _ => none }
def rosterAllRow : OpenClaim := { program := "ytacglboiodolkaa", sum := "ffd53a1db9a837f6c572dbe8d3558200c99fd80fb8f784a84d71703176a0c60a", func := "moot/mootlaw40.RosterAll", spec := "rosterAll", unfollowed := true, recurses := true, apart := false }
def RosterAllSaid : Prop := rosterAllRow.holds Try.pinned (OpenSpec.ofChange rosterAllSpec)

/-- ITS FALSE NEIGHBOUR: 'it returns false'. Refute it at one input. -/
def rosterAllWrong : ChangeSpec := { name := "rosterAll", fn := fun _ => fun
  | [d] => { results := [.lit (.bool false)], args := [d] }
  | _ => none }
def RosterAllWrongFalsely : Prop := rosterAllRow.holds Try.pinned (OpenSpec.ofChange rosterAllWrong)

/-- 'mootlaw39.DumpHex': WHATEVER THE INPUT: true; the input reads as it did. -/
def dumpHexSpec : ChangeSpec := { name := "dumpHex", fn := fun _ => fun
  | [d1, d2] => { results := [.lit (.bool true)], args := [d1, d2] }
  | _ => none }
def dumpHexRow : OpenClaim := { program := "ytacglboiodolkaa", sum := "ffd53a1db9a837f6c572dbe8d3558200c99fd80fb8f784a84d71703176a0c60a", func := "moot/mootlaw39.DumpHex", spec := "dumpHex", inPlace := ["internal/bytealg.IndexByteString", "internal/abi.NoEscape"], apart := false }
def DumpHexSaid : Prop := dumpHexRow.holds Try.pinned (OpenSpec.ofChange dumpHexSpec)

/-- ITS FALSE NEIGHBOUR: 'it returns false'. Refute it at one input. -/
def dumpHexWrong : ChangeSpec := { name := "dumpHex", fn := fun _ => fun
  | [d1, d2] => { results := [.lit (.bool false)], args := [d1, d2] }
  | _ => none }
def DumpHexWrongFalsely : Prop := dumpHexRow.holds Try.pinned (OpenSpec.ofChange dumpHexWrong)

/-- 'mootlaw06.PackWrites': WHATEVER THE INPUT: true; the input reads as it did. -/
def packWritesSpec : ChangeSpec := { name := "packWrites", fn := fun _ => fun
  | [d] => { results := [.lit (.bool true)], args := [d] }
  | _ => none }
def packWritesRow : OpenClaim := { program := "ytacglboiodolkaa", sum := "ffd53a1db9a837f6c572dbe8d3558200c99fd80fb8f784a84d71703176a0c60a", func := "moot/mootlaw06.PackWrites", spec := "packWrites", unfollowed := true, recurses := true, apart := false }
def PackWritesSaid : Prop := packWritesRow.holds Try.pinned (OpenSpec.ofChange packWritesSpec)

/-- ITS FALSE NEIGHBOUR: 'it returns false'. Refute it at one input. -/
def packWritesWrong : ChangeSpec := { name := "packWrites", fn := fun _ => fun
  | [d] => { results := [.lit (.bool false)], args := [d] }
  | _ => none }
def PackWritesWrongFalsely : Prop := packWritesRow.holds Try.pinned (OpenSpec.ofChange packWritesWrong)

/-- 'mootlaw06.PackReads': WHATEVER THE INPUT: true; the input reads as it did. -/
def packReadsSpec : ChangeSpec := { name := "packReads", fn := fun _ => fun
  | [d1, d2] => { results := [.lit (.bool true)], args := [d1, d2] }
  | _ => none }
def packReadsRow : OpenClaim := { program := "ytacglboiodolkaa", sum := "ffd53a1db9a837f6c572dbe8d3558200c99fd80fb8f784a84d71703176a0c60a", func := "moot/mootlaw06.PackReads", spec := "packReads", unfollowed := true, recurses := true, apart := false }
def PackReadsSaid : Prop := packReadsRow.holds Try.pinned (OpenSpec.ofChange packReadsSpec)

/-- ITS FALSE NEIGHBOUR: 'it returns false'. Refute it at one input. -/
def packReadsWrong : ChangeSpec := { name := "packReads", fn := fun _ => fun
  | [d1, d2] => { results := [.lit (.bool false)], args := [d1, d2] }
  | _ => none }
def PackReadsWrongFalsely : Prop := packReadsRow.holds Try.pinned (OpenSpec.ofChange packReadsWrong)

/-- 'mootlaw06.PackNobody': WHATEVER THE INPUT: true; the input reads as it did. -/
def packNobodySpec : ChangeSpec := { name := "packNobody", fn := fun _ => fun
  | [d1, d2] => { results := [.lit (.bool true)], args := [d1, d2] }
  | _ => none }
def packNobodyRow : OpenClaim := { program := "ytacglboiodolkaa", sum := "ffd53a1db9a837f6c572dbe8d3558200c99fd80fb8f784a84d71703176a0c60a", func := "moot/mootlaw06.PackNobody", spec := "packNobody", unfollowed := true, recurses := true, apart := false }
def PackNobodySaid : Prop := packNobodyRow.holds Try.pinned (OpenSpec.ofChange packNobodySpec)

/-- ITS FALSE NEIGHBOUR: 'it returns false'. Refute it at one input. -/
def packNobodyWrong : ChangeSpec := { name := "packNobody", fn := fun _ => fun
  | [d1, d2] => { results := [.lit (.bool false)], args := [d1, d2] }
  | _ => none }
def PackNobodyWrongFalsely : Prop := packNobodyRow.holds Try.pinned (OpenSpec.ofChange packNobodyWrong)

/-- 'mootlaw06.PackBack': WHATEVER THE INPUT: true; the input reads as it did. -/
def packBackSpec : ChangeSpec := { name := "packBack", fn := fun _ => fun
  | [d] => { results := [.lit (.bool true)], args := [d] }
  | _ => none }
def packBackRow : OpenClaim := { program := "ytacglboiodolkaa", sum := "ffd53a1db9a837f6c572dbe8d3558200c99fd80fb8f784a84d71703176a0c60a", func := "moot/mootlaw06.PackBack", spec := "packBack", unfollowed := true, recurses := true, apart := false }
def PackBackSaid : Prop := packBackRow.holds Try.pinned (OpenSpec.ofChange packBackSpec)

/-- ITS FALSE NEIGHBOUR: 'it returns false'. Refute it at one input. -/
def packBackWrong : ChangeSpec := { name := "packBack", fn := fun _ => fun
  | [d] => { results := [.lit (.bool false)], args := [d] }
  | _ => none }
def PackBackWrongFalsely : Prop := packBackRow.holds Try.pinned (OpenSpec.ofChange packBackWrong)

/-- 'mootlaw04.MerkleRows': WHATEVER THE INPUT: true; the input reads as it did. -/
def merkleRowsSpec : ChangeSpec := { name := "merkleRows", fn := fun _ => fun
  | [d] => { results := [.lit (.bool true)], args := [d] }
  | _ => none }
def merkleRowsRow : OpenClaim := { program := "ytacglboiodolkaa", sum := "ffd53a1db9a837f6c572dbe8d3558200c99fd80fb8f784a84d71703176a0c60a", func := "moot/mootlaw04.MerkleRows", spec := "merkleRows", unfollowed := true, recurses := true, apart := false }
def MerkleRowsSaid : Prop := merkleRowsRow.holds Try.pinned (OpenSpec.ofChange merkleRowsSpec)

/-- ITS FALSE NEIGHBOUR: 'it returns false'. Refute it at one input. -/
def merkleRowsWrong : ChangeSpec := { name := "merkleRows", fn := fun _ => fun
  | [d] => { results := [.lit (.bool false)], args := [d] }
  | _ => none }
def MerkleRowsWrongFalsely : Prop := merkleRowsRow.holds Try.pinned (OpenSpec.ofChange merkleRowsWrong)

/-- 'mootlaw04.MerkleWidths': WHATEVER THE INPUT: true; the input reads as it did. -/
def merkleWidthsSpec : ChangeSpec := { name := "merkleWidths", fn := fun _ => fun
  | [d1, d2] => { results := [.lit (.bool true)], args := [d1, d2] }
  | _ => none }
def merkleWidthsRow : OpenClaim := { program := "ytacglboiodolkaa", sum := "ffd53a1db9a837f6c572dbe8d3558200c99fd80fb8f784a84d71703176a0c60a", func := "moot/mootlaw04.MerkleWidths", spec := "merkleWidths", unfollowed := true, recurses := true, apart := false }
def MerkleWidthsSaid : Prop := merkleWidthsRow.holds Try.pinned (OpenSpec.ofChange merkleWidthsSpec)

/-- ITS FALSE NEIGHBOUR: 'it returns false'. Refute it at one input. -/
def merkleWidthsWrong : ChangeSpec := { name := "merkleWidths", fn := fun _ => fun
  | [d1, d2] => { results := [.lit (.bool false)], args := [d1, d2] }
  | _ => none }
def MerkleWidthsWrongFalsely : Prop := merkleWidthsRow.holds Try.pinned (OpenSpec.ofChange merkleWidthsWrong)

/-- 'mootlaw04.MerkleTells': WHATEVER THE INPUT: true; the input reads as it did. -/
def merkleTellsSpec : ChangeSpec := { name := "merkleTells", fn := fun _ => fun
  | [d1, d2, d3, d4] => { results := [.lit (.bool true)], args := [d1, d2, d3, d4] }
  | _ => none }
def merkleTellsRow : OpenClaim := { program := "ytacglboiodolkaa", sum := "ffd53a1db9a837f6c572dbe8d3558200c99fd80fb8f784a84d71703176a0c60a", func := "moot/mootlaw04.MerkleTells", spec := "merkleTells", unfollowed := true, recurses := true, apart := false }
def MerkleTellsSaid : Prop := merkleTellsRow.holds Try.pinned (OpenSpec.ofChange merkleTellsSpec)

/-- ITS FALSE NEIGHBOUR: 'it returns false'. Refute it at one input. -/
def merkleTellsWrong : ChangeSpec := { name := "merkleTells", fn := fun _ => fun
  | [d1, d2, d3, d4] => { results := [.lit (.bool false)], args := [d1, d2, d3, d4] }
  | _ => none }
def MerkleTellsWrongFalsely : Prop := merkleTellsRow.holds Try.pinned (OpenSpec.ofChange merkleTellsWrong)

/-- 'mootlaw04.MerkleBack': WHATEVER THE INPUT: true; the input reads as it did. -/
def merkleBackSpec : ChangeSpec := { name := "merkleBack", fn := fun _ => fun
  | [d1, d2] => { results := [.lit (.bool true)], args := [d1, d2] }
  | _ => none }
def merkleBackRow : OpenClaim := { program := "ytacglboiodolkaa", sum := "ffd53a1db9a837f6c572dbe8d3558200c99fd80fb8f784a84d71703176a0c60a", func := "moot/mootlaw04.MerkleBack", spec := "merkleBack", unfollowed := true, recurses := true, apart := false }
def MerkleBackSaid : Prop := merkleBackRow.holds Try.pinned (OpenSpec.ofChange merkleBackSpec)

/-- ITS FALSE NEIGHBOUR: 'it returns false'. Refute it at one input. -/
def merkleBackWrong : ChangeSpec := { name := "merkleBack", fn := fun _ => fun
  | [d1, d2] => { results := [.lit (.bool false)], args := [d1, d2] }
  | _ => none }
def MerkleBackWrongFalsely : Prop := merkleBackRow.holds Try.pinned (OpenSpec.ofChange merkleBackWrong)

/- THE SECOND FORM. 'bulk': how many values and letters a reading holds, each counted each time it is reached (what is shared counts as often as it is met; a slice's spare places count too). A statement '..UptoSaid' is the law's where the arguments, and the package variables that the reading takes, are together of bulk at most 1048576: NARROWER than '..Said'. Prove '..Said' where nothing that the law and all that it calls make is longer than what came in: it says more and counts as full. Else prove '..UptoSaid'. A law counts once. -/
mutual
def uptoBulk {H : Type} : DataW H → Nat
  | .lit (.string bytes) => bytes.length + 1
  | .lit _ => 1
  | .nil => 1
  | .ptr d => uptoBulk d + 1
  | .slice elems spare => uptoBulkAll elems + uptoBulkAll spare + 1
  | .agg parts => uptoBulkAll parts + 1
  | .iface _ d => uptoBulk d + 1
  | .map entries => uptoBulkEntries entries + 1
  | .held _ => 1
def uptoBulkAll {H : Type} : List (DataW H) → Nat
  | [] => 0
  | d :: r => uptoBulk d + uptoBulkAll r
def uptoBulkEntries {H : Type} : List (Lit × DataW H) → Nat
  | [] => 0
  | x :: r => uptoBulkEntry x + uptoBulkEntries r
def uptoBulkEntry {H : Type} : Lit × DataW H → Nat
  | (.string bytes, d) => bytes.length + uptoBulk d + 1
  | (_, d) => uptoBulk d + 1
 end
def uptoSmall : (H : Type) → List (DataW H) → Bool := fun _ ds => decide (uptoBulkAll ds ≤ 1048576)
def OpenSpec.upto (s : _root_.Go.ChangeSpec) : _root_.Go.OpenSpec := { _root_.Go.OpenSpec.ofChange s with cond := some uptoSmall }

/-- 'mootlaw40.RosterAll', WHERE WHAT IT READS IS OF BULK AT MOST 1048576: true; the input reads as it did. -/
def rosterAllUptoRow : OpenClaim := { program := "ytacglboiodolkaa", sum := "ffd53a1db9a837f6c572dbe8d3558200c99fd80fb8f784a84d71703176a0c60a", func := "moot/mootlaw40.RosterAll", spec := "rosterAll", unfollowed := true, recurses := true, apart := false, narrowed := true }
def RosterAllUptoSaid : Prop := rosterAllUptoRow.holds Try.pinned (OpenSpec.upto rosterAllSpec)

/-- 'mootlaw39.DumpHex', WHERE WHAT IT READS IS OF BULK AT MOST 1048576: true; the input reads as it did. -/
def dumpHexUptoRow : OpenClaim := { program := "ytacglboiodolkaa", sum := "ffd53a1db9a837f6c572dbe8d3558200c99fd80fb8f784a84d71703176a0c60a", func := "moot/mootlaw39.DumpHex", spec := "dumpHex", inPlace := ["internal/bytealg.IndexByteString", "internal/abi.NoEscape"], apart := false, narrowed := true }
def DumpHexUptoSaid : Prop := dumpHexUptoRow.holds Try.pinned (OpenSpec.upto dumpHexSpec)

/-- 'mootlaw06.PackWrites', WHERE WHAT IT READS IS OF BULK AT MOST 1048576: true; the input reads as it did. -/
def packWritesUptoRow : OpenClaim := { program := "ytacglboiodolkaa", sum := "ffd53a1db9a837f6c572dbe8d3558200c99fd80fb8f784a84d71703176a0c60a", func := "moot/mootlaw06.PackWrites", spec := "packWrites", unfollowed := true, recurses := true, apart := false, narrowed := true }
def PackWritesUptoSaid : Prop := packWritesUptoRow.holds Try.pinned (OpenSpec.upto packWritesSpec)

/-- 'mootlaw06.PackReads', WHERE WHAT IT READS IS OF BULK AT MOST 1048576: true; the input reads as it did. -/
def packReadsUptoRow : OpenClaim := { program := "ytacglboiodolkaa", sum := "ffd53a1db9a837f6c572dbe8d3558200c99fd80fb8f784a84d71703176a0c60a", func := "moot/mootlaw06.PackReads", spec := "packReads", unfollowed := true, recurses := true, apart := false, narrowed := true }
def PackReadsUptoSaid : Prop := packReadsUptoRow.holds Try.pinned (OpenSpec.upto packReadsSpec)

/-- 'mootlaw06.PackNobody', WHERE WHAT IT READS IS OF BULK AT MOST 1048576: true; the input reads as it did. -/
def packNobodyUptoRow : OpenClaim := { program := "ytacglboiodolkaa", sum := "ffd53a1db9a837f6c572dbe8d3558200c99fd80fb8f784a84d71703176a0c60a", func := "moot/mootlaw06.PackNobody", spec := "packNobody", unfollowed := true, recurses := true, apart := false, narrowed := true }
def PackNobodyUptoSaid : Prop := packNobodyUptoRow.holds Try.pinned (OpenSpec.upto packNobodySpec)

/-- 'mootlaw06.PackBack', WHERE WHAT IT READS IS OF BULK AT MOST 1048576: true; the input reads as it did. -/
def packBackUptoRow : OpenClaim := { program := "ytacglboiodolkaa", sum := "ffd53a1db9a837f6c572dbe8d3558200c99fd80fb8f784a84d71703176a0c60a", func := "moot/mootlaw06.PackBack", spec := "packBack", unfollowed := true, recurses := true, apart := false, narrowed := true }
def PackBackUptoSaid : Prop := packBackUptoRow.holds Try.pinned (OpenSpec.upto packBackSpec)

/-- 'mootlaw04.MerkleRows', WHERE WHAT IT READS IS OF BULK AT MOST 1048576: true; the input reads as it did. -/
def merkleRowsUptoRow : OpenClaim := { program := "ytacglboiodolkaa", sum := "ffd53a1db9a837f6c572dbe8d3558200c99fd80fb8f784a84d71703176a0c60a", func := "moot/mootlaw04.MerkleRows", spec := "merkleRows", unfollowed := true, recurses := true, apart := false, narrowed := true }
def MerkleRowsUptoSaid : Prop := merkleRowsUptoRow.holds Try.pinned (OpenSpec.upto merkleRowsSpec)

/-- 'mootlaw04.MerkleWidths', WHERE WHAT IT READS IS OF BULK AT MOST 1048576: true; the input reads as it did. -/
def merkleWidthsUptoRow : OpenClaim := { program := "ytacglboiodolkaa", sum := "ffd53a1db9a837f6c572dbe8d3558200c99fd80fb8f784a84d71703176a0c60a", func := "moot/mootlaw04.MerkleWidths", spec := "merkleWidths", unfollowed := true, recurses := true, apart := false, narrowed := true }
def MerkleWidthsUptoSaid : Prop := merkleWidthsUptoRow.holds Try.pinned (OpenSpec.upto merkleWidthsSpec)

/-- 'mootlaw04.MerkleTells', WHERE WHAT IT READS IS OF BULK AT MOST 1048576: true; the input reads as it did. -/
def merkleTellsUptoRow : OpenClaim := { program := "ytacglboiodolkaa", sum := "ffd53a1db9a837f6c572dbe8d3558200c99fd80fb8f784a84d71703176a0c60a", func := "moot/mootlaw04.MerkleTells", spec := "merkleTells", unfollowed := true, recurses := true, apart := false, narrowed := true }
def MerkleTellsUptoSaid : Prop := merkleTellsUptoRow.holds Try.pinned (OpenSpec.upto merkleTellsSpec)

/-- 'mootlaw04.MerkleBack', WHERE WHAT IT READS IS OF BULK AT MOST 1048576: true; the input reads as it did. -/
def merkleBackUptoRow : OpenClaim := { program := "ytacglboiodolkaa", sum := "ffd53a1db9a837f6c572dbe8d3558200c99fd80fb8f784a84d71703176a0c60a", func := "moot/mootlaw04.MerkleBack", spec := "merkleBack", unfollowed := true, recurses := true, apart := false, narrowed := true }
def MerkleBackUptoSaid : Prop := merkleBackUptoRow.holds Try.pinned (OpenSpec.upto merkleBackSpec)

end Rows
end Go.Proofs.Ytacglboiodolkaa
