/-
  No cell of these rows narrows 'for every input' (looked for: loops, veiled, ifaces, maps, wideKeys, modest, calm, conditions, laid).
  DERIVED. THE GIVEN ROWS OF THIS SEAT. 6 by the template 'for every input the law returns true; each argument reads behind the call as it read before'; 0 by the template 'total and deterministic' (their statements: YtcfijanfcgnnhaaTotals.lean).
  GIVEN WITH THE SEED: the statements are not yours to turn. If you find one false, say at which input.
  Laid BY PROGRAM, IN A SANDBOX (cutbox-rows.mjs): the forced cells as the released guide's own fill.sh prints them over the translation 64203b5e7e33ffd1… (all of the seat's roots in one cut). By AI agents, Wed Nov 11 2026. No macro, syntax, notation, axiom, sorry.
-/
import Derived.Test.YtcfijanfcgnnhaaChecked
import GoSem.Claim
import GoSem.ClaimJoined
import GoSem.ClaimMapViews
import Derived.JoinedTies
import Derived.KernelRfl
namespace Go.Proofs.Ytcfijanfcgnnhaa
/- THE CELL 'sum', in the pinned program and in every row, IS THE sha256 OF THE DUMP (.gsa) THAT YtcfijanfcgnnhaaProg.lean LOADS. Nothing in Lean hashes anything: it is a label: what it is worth is what the hold of that sum in a sandbox is worth. -/
noncomputable def Try.pinned : Pinned := { name := "ytcfijanfcgnnhaa", sum := "64203b5e7e33ffd18e240ba7659a9264fe51bca625675f97f2bc63c5075f81f5", checked := Try.checked }
namespace Rows
def none {H : Type} : Left H := { results := [], args := [] }

/-- 'mootlaw39.DumpHex': WHATEVER THE INPUT: true; the input reads as it did. -/
def dumpHexSpec : ChangeSpec := { name := "dumpHex", fn := fun _ => fun
  | [d1, d2] => { results := [.lit (.bool true)], args := [d1, d2] }
  | _ => none }
def dumpHexRow : OpenClaim := { program := "ytcfijanfcgnnhaa", sum := "64203b5e7e33ffd18e240ba7659a9264fe51bca625675f97f2bc63c5075f81f5", func := "moot/mootlaw39.DumpHex", spec := "dumpHex", inPlace := ["internal/bytealg.IndexByteString", "internal/abi.NoEscape"], apart := false }
def DumpHexSaid : Prop := dumpHexRow.holds Try.pinned (OpenSpec.ofChange dumpHexSpec)

/-- ITS FALSE NEIGHBOUR: 'it returns false'. Refute it at one input. -/
def dumpHexWrong : ChangeSpec := { name := "dumpHex", fn := fun _ => fun
  | [d1, d2] => { results := [.lit (.bool false)], args := [d1, d2] }
  | _ => none }
def DumpHexWrongFalsely : Prop := dumpHexRow.holds Try.pinned (OpenSpec.ofChange dumpHexWrong)

/-- 'mootlaw06.PackReads': WHATEVER THE INPUT: true; the input reads as it did. -/
def packReadsSpec : ChangeSpec := { name := "packReads", fn := fun _ => fun
  | [d1, d2] => { results := [.lit (.bool true)], args := [d1, d2] }
  | _ => none }
def packReadsRow : OpenClaim := { program := "ytcfijanfcgnnhaa", sum := "64203b5e7e33ffd18e240ba7659a9264fe51bca625675f97f2bc63c5075f81f5", func := "moot/mootlaw06.PackReads", spec := "packReads", unfollowed := true, recurses := true, apart := false }
def PackReadsSaid : Prop := packReadsRow.holds Try.pinned (OpenSpec.ofChange packReadsSpec)

/-- ITS FALSE NEIGHBOUR: 'it returns false'. Refute it at one input. -/
def packReadsWrong : ChangeSpec := { name := "packReads", fn := fun _ => fun
  | [d1, d2] => { results := [.lit (.bool false)], args := [d1, d2] }
  | _ => none }
def PackReadsWrongFalsely : Prop := packReadsRow.holds Try.pinned (OpenSpec.ofChange packReadsWrong)

/-- 'mootlaw39.DumpTells': WHATEVER THE INPUT: true; the input reads as it did. -/
def dumpTellsSpec : ChangeSpec := { name := "dumpTells", fn := fun _ => fun
  | [d1, d2, d3, d4] => { results := [.lit (.bool true)], args := [d1, d2, d3, d4] }
  | _ => none }
def dumpTellsRow : OpenClaim := { program := "ytcfijanfcgnnhaa", sum := "64203b5e7e33ffd18e240ba7659a9264fe51bca625675f97f2bc63c5075f81f5", func := "moot/mootlaw39.DumpTells", spec := "dumpTells", inPlace := ["internal/bytealg.IndexByteString", "internal/abi.NoEscape", "internal/bytealg.MakeNoZero"], recurses := true, apart := false }
def DumpTellsSaid : Prop := dumpTellsRow.holds Try.pinned (OpenSpec.ofChange dumpTellsSpec)

/-- ITS FALSE NEIGHBOUR: 'it returns false'. Refute it at one input. -/
def dumpTellsWrong : ChangeSpec := { name := "dumpTells", fn := fun _ => fun
  | [d1, d2, d3, d4] => { results := [.lit (.bool false)], args := [d1, d2, d3, d4] }
  | _ => none }
def DumpTellsWrongFalsely : Prop := dumpTellsRow.holds Try.pinned (OpenSpec.ofChange dumpTellsWrong)

/-- 'mootlaw17.GuardLocks': WHATEVER THE INPUT: true; the input reads as it did. -/
def guardLocksSpec : ChangeSpec := { name := "guardLocks", fn := fun _ => fun
  | [d1, d2] => { results := [.lit (.bool true)], args := [d1, d2] }
  | _ => none }
def guardLocksRow : OpenClaim := { program := "ytcfijanfcgnnhaa", sum := "64203b5e7e33ffd18e240ba7659a9264fe51bca625675f97f2bc63c5075f81f5", func := "moot/mootlaw17.GuardLocks", spec := "guardLocks", inPlace := ["internal/abi.NoEscape", "internal/bytealg.MakeNoZero"], apart := false }
def GuardLocksSaid : Prop := guardLocksRow.holds Try.pinned (OpenSpec.ofChange guardLocksSpec)

/-- ITS FALSE NEIGHBOUR: 'it returns false'. Refute it at one input. -/
def guardLocksWrong : ChangeSpec := { name := "guardLocks", fn := fun _ => fun
  | [d1, d2] => { results := [.lit (.bool false)], args := [d1, d2] }
  | _ => none }
def GuardLocksWrongFalsely : Prop := guardLocksRow.holds Try.pinned (OpenSpec.ofChange guardLocksWrong)

/-- 'mootlaw35.StateOne': WHATEVER THE INPUT: true; the input reads as it did. -/
def stateOneSpec : ChangeSpec := { name := "stateOne", fn := fun _ => fun
  | [d1, d2, d3] => { results := [.lit (.bool true)], args := [d1, d2, d3] }
  | _ => none }
def stateOneRow : OpenClaim := { program := "ytcfijanfcgnnhaa", sum := "64203b5e7e33ffd18e240ba7659a9264fe51bca625675f97f2bc63c5075f81f5", func := "moot/mootlaw35.StateOne", spec := "stateOne", unfollowed := true, recurses := true, apart := false }
def StateOneSaid : Prop := stateOneRow.holds Try.pinned (OpenSpec.ofChange stateOneSpec)

/-- ITS FALSE NEIGHBOUR: 'it returns false'. Refute it at one input. -/
def stateOneWrong : ChangeSpec := { name := "stateOne", fn := fun _ => fun
  | [d1, d2, d3] => { results := [.lit (.bool false)], args := [d1, d2, d3] }
  | _ => none }
def StateOneWrongFalsely : Prop := stateOneRow.holds Try.pinned (OpenSpec.ofChange stateOneWrong)

/-- 'mootlaw42.ForensicTells': WHATEVER THE INPUT: true; the input reads as it did. -/
def forensicTellsSpec : ChangeSpec := { name := "forensicTells", fn := fun _ => fun
  | [d1, d2, d3] => { results := [.lit (.bool true)], args := [d1, d2, d3] }
  | _ => none }
def forensicTellsRow : OpenClaim := { program := "ytcfijanfcgnnhaa", sum := "64203b5e7e33ffd18e240ba7659a9264fe51bca625675f97f2bc63c5075f81f5", func := "moot/mootlaw42.ForensicTells", spec := "forensicTells", unfollowed := true, recurses := true, apart := false }
def ForensicTellsSaid : Prop := forensicTellsRow.holds Try.pinned (OpenSpec.ofChange forensicTellsSpec)

/-- ITS FALSE NEIGHBOUR: 'it returns false'. Refute it at one input. -/
def forensicTellsWrong : ChangeSpec := { name := "forensicTells", fn := fun _ => fun
  | [d1, d2, d3] => { results := [.lit (.bool false)], args := [d1, d2, d3] }
  | _ => none }
def ForensicTellsWrongFalsely : Prop := forensicTellsRow.holds Try.pinned (OpenSpec.ofChange forensicTellsWrong)

/- THE SECOND FORM. 'bulk': how many values and letters a reading holds, each counted each time it is reached (what is shared counts as often as it is met; a slice's spare places count too). A statement '..UptoSaid' is the law's where the arguments, and the package variables that the reading takes, are together of bulk at most 1048576: NARROWER than '..Said'. Prove '..Said' where nothing that the law and all that it calls make is longer than what came in: it says more and counts as full. Else prove '..UptoSaid'. A law counts once. -/
mutual
def uptoBulk {H : Type} : DataW H → Nat
  | .lit (.string bytes) => bytes.length + 1
  | .lit _ => 1
  | .nil => 1
  | .ptr d => uptoBulk d + 1
  | .slice elems spare => uptoBulkAll elems + uptoBulkAll spare + 1
  | .agg parts => uptoBulkAll parts + 1
  | .iface _ d => uptoBulk d + 1
  | .map entries => uptoBulkEntries entries + 1
  | .held _ => 1
def uptoBulkAll {H : Type} : List (DataW H) → Nat
  | [] => 0
  | d :: r => uptoBulk d + uptoBulkAll r
def uptoBulkEntries {H : Type} : List (Lit × DataW H) → Nat
  | [] => 0
  | x :: r => uptoBulkEntry x + uptoBulkEntries r
def uptoBulkEntry {H : Type} : Lit × DataW H → Nat
  | (.string bytes, d) => bytes.length + uptoBulk d + 1
  | (_, d) => uptoBulk d + 1
 end
def uptoSmall : (H : Type) → List (DataW H) → Bool := fun _ ds => decide (uptoBulkAll ds ≤ 1048576)
def OpenSpec.upto (s : _root_.Go.ChangeSpec) : _root_.Go.OpenSpec := { _root_.Go.OpenSpec.ofChange s with cond := some uptoSmall }

/-- 'mootlaw39.DumpHex', WHERE WHAT IT READS IS OF BULK AT MOST 1048576: true; the input reads as it did. -/
def dumpHexUptoRow : OpenClaim := { program := "ytcfijanfcgnnhaa", sum := "64203b5e7e33ffd18e240ba7659a9264fe51bca625675f97f2bc63c5075f81f5", func := "moot/mootlaw39.DumpHex", spec := "dumpHex", inPlace := ["internal/bytealg.IndexByteString", "internal/abi.NoEscape"], apart := false, narrowed := true }
def DumpHexUptoSaid : Prop := dumpHexUptoRow.holds Try.pinned (OpenSpec.upto dumpHexSpec)

/-- 'mootlaw06.PackReads', WHERE WHAT IT READS IS OF BULK AT MOST 1048576: true; the input reads as it did. -/
def packReadsUptoRow : OpenClaim := { program := "ytcfijanfcgnnhaa", sum := "64203b5e7e33ffd18e240ba7659a9264fe51bca625675f97f2bc63c5075f81f5", func := "moot/mootlaw06.PackReads", spec := "packReads", unfollowed := true, recurses := true, apart := false, narrowed := true }
def PackReadsUptoSaid : Prop := packReadsUptoRow.holds Try.pinned (OpenSpec.upto packReadsSpec)

/-- 'mootlaw39.DumpTells', WHERE WHAT IT READS IS OF BULK AT MOST 1048576: true; the input reads as it did. -/
def dumpTellsUptoRow : OpenClaim := { program := "ytcfijanfcgnnhaa", sum := "64203b5e7e33ffd18e240ba7659a9264fe51bca625675f97f2bc63c5075f81f5", func := "moot/mootlaw39.DumpTells", spec := "dumpTells", inPlace := ["internal/bytealg.IndexByteString", "internal/abi.NoEscape", "internal/bytealg.MakeNoZero"], recurses := true, apart := false, narrowed := true }
def DumpTellsUptoSaid : Prop := dumpTellsUptoRow.holds Try.pinned (OpenSpec.upto dumpTellsSpec)

/-- 'mootlaw17.GuardLocks', WHERE WHAT IT READS IS OF BULK AT MOST 1048576: true; the input reads as it did. -/
def guardLocksUptoRow : OpenClaim := { program := "ytcfijanfcgnnhaa", sum := "64203b5e7e33ffd18e240ba7659a9264fe51bca625675f97f2bc63c5075f81f5", func := "moot/mootlaw17.GuardLocks", spec := "guardLocks", inPlace := ["internal/abi.NoEscape", "internal/bytealg.MakeNoZero"], apart := false, narrowed := true }
def GuardLocksUptoSaid : Prop := guardLocksUptoRow.holds Try.pinned (OpenSpec.upto guardLocksSpec)

/-- 'mootlaw35.StateOne', WHERE WHAT IT READS IS OF BULK AT MOST 1048576: true; the input reads as it did. -/
def stateOneUptoRow : OpenClaim := { program := "ytcfijanfcgnnhaa", sum := "64203b5e7e33ffd18e240ba7659a9264fe51bca625675f97f2bc63c5075f81f5", func := "moot/mootlaw35.StateOne", spec := "stateOne", unfollowed := true, recurses := true, apart := false, narrowed := true }
def StateOneUptoSaid : Prop := stateOneUptoRow.holds Try.pinned (OpenSpec.upto stateOneSpec)

/-- 'mootlaw42.ForensicTells', WHERE WHAT IT READS IS OF BULK AT MOST 1048576: true; the input reads as it did. -/
def forensicTellsUptoRow : OpenClaim := { program := "ytcfijanfcgnnhaa", sum := "64203b5e7e33ffd18e240ba7659a9264fe51bca625675f97f2bc63c5075f81f5", func := "moot/mootlaw42.ForensicTells", spec := "forensicTells", unfollowed := true, recurses := true, apart := false, narrowed := true }
def ForensicTellsUptoSaid : Prop := forensicTellsUptoRow.holds Try.pinned (OpenSpec.upto forensicTellsSpec)

end Rows
end Go.Proofs.Ytcfijanfcgnnhaa
