/-
  No cell of these rows narrows 'for every input' (looked for: loops, veiled, ifaces, maps, wideKeys, modest, calm, conditions, laid).
  DERIVED. THE GIVEN ROWS OF THIS SEAT. 12 by the template 'for every input the law returns true; each argument reads behind the call as it read before'; 0 by the template 'total and deterministic' (their statements: YtjdokoldiemobaaTotals.lean).
  GIVEN WITH THE SEED: the statements are not yours to turn. If you find one false, say at which input.
  Laid BY PROGRAM, IN A SANDBOX (cutbox-rows.mjs): the forced cells as the released guide's own fill.sh prints them over the translation b229635baf29285c… (all of the seat's roots in one cut). By AI agents, Wed Nov 11 2026. No macro, syntax, notation, axiom, sorry.
-/
import Derived.Test.YtjdokoldiemobaaChecked
import GoSem.Claim
import GoSem.ClaimJoined
import GoSem.ClaimMapViews
import Derived.JoinedTies
import Derived.KernelRfl
namespace Go.Proofs.Ytjdokoldiemobaa
/- THE CELL 'sum', in the pinned program and in every row, IS THE sha256 OF THE DUMP (.gsa) THAT YtjdokoldiemobaaProg.lean LOADS. Nothing in Lean hashes anything: it is a label: what it is worth is what the hold of that sum in a sandbox is worth. -/
noncomputable def Try.pinned : Pinned := { name := "ytjdokoldiemobaa", sum := "b229635baf29285c875e24c64ff8a31ef21f08c3dfed798015cec22f9532c6db", checked := Try.checked }
namespace Rows
def none {H : Type} : Left H := { results := [], args := [] }

/-- 'mootlaw05.SignerLeaves': WHATEVER THE INPUT: true; the input reads as it did. -/
def signerLeavesSpec : ChangeSpec := { name := "signerLeaves", fn := fun _ => fun
  | [d1, d2] => { results := [.lit (.bool true)], args := [d1, d2] }
  | _ => none }
def signerLeavesRow : OpenClaim := { program := "ytjdokoldiemobaa", sum := "b229635baf29285c875e24c64ff8a31ef21f08c3dfed798015cec22f9532c6db", func := "moot/mootlaw05.SignerLeaves", spec := "signerLeaves", unfollowed := true, recurses := true, apart := false }
def SignerLeavesSaid : Prop := signerLeavesRow.holds Try.pinned (OpenSpec.ofChange signerLeavesSpec)

/-- ITS FALSE NEIGHBOUR: 'it returns false'. Refute it at one input. -/
def signerLeavesWrong : ChangeSpec := { name := "signerLeaves", fn := fun _ => fun
  | [d1, d2] => { results := [.lit (.bool false)], args := [d1, d2] }
  | _ => none }
def SignerLeavesWrongFalsely : Prop := signerLeavesRow.holds Try.pinned (OpenSpec.ofChange signerLeavesWrong)

/-- 'mootlaw39.DumpTells': WHATEVER THE INPUT: true; the input reads as it did. -/
def dumpTellsSpec : ChangeSpec := { name := "dumpTells", fn := fun _ => fun
  | [d1, d2, d3, d4] => { results := [.lit (.bool true)], args := [d1, d2, d3, d4] }
  | _ => none }
def dumpTellsRow : OpenClaim := { program := "ytjdokoldiemobaa", sum := "b229635baf29285c875e24c64ff8a31ef21f08c3dfed798015cec22f9532c6db", func := "moot/mootlaw39.DumpTells", spec := "dumpTells", inPlace := ["internal/bytealg.IndexByteString", "internal/abi.NoEscape", "internal/bytealg.MakeNoZero"], recurses := true, apart := false }
def DumpTellsSaid : Prop := dumpTellsRow.holds Try.pinned (OpenSpec.ofChange dumpTellsSpec)

/-- ITS FALSE NEIGHBOUR: 'it returns false'. Refute it at one input. -/
def dumpTellsWrong : ChangeSpec := { name := "dumpTells", fn := fun _ => fun
  | [d1, d2, d3, d4] => { results := [.lit (.bool false)], args := [d1, d2, d3, d4] }
  | _ => none }
def DumpTellsWrongFalsely : Prop := dumpTellsRow.holds Try.pinned (OpenSpec.ofChange dumpTellsWrong)

/-- 'mootlaw07.TxKeys': WHATEVER THE INPUT: true; the input reads as it did. -/
def txKeysSpec : ChangeSpec := { name := "txKeys", fn := fun _ => fun
  | [d] => { results := [.lit (.bool true)], args := [d] }
  | _ => none }
def txKeysRow : OpenClaim := { program := "ytjdokoldiemobaa", sum := "b229635baf29285c875e24c64ff8a31ef21f08c3dfed798015cec22f9532c6db", func := "moot/mootlaw07.TxKeys", spec := "txKeys", unfollowed := true, recurses := true, apart := false }
def TxKeysSaid : Prop := txKeysRow.holds Try.pinned (OpenSpec.ofChange txKeysSpec)

/-- ITS FALSE NEIGHBOUR: 'it returns false'. Refute it at one input. -/
def txKeysWrong : ChangeSpec := { name := "txKeys", fn := fun _ => fun
  | [d] => { results := [.lit (.bool false)], args := [d] }
  | _ => none }
def TxKeysWrongFalsely : Prop := txKeysRow.holds Try.pinned (OpenSpec.ofChange txKeysWrong)

/-- 'mootlaw08.VoteKeys': WHATEVER THE INPUT: true; the input reads as it did. -/
def voteKeysSpec : ChangeSpec := { name := "voteKeys", fn := fun _ => fun
  | [d] => { results := [.lit (.bool true)], args := [d] }
  | _ => none }
def voteKeysRow : OpenClaim := { program := "ytjdokoldiemobaa", sum := "b229635baf29285c875e24c64ff8a31ef21f08c3dfed798015cec22f9532c6db", func := "moot/mootlaw08.VoteKeys", spec := "voteKeys", unfollowed := true, recurses := true, apart := false }
def VoteKeysSaid : Prop := voteKeysRow.holds Try.pinned (OpenSpec.ofChange voteKeysSpec)

/-- ITS FALSE NEIGHBOUR: 'it returns false'. Refute it at one input. -/
def voteKeysWrong : ChangeSpec := { name := "voteKeys", fn := fun _ => fun
  | [d] => { results := [.lit (.bool false)], args := [d] }
  | _ => none }
def VoteKeysWrongFalsely : Prop := voteKeysRow.holds Try.pinned (OpenSpec.ofChange voteKeysWrong)

/-- 'mootlaw17.GuardLocks': WHATEVER THE INPUT: true; the input reads as it did. -/
def guardLocksSpec : ChangeSpec := { name := "guardLocks", fn := fun _ => fun
  | [d1, d2] => { results := [.lit (.bool true)], args := [d1, d2] }
  | _ => none }
def guardLocksRow : OpenClaim := { program := "ytjdokoldiemobaa", sum := "b229635baf29285c875e24c64ff8a31ef21f08c3dfed798015cec22f9532c6db", func := "moot/mootlaw17.GuardLocks", spec := "guardLocks", inPlace := ["internal/abi.NoEscape", "internal/bytealg.MakeNoZero"], apart := false }
def GuardLocksSaid : Prop := guardLocksRow.holds Try.pinned (OpenSpec.ofChange guardLocksSpec)

/-- ITS FALSE NEIGHBOUR: 'it returns false'. Refute it at one input. -/
def guardLocksWrong : ChangeSpec := { name := "guardLocks", fn := fun _ => fun
  | [d1, d2] => { results := [.lit (.bool false)], args := [d1, d2] }
  | _ => none }
def GuardLocksWrongFalsely : Prop := guardLocksRow.holds Try.pinned (OpenSpec.ofChange guardLocksWrong)

/-- 'mootlaw40.RosterBack': WHATEVER THE INPUT: true; the input reads as it did. -/
def rosterBackSpec : ChangeSpec := { name := "rosterBack", fn := fun _ => fun
  | [d1, d2] => { results := [.lit (.bool true)], args := [d1, d2] }
  | _ => none }
def rosterBackRow : OpenClaim := { program := "ytjdokoldiemobaa", sum := "b229635baf29285c875e24c64ff8a31ef21f08c3dfed798015cec22f9532c6db", func := "moot/mootlaw40.RosterBack", spec := "rosterBack", unfollowed := true, recurses := true, apart := false }
def RosterBackSaid : Prop := rosterBackRow.holds Try.pinned (OpenSpec.ofChange rosterBackSpec)

/-- ITS FALSE NEIGHBOUR: 'it returns false'. Refute it at one input. -/
def rosterBackWrong : ChangeSpec := { name := "rosterBack", fn := fun _ => fun
  | [d1, d2] => { results := [.lit (.bool false)], args := [d1, d2] }
  | _ => none }
def RosterBackWrongFalsely : Prop := rosterBackRow.holds Try.pinned (OpenSpec.ofChange rosterBackWrong)

/-- 'mootlaw35.StateTells': WHATEVER THE INPUT: true; the input reads as it did. -/
def stateTellsSpec : ChangeSpec := { name := "stateTells", fn := fun _ => fun
  | [d1, d2, d3] => { results := [.lit (.bool true)], args := [d1, d2, d3] }
  | _ => none }
def stateTellsRow : OpenClaim := { program := "ytjdokoldiemobaa", sum := "b229635baf29285c875e24c64ff8a31ef21f08c3dfed798015cec22f9532c6db", func := "moot/mootlaw35.StateTells", spec := "stateTells", unfollowed := true, recurses := true, apart := false }
def StateTellsSaid : Prop := stateTellsRow.holds Try.pinned (OpenSpec.ofChange stateTellsSpec)

/-- ITS FALSE NEIGHBOUR: 'it returns false'. Refute it at one input. -/
def stateTellsWrong : ChangeSpec := { name := "stateTells", fn := fun _ => fun
  | [d1, d2, d3] => { results := [.lit (.bool false)], args := [d1, d2, d3] }
  | _ => none }
def StateTellsWrongFalsely : Prop := stateTellsRow.holds Try.pinned (OpenSpec.ofChange stateTellsWrong)

/-- 'mootlaw35.StateBack': WHATEVER THE INPUT: true; the input reads as it did. -/
def stateBackSpec : ChangeSpec := { name := "stateBack", fn := fun _ => fun
  | [d1, d2] => { results := [.lit (.bool true)], args := [d1, d2] }
  | _ => none }
def stateBackRow : OpenClaim := { program := "ytjdokoldiemobaa", sum := "b229635baf29285c875e24c64ff8a31ef21f08c3dfed798015cec22f9532c6db", func := "moot/mootlaw35.StateBack", spec := "stateBack", unfollowed := true, recurses := true, apart := false }
def StateBackSaid : Prop := stateBackRow.holds Try.pinned (OpenSpec.ofChange stateBackSpec)

/-- ITS FALSE NEIGHBOUR: 'it returns false'. Refute it at one input. -/
def stateBackWrong : ChangeSpec := { name := "stateBack", fn := fun _ => fun
  | [d1, d2] => { results := [.lit (.bool false)], args := [d1, d2] }
  | _ => none }
def StateBackWrongFalsely : Prop := stateBackRow.holds Try.pinned (OpenSpec.ofChange stateBackWrong)

/-- 'mootlaw35.StateVerifies': WHATEVER THE INPUT: true; the input reads as it did. -/
def stateVerifiesSpec : ChangeSpec := { name := "stateVerifies", fn := fun _ => fun
  | [d1, d2, d3, d4] => { results := [.lit (.bool true)], args := [d1, d2, d3, d4] }
  | _ => none }
def stateVerifiesRow : OpenClaim := { program := "ytjdokoldiemobaa", sum := "b229635baf29285c875e24c64ff8a31ef21f08c3dfed798015cec22f9532c6db", func := "moot/mootlaw35.StateVerifies", spec := "stateVerifies", unfollowed := true, recurses := true, apart := false }
def StateVerifiesSaid : Prop := stateVerifiesRow.holds Try.pinned (OpenSpec.ofChange stateVerifiesSpec)

/-- ITS FALSE NEIGHBOUR: 'it returns false'. Refute it at one input. -/
def stateVerifiesWrong : ChangeSpec := { name := "stateVerifies", fn := fun _ => fun
  | [d1, d2, d3, d4] => { results := [.lit (.bool false)], args := [d1, d2, d3, d4] }
  | _ => none }
def StateVerifiesWrongFalsely : Prop := stateVerifiesRow.holds Try.pinned (OpenSpec.ofChange stateVerifiesWrong)

/-- 'mootlaw35.StateOne': WHATEVER THE INPUT: true; the input reads as it did. -/
def stateOneSpec : ChangeSpec := { name := "stateOne", fn := fun _ => fun
  | [d1, d2, d3] => { results := [.lit (.bool true)], args := [d1, d2, d3] }
  | _ => none }
def stateOneRow : OpenClaim := { program := "ytjdokoldiemobaa", sum := "b229635baf29285c875e24c64ff8a31ef21f08c3dfed798015cec22f9532c6db", func := "moot/mootlaw35.StateOne", spec := "stateOne", unfollowed := true, recurses := true, apart := false }
def StateOneSaid : Prop := stateOneRow.holds Try.pinned (OpenSpec.ofChange stateOneSpec)

/-- ITS FALSE NEIGHBOUR: 'it returns false'. Refute it at one input. -/
def stateOneWrong : ChangeSpec := { name := "stateOne", fn := fun _ => fun
  | [d1, d2, d3] => { results := [.lit (.bool false)], args := [d1, d2, d3] }
  | _ => none }
def StateOneWrongFalsely : Prop := stateOneRow.holds Try.pinned (OpenSpec.ofChange stateOneWrong)

/-- 'mootlaw10.BlockNames': WHATEVER THE INPUT: true; the input reads as it did. -/
def blockNamesSpec : ChangeSpec := { name := "blockNames", fn := fun _ => fun
  | [d1, d2, d3] => { results := [.lit (.bool true)], args := [d1, d2, d3] }
  | _ => none }
def blockNamesRow : OpenClaim := { program := "ytjdokoldiemobaa", sum := "b229635baf29285c875e24c64ff8a31ef21f08c3dfed798015cec22f9532c6db", func := "moot/mootlaw10.BlockNames", spec := "blockNames", inPlace := ["internal/abi.NoEscape", "internal/bytealg.MakeNoZero"], unfollowed := true, recurses := true, apart := false }
def BlockNamesSaid : Prop := blockNamesRow.holds Try.pinned (OpenSpec.ofChange blockNamesSpec)

/-- ITS FALSE NEIGHBOUR: 'it returns false'. Refute it at one input. -/
def blockNamesWrong : ChangeSpec := { name := "blockNames", fn := fun _ => fun
  | [d1, d2, d3] => { results := [.lit (.bool false)], args := [d1, d2, d3] }
  | _ => none }
def BlockNamesWrongFalsely : Prop := blockNamesRow.holds Try.pinned (OpenSpec.ofChange blockNamesWrong)

/-- 'mootlaw42.ForensicTells': WHATEVER THE INPUT: true; the input reads as it did. -/
def forensicTellsSpec : ChangeSpec := { name := "forensicTells", fn := fun _ => fun
  | [d1, d2, d3] => { results := [.lit (.bool true)], args := [d1, d2, d3] }
  | _ => none }
def forensicTellsRow : OpenClaim := { program := "ytjdokoldiemobaa", sum := "b229635baf29285c875e24c64ff8a31ef21f08c3dfed798015cec22f9532c6db", func := "moot/mootlaw42.ForensicTells", spec := "forensicTells", unfollowed := true, recurses := true, apart := false }
def ForensicTellsSaid : Prop := forensicTellsRow.holds Try.pinned (OpenSpec.ofChange forensicTellsSpec)

/-- ITS FALSE NEIGHBOUR: 'it returns false'. Refute it at one input. -/
def forensicTellsWrong : ChangeSpec := { name := "forensicTells", fn := fun _ => fun
  | [d1, d2, d3] => { results := [.lit (.bool false)], args := [d1, d2, d3] }
  | _ => none }
def ForensicTellsWrongFalsely : Prop := forensicTellsRow.holds Try.pinned (OpenSpec.ofChange forensicTellsWrong)

/- THE SECOND FORM. 'bulk': how many values and letters a reading holds, each counted each time it is reached (what is shared counts as often as it is met; a slice's spare places count too). A statement '..UptoSaid' is the law's where the arguments, and the package variables that the reading takes, are together of bulk at most 1048576: NARROWER than '..Said'. Prove '..Said' where nothing that the law and all that it calls make is longer than what came in: it says more and counts as full. Else prove '..UptoSaid'. A law counts once. -/
mutual
def uptoBulk {H : Type} : DataW H → Nat
  | .lit (.string bytes) => bytes.length + 1
  | .lit _ => 1
  | .nil => 1
  | .ptr d => uptoBulk d + 1
  | .slice elems spare => uptoBulkAll elems + uptoBulkAll spare + 1
  | .agg parts => uptoBulkAll parts + 1
  | .iface _ d => uptoBulk d + 1
  | .map entries => uptoBulkEntries entries + 1
  | .held _ => 1
def uptoBulkAll {H : Type} : List (DataW H) → Nat
  | [] => 0
  | d :: r => uptoBulk d + uptoBulkAll r
def uptoBulkEntries {H : Type} : List (Lit × DataW H) → Nat
  | [] => 0
  | x :: r => uptoBulkEntry x + uptoBulkEntries r
def uptoBulkEntry {H : Type} : Lit × DataW H → Nat
  | (.string bytes, d) => bytes.length + uptoBulk d + 1
  | (_, d) => uptoBulk d + 1
 end
def uptoSmall : (H : Type) → List (DataW H) → Bool := fun _ ds => decide (uptoBulkAll ds ≤ 1048576)
def OpenSpec.upto (s : _root_.Go.ChangeSpec) : _root_.Go.OpenSpec := { _root_.Go.OpenSpec.ofChange s with cond := some uptoSmall }

/-- 'mootlaw05.SignerLeaves', WHERE WHAT IT READS IS OF BULK AT MOST 1048576: true; the input reads as it did. -/
def signerLeavesUptoRow : OpenClaim := { program := "ytjdokoldiemobaa", sum := "b229635baf29285c875e24c64ff8a31ef21f08c3dfed798015cec22f9532c6db", func := "moot/mootlaw05.SignerLeaves", spec := "signerLeaves", unfollowed := true, recurses := true, apart := false, narrowed := true }
def SignerLeavesUptoSaid : Prop := signerLeavesUptoRow.holds Try.pinned (OpenSpec.upto signerLeavesSpec)

/-- 'mootlaw39.DumpTells', WHERE WHAT IT READS IS OF BULK AT MOST 1048576: true; the input reads as it did. -/
def dumpTellsUptoRow : OpenClaim := { program := "ytjdokoldiemobaa", sum := "b229635baf29285c875e24c64ff8a31ef21f08c3dfed798015cec22f9532c6db", func := "moot/mootlaw39.DumpTells", spec := "dumpTells", inPlace := ["internal/bytealg.IndexByteString", "internal/abi.NoEscape", "internal/bytealg.MakeNoZero"], recurses := true, apart := false, narrowed := true }
def DumpTellsUptoSaid : Prop := dumpTellsUptoRow.holds Try.pinned (OpenSpec.upto dumpTellsSpec)

/-- 'mootlaw07.TxKeys', WHERE WHAT IT READS IS OF BULK AT MOST 1048576: true; the input reads as it did. -/
def txKeysUptoRow : OpenClaim := { program := "ytjdokoldiemobaa", sum := "b229635baf29285c875e24c64ff8a31ef21f08c3dfed798015cec22f9532c6db", func := "moot/mootlaw07.TxKeys", spec := "txKeys", unfollowed := true, recurses := true, apart := false, narrowed := true }
def TxKeysUptoSaid : Prop := txKeysUptoRow.holds Try.pinned (OpenSpec.upto txKeysSpec)

/-- 'mootlaw08.VoteKeys', WHERE WHAT IT READS IS OF BULK AT MOST 1048576: true; the input reads as it did. -/
def voteKeysUptoRow : OpenClaim := { program := "ytjdokoldiemobaa", sum := "b229635baf29285c875e24c64ff8a31ef21f08c3dfed798015cec22f9532c6db", func := "moot/mootlaw08.VoteKeys", spec := "voteKeys", unfollowed := true, recurses := true, apart := false, narrowed := true }
def VoteKeysUptoSaid : Prop := voteKeysUptoRow.holds Try.pinned (OpenSpec.upto voteKeysSpec)

/-- 'mootlaw17.GuardLocks', WHERE WHAT IT READS IS OF BULK AT MOST 1048576: true; the input reads as it did. -/
def guardLocksUptoRow : OpenClaim := { program := "ytjdokoldiemobaa", sum := "b229635baf29285c875e24c64ff8a31ef21f08c3dfed798015cec22f9532c6db", func := "moot/mootlaw17.GuardLocks", spec := "guardLocks", inPlace := ["internal/abi.NoEscape", "internal/bytealg.MakeNoZero"], apart := false, narrowed := true }
def GuardLocksUptoSaid : Prop := guardLocksUptoRow.holds Try.pinned (OpenSpec.upto guardLocksSpec)

/-- 'mootlaw40.RosterBack', WHERE WHAT IT READS IS OF BULK AT MOST 1048576: true; the input reads as it did. -/
def rosterBackUptoRow : OpenClaim := { program := "ytjdokoldiemobaa", sum := "b229635baf29285c875e24c64ff8a31ef21f08c3dfed798015cec22f9532c6db", func := "moot/mootlaw40.RosterBack", spec := "rosterBack", unfollowed := true, recurses := true, apart := false, narrowed := true }
def RosterBackUptoSaid : Prop := rosterBackUptoRow.holds Try.pinned (OpenSpec.upto rosterBackSpec)

/-- 'mootlaw35.StateTells', WHERE WHAT IT READS IS OF BULK AT MOST 1048576: true; the input reads as it did. -/
def stateTellsUptoRow : OpenClaim := { program := "ytjdokoldiemobaa", sum := "b229635baf29285c875e24c64ff8a31ef21f08c3dfed798015cec22f9532c6db", func := "moot/mootlaw35.StateTells", spec := "stateTells", unfollowed := true, recurses := true, apart := false, narrowed := true }
def StateTellsUptoSaid : Prop := stateTellsUptoRow.holds Try.pinned (OpenSpec.upto stateTellsSpec)

/-- 'mootlaw35.StateBack', WHERE WHAT IT READS IS OF BULK AT MOST 1048576: true; the input reads as it did. -/
def stateBackUptoRow : OpenClaim := { program := "ytjdokoldiemobaa", sum := "b229635baf29285c875e24c64ff8a31ef21f08c3dfed798015cec22f9532c6db", func := "moot/mootlaw35.StateBack", spec := "stateBack", unfollowed := true, recurses := true, apart := false, narrowed := true }
def StateBackUptoSaid : Prop := stateBackUptoRow.holds Try.pinned (OpenSpec.upto stateBackSpec)

/-- 'mootlaw35.StateVerifies', WHERE WHAT IT READS IS OF BULK AT MOST 1048576: true; the input reads as it did. -/
def stateVerifiesUptoRow : OpenClaim := { program := "ytjdokoldiemobaa", sum := "b229635baf29285c875e24c64ff8a31ef21f08c3dfed798015cec22f9532c6db", func := "moot/mootlaw35.StateVerifies", spec := "stateVerifies", unfollowed := true, recurses := true, apart := false, narrowed := true }
def StateVerifiesUptoSaid : Prop := stateVerifiesUptoRow.holds Try.pinned (OpenSpec.upto stateVerifiesSpec)

/-- 'mootlaw35.StateOne', WHERE WHAT IT READS IS OF BULK AT MOST 1048576: true; the input reads as it did. -/
def stateOneUptoRow : OpenClaim := { program := "ytjdokoldiemobaa", sum := "b229635baf29285c875e24c64ff8a31ef21f08c3dfed798015cec22f9532c6db", func := "moot/mootlaw35.StateOne", spec := "stateOne", unfollowed := true, recurses := true, apart := false, narrowed := true }
def StateOneUptoSaid : Prop := stateOneUptoRow.holds Try.pinned (OpenSpec.upto stateOneSpec)

/-- 'mootlaw10.BlockNames', WHERE WHAT IT READS IS OF BULK AT MOST 1048576: true; the input reads as it did. -/
def blockNamesUptoRow : OpenClaim := { program := "ytjdokoldiemobaa", sum := "b229635baf29285c875e24c64ff8a31ef21f08c3dfed798015cec22f9532c6db", func := "moot/mootlaw10.BlockNames", spec := "blockNames", inPlace := ["internal/abi.NoEscape", "internal/bytealg.MakeNoZero"], unfollowed := true, recurses := true, apart := false, narrowed := true }
def BlockNamesUptoSaid : Prop := blockNamesUptoRow.holds Try.pinned (OpenSpec.upto blockNamesSpec)

/-- 'mootlaw42.ForensicTells', WHERE WHAT IT READS IS OF BULK AT MOST 1048576: true; the input reads as it did. -/
def forensicTellsUptoRow : OpenClaim := { program := "ytjdokoldiemobaa", sum := "b229635baf29285c875e24c64ff8a31ef21f08c3dfed798015cec22f9532c6db", func := "moot/mootlaw42.ForensicTells", spec := "forensicTells", unfollowed := true, recurses := true, apart := false, narrowed := true }
def ForensicTellsUptoSaid : Prop := forensicTellsUptoRow.holds Try.pinned (OpenSpec.upto forensicTellsSpec)

end Rows
end Go.Proofs.Ytjdokoldiemobaa
