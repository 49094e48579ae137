/-
  No cell of these rows narrows 'for every input' (looked for: loops, veiled, ifaces, maps, wideKeys, modest, calm, conditions, laid).
  DERIVED. THE GIVEN ROWS OF THIS SEAT. 9 by the template 'for every input the law returns true; each argument reads behind the call as it read before'; 0 by the template 'total and deterministic' (their statements: YtldehcnaepgamaaTotals.lean).
  GIVEN WITH THE SEED: the statements are not yours to turn. If you find one false, say at which input.
  Laid BY PROGRAM, IN A SANDBOX (cutbox-rows.mjs): the forced cells as the released guide's own fill.sh prints them over the translation aac13abac8c9e4c7… (all of the seat's roots in one cut). By AI agents, Wed Nov 11 2026. No macro, syntax, notation, axiom, sorry.
-/
import Derived.Test.YtldehcnaepgamaaChecked
import GoSem.Claim
import GoSem.ClaimJoined
import GoSem.ClaimMapViews
import Derived.JoinedTies
import Derived.KernelRfl
namespace Go.Proofs.Ytldehcnaepgamaa
/- THE CELL 'sum', in the pinned program and in every row, IS THE sha256 OF THE DUMP (.gsa) THAT YtldehcnaepgamaaProg.lean LOADS. Nothing in Lean hashes anything: it is a label: what it is worth is what the hold of that sum in a sandbox is worth. -/
noncomputable def Try.pinned : Pinned := { name := "ytldehcnaepgamaa", sum := "aac13abac8c9e4c7ea1dd07b5f6012b22be7316433b343126ac2174b8c7a2840", checked := Try.checked }
namespace Rows
def none {H : Type} : Left H := { results := [], args := [] }

/-- 'mootlaw05.SignerOwn': WHATEVER THE INPUT: true; the input reads as it did. -/
def signerOwnSpec : ChangeSpec := { name := "signerOwn", fn := fun _ => fun
  | [d1, d2] => { results := [.lit (.bool true)], args := [d1, d2] }
  | _ => none }
def signerOwnRow : OpenClaim := { program := "ytldehcnaepgamaa", sum := "aac13abac8c9e4c7ea1dd07b5f6012b22be7316433b343126ac2174b8c7a2840", func := "moot/mootlaw05.SignerOwn", spec := "signerOwn", unfollowed := true, recurses := true, apart := false }
def SignerOwnSaid : Prop := signerOwnRow.holds Try.pinned (OpenSpec.ofChange signerOwnSpec)

/-- ITS FALSE NEIGHBOUR: 'it returns false'. Refute it at one input. -/
def signerOwnWrong : ChangeSpec := { name := "signerOwn", fn := fun _ => fun
  | [d1, d2] => { results := [.lit (.bool false)], args := [d1, d2] }
  | _ => none }
def SignerOwnWrongFalsely : Prop := signerOwnRow.holds Try.pinned (OpenSpec.ofChange signerOwnWrong)

/-- 'mootlaw05.SignerTells': WHATEVER THE INPUT: true; the input reads as it did. -/
def signerTellsSpec : ChangeSpec := { name := "signerTells", fn := fun _ => fun
  | [d1, d2, d3] => { results := [.lit (.bool true)], args := [d1, d2, d3] }
  | _ => none }
def signerTellsRow : OpenClaim := { program := "ytldehcnaepgamaa", sum := "aac13abac8c9e4c7ea1dd07b5f6012b22be7316433b343126ac2174b8c7a2840", func := "moot/mootlaw05.SignerTells", spec := "signerTells", unfollowed := true, recurses := true, apart := false }
def SignerTellsSaid : Prop := signerTellsRow.holds Try.pinned (OpenSpec.ofChange signerTellsSpec)

/-- ITS FALSE NEIGHBOUR: 'it returns false'. Refute it at one input. -/
def signerTellsWrong : ChangeSpec := { name := "signerTells", fn := fun _ => fun
  | [d1, d2, d3] => { results := [.lit (.bool false)], args := [d1, d2, d3] }
  | _ => none }
def SignerTellsWrongFalsely : Prop := signerTellsRow.holds Try.pinned (OpenSpec.ofChange signerTellsWrong)

/-- 'mootlaw05.SignerBack': WHATEVER THE INPUT: true; the input reads as it did. -/
def signerBackSpec : ChangeSpec := { name := "signerBack", fn := fun _ => fun
  | [d1, d2, d3] => { results := [.lit (.bool true)], args := [d1, d2, d3] }
  | _ => none }
def signerBackRow : OpenClaim := { program := "ytldehcnaepgamaa", sum := "aac13abac8c9e4c7ea1dd07b5f6012b22be7316433b343126ac2174b8c7a2840", func := "moot/mootlaw05.SignerBack", spec := "signerBack", unfollowed := true, recurses := true, apart := false }
def SignerBackSaid : Prop := signerBackRow.holds Try.pinned (OpenSpec.ofChange signerBackSpec)

/-- ITS FALSE NEIGHBOUR: 'it returns false'. Refute it at one input. -/
def signerBackWrong : ChangeSpec := { name := "signerBack", fn := fun _ => fun
  | [d1, d2, d3] => { results := [.lit (.bool false)], args := [d1, d2, d3] }
  | _ => none }
def SignerBackWrongFalsely : Prop := signerBackRow.holds Try.pinned (OpenSpec.ofChange signerBackWrong)

/-- 'mootlaw34.WalletTells': WHATEVER THE INPUT: true; the input reads as it did. -/
def walletTellsSpec : ChangeSpec := { name := "walletTells", fn := fun _ => fun
  | [d1, d2, d3] => { results := [.lit (.bool true)], args := [d1, d2, d3] }
  | _ => none }
def walletTellsRow : OpenClaim := { program := "ytldehcnaepgamaa", sum := "aac13abac8c9e4c7ea1dd07b5f6012b22be7316433b343126ac2174b8c7a2840", func := "moot/mootlaw34.WalletTells", spec := "walletTells", unfollowed := true, recurses := true, apart := false }
def WalletTellsSaid : Prop := walletTellsRow.holds Try.pinned (OpenSpec.ofChange walletTellsSpec)

/-- ITS FALSE NEIGHBOUR: 'it returns false'. Refute it at one input. -/
def walletTellsWrong : ChangeSpec := { name := "walletTells", fn := fun _ => fun
  | [d1, d2, d3] => { results := [.lit (.bool false)], args := [d1, d2, d3] }
  | _ => none }
def WalletTellsWrongFalsely : Prop := walletTellsRow.holds Try.pinned (OpenSpec.ofChange walletTellsWrong)

/-- 'mootlaw34.WalletPays': WHATEVER THE INPUT: true; the input reads as it did. -/
def walletPaysSpec : ChangeSpec := { name := "walletPays", fn := fun _ => fun
  | [d1, d2, d3] => { results := [.lit (.bool true)], args := [d1, d2, d3] }
  | _ => none }
def walletPaysRow : OpenClaim := { program := "ytldehcnaepgamaa", sum := "aac13abac8c9e4c7ea1dd07b5f6012b22be7316433b343126ac2174b8c7a2840", func := "moot/mootlaw34.WalletPays", spec := "walletPays", unfollowed := true, recurses := true, apart := false }
def WalletPaysSaid : Prop := walletPaysRow.holds Try.pinned (OpenSpec.ofChange walletPaysSpec)

/-- ITS FALSE NEIGHBOUR: 'it returns false'. Refute it at one input. -/
def walletPaysWrong : ChangeSpec := { name := "walletPays", fn := fun _ => fun
  | [d1, d2, d3] => { results := [.lit (.bool false)], args := [d1, d2, d3] }
  | _ => none }
def WalletPaysWrongFalsely : Prop := walletPaysRow.holds Try.pinned (OpenSpec.ofChange walletPaysWrong)

/-- 'mootlaw11.MessageBack': WHATEVER THE INPUT: true; the input reads as it did. -/
def messageBackSpec : ChangeSpec := { name := "messageBack", fn := fun _ => fun
  | [d1, d2] => { results := [.lit (.bool true)], args := [d1, d2] }
  | _ => none }
def messageBackRow : OpenClaim := { program := "ytldehcnaepgamaa", sum := "aac13abac8c9e4c7ea1dd07b5f6012b22be7316433b343126ac2174b8c7a2840", func := "moot/mootlaw11.MessageBack", spec := "messageBack", unfollowed := true, recurses := true, apart := false }
def MessageBackSaid : Prop := messageBackRow.holds Try.pinned (OpenSpec.ofChange messageBackSpec)

/-- ITS FALSE NEIGHBOUR: 'it returns false'. Refute it at one input. -/
def messageBackWrong : ChangeSpec := { name := "messageBack", fn := fun _ => fun
  | [d1, d2] => { results := [.lit (.bool false)], args := [d1, d2] }
  | _ => none }
def MessageBackWrongFalsely : Prop := messageBackRow.holds Try.pinned (OpenSpec.ofChange messageBackWrong)

/-- 'mootlaw11.MessageCuts': WHATEVER THE INPUT: true; the input reads as it did. -/
def messageCutsSpec : ChangeSpec := { name := "messageCuts", fn := fun _ => fun
  | [d1, d2, d3] => { results := [.lit (.bool true)], args := [d1, d2, d3] }
  | _ => none }
def messageCutsRow : OpenClaim := { program := "ytldehcnaepgamaa", sum := "aac13abac8c9e4c7ea1dd07b5f6012b22be7316433b343126ac2174b8c7a2840", func := "moot/mootlaw11.MessageCuts", spec := "messageCuts", unfollowed := true, recurses := true, apart := false }
def MessageCutsSaid : Prop := messageCutsRow.holds Try.pinned (OpenSpec.ofChange messageCutsSpec)

/-- ITS FALSE NEIGHBOUR: 'it returns false'. Refute it at one input. -/
def messageCutsWrong : ChangeSpec := { name := "messageCuts", fn := fun _ => fun
  | [d1, d2, d3] => { results := [.lit (.bool false)], args := [d1, d2, d3] }
  | _ => none }
def MessageCutsWrongFalsely : Prop := messageCutsRow.holds Try.pinned (OpenSpec.ofChange messageCutsWrong)

/-- 'mootlaw07.TxBack': WHATEVER THE INPUT: true; the input reads as it did. -/
def txBackSpec : ChangeSpec := { name := "txBack", fn := fun _ => fun
  | [d1, d2] => { results := [.lit (.bool true)], args := [d1, d2] }
  | _ => none }
def txBackRow : OpenClaim := { program := "ytldehcnaepgamaa", sum := "aac13abac8c9e4c7ea1dd07b5f6012b22be7316433b343126ac2174b8c7a2840", func := "moot/mootlaw07.TxBack", spec := "txBack", unfollowed := true, recurses := true, apart := false }
def TxBackSaid : Prop := txBackRow.holds Try.pinned (OpenSpec.ofChange txBackSpec)

/-- ITS FALSE NEIGHBOUR: 'it returns false'. Refute it at one input. -/
def txBackWrong : ChangeSpec := { name := "txBack", fn := fun _ => fun
  | [d1, d2] => { results := [.lit (.bool false)], args := [d1, d2] }
  | _ => none }
def TxBackWrongFalsely : Prop := txBackRow.holds Try.pinned (OpenSpec.ofChange txBackWrong)

/-- 'mootlaw08.VoteBack': WHATEVER THE INPUT: true; the input reads as it did. -/
def voteBackSpec : ChangeSpec := { name := "voteBack", fn := fun _ => fun
  | [d1, d2] => { results := [.lit (.bool true)], args := [d1, d2] }
  | _ => none }
def voteBackRow : OpenClaim := { program := "ytldehcnaepgamaa", sum := "aac13abac8c9e4c7ea1dd07b5f6012b22be7316433b343126ac2174b8c7a2840", func := "moot/mootlaw08.VoteBack", spec := "voteBack", unfollowed := true, recurses := true, apart := false }
def VoteBackSaid : Prop := voteBackRow.holds Try.pinned (OpenSpec.ofChange voteBackSpec)

/-- ITS FALSE NEIGHBOUR: 'it returns false'. Refute it at one input. -/
def voteBackWrong : ChangeSpec := { name := "voteBack", fn := fun _ => fun
  | [d1, d2] => { results := [.lit (.bool false)], args := [d1, d2] }
  | _ => none }
def VoteBackWrongFalsely : Prop := voteBackRow.holds Try.pinned (OpenSpec.ofChange voteBackWrong)

/- THE SECOND FORM. 'bulk': how many values and letters a reading holds, each counted each time it is reached (what is shared counts as often as it is met; a slice's spare places count too). A statement '..UptoSaid' is the law's where the arguments, and the package variables that the reading takes, are together of bulk at most 1048576: NARROWER than '..Said'. Prove '..Said' where nothing that the law and all that it calls make is longer than what came in: it says more and counts as full. Else prove '..UptoSaid'. A law counts once. -/
mutual
def uptoBulk {H : Type} : DataW H → Nat
  | .lit (.string bytes) => bytes.length + 1
  | .lit _ => 1
  | .nil => 1
  | .ptr d => uptoBulk d + 1
  | .slice elems spare => uptoBulkAll elems + uptoBulkAll spare + 1
  | .agg parts => uptoBulkAll parts + 1
  | .iface _ d => uptoBulk d + 1
  | .map entries => uptoBulkEntries entries + 1
  | .held _ => 1
def uptoBulkAll {H : Type} : List (DataW H) → Nat
  | [] => 0
  | d :: r => uptoBulk d + uptoBulkAll r
def uptoBulkEntries {H : Type} : List (Lit × DataW H) → Nat
  | [] => 0
  | x :: r => uptoBulkEntry x + uptoBulkEntries r
def uptoBulkEntry {H : Type} : Lit × DataW H → Nat
  | (.string bytes, d) => bytes.length + uptoBulk d + 1
  | (_, d) => uptoBulk d + 1
 end
def uptoSmall : (H : Type) → List (DataW H) → Bool := fun _ ds => decide (uptoBulkAll ds ≤ 1048576)
def OpenSpec.upto (s : _root_.Go.ChangeSpec) : _root_.Go.OpenSpec := { _root_.Go.OpenSpec.ofChange s with cond := some uptoSmall }

/-- 'mootlaw05.SignerOwn', WHERE WHAT IT READS IS OF BULK AT MOST 1048576: true; the input reads as it did. -/
def signerOwnUptoRow : OpenClaim := { program := "ytldehcnaepgamaa", sum := "aac13abac8c9e4c7ea1dd07b5f6012b22be7316433b343126ac2174b8c7a2840", func := "moot/mootlaw05.SignerOwn", spec := "signerOwn", unfollowed := true, recurses := true, apart := false, narrowed := true }
def SignerOwnUptoSaid : Prop := signerOwnUptoRow.holds Try.pinned (OpenSpec.upto signerOwnSpec)

/-- 'mootlaw05.SignerTells', WHERE WHAT IT READS IS OF BULK AT MOST 1048576: true; the input reads as it did. -/
def signerTellsUptoRow : OpenClaim := { program := "ytldehcnaepgamaa", sum := "aac13abac8c9e4c7ea1dd07b5f6012b22be7316433b343126ac2174b8c7a2840", func := "moot/mootlaw05.SignerTells", spec := "signerTells", unfollowed := true, recurses := true, apart := false, narrowed := true }
def SignerTellsUptoSaid : Prop := signerTellsUptoRow.holds Try.pinned (OpenSpec.upto signerTellsSpec)

/-- 'mootlaw05.SignerBack', WHERE WHAT IT READS IS OF BULK AT MOST 1048576: true; the input reads as it did. -/
def signerBackUptoRow : OpenClaim := { program := "ytldehcnaepgamaa", sum := "aac13abac8c9e4c7ea1dd07b5f6012b22be7316433b343126ac2174b8c7a2840", func := "moot/mootlaw05.SignerBack", spec := "signerBack", unfollowed := true, recurses := true, apart := false, narrowed := true }
def SignerBackUptoSaid : Prop := signerBackUptoRow.holds Try.pinned (OpenSpec.upto signerBackSpec)

/-- 'mootlaw34.WalletTells', WHERE WHAT IT READS IS OF BULK AT MOST 1048576: true; the input reads as it did. -/
def walletTellsUptoRow : OpenClaim := { program := "ytldehcnaepgamaa", sum := "aac13abac8c9e4c7ea1dd07b5f6012b22be7316433b343126ac2174b8c7a2840", func := "moot/mootlaw34.WalletTells", spec := "walletTells", unfollowed := true, recurses := true, apart := false, narrowed := true }
def WalletTellsUptoSaid : Prop := walletTellsUptoRow.holds Try.pinned (OpenSpec.upto walletTellsSpec)

/-- 'mootlaw34.WalletPays', WHERE WHAT IT READS IS OF BULK AT MOST 1048576: true; the input reads as it did. -/
def walletPaysUptoRow : OpenClaim := { program := "ytldehcnaepgamaa", sum := "aac13abac8c9e4c7ea1dd07b5f6012b22be7316433b343126ac2174b8c7a2840", func := "moot/mootlaw34.WalletPays", spec := "walletPays", unfollowed := true, recurses := true, apart := false, narrowed := true }
def WalletPaysUptoSaid : Prop := walletPaysUptoRow.holds Try.pinned (OpenSpec.upto walletPaysSpec)

/-- 'mootlaw11.MessageBack', WHERE WHAT IT READS IS OF BULK AT MOST 1048576: true; the input reads as it did. -/
def messageBackUptoRow : OpenClaim := { program := "ytldehcnaepgamaa", sum := "aac13abac8c9e4c7ea1dd07b5f6012b22be7316433b343126ac2174b8c7a2840", func := "moot/mootlaw11.MessageBack", spec := "messageBack", unfollowed := true, recurses := true, apart := false, narrowed := true }
def MessageBackUptoSaid : Prop := messageBackUptoRow.holds Try.pinned (OpenSpec.upto messageBackSpec)

/-- 'mootlaw11.MessageCuts', WHERE WHAT IT READS IS OF BULK AT MOST 1048576: true; the input reads as it did. -/
def messageCutsUptoRow : OpenClaim := { program := "ytldehcnaepgamaa", sum := "aac13abac8c9e4c7ea1dd07b5f6012b22be7316433b343126ac2174b8c7a2840", func := "moot/mootlaw11.MessageCuts", spec := "messageCuts", unfollowed := true, recurses := true, apart := false, narrowed := true }
def MessageCutsUptoSaid : Prop := messageCutsUptoRow.holds Try.pinned (OpenSpec.upto messageCutsSpec)

/-- 'mootlaw07.TxBack', WHERE WHAT IT READS IS OF BULK AT MOST 1048576: true; the input reads as it did. -/
def txBackUptoRow : OpenClaim := { program := "ytldehcnaepgamaa", sum := "aac13abac8c9e4c7ea1dd07b5f6012b22be7316433b343126ac2174b8c7a2840", func := "moot/mootlaw07.TxBack", spec := "txBack", unfollowed := true, recurses := true, apart := false, narrowed := true }
def TxBackUptoSaid : Prop := txBackUptoRow.holds Try.pinned (OpenSpec.upto txBackSpec)

/-- 'mootlaw08.VoteBack', WHERE WHAT IT READS IS OF BULK AT MOST 1048576: true; the input reads as it did. -/
def voteBackUptoRow : OpenClaim := { program := "ytldehcnaepgamaa", sum := "aac13abac8c9e4c7ea1dd07b5f6012b22be7316433b343126ac2174b8c7a2840", func := "moot/mootlaw08.VoteBack", spec := "voteBack", unfollowed := true, recurses := true, apart := false, narrowed := true }
def VoteBackUptoSaid : Prop := voteBackUptoRow.holds Try.pinned (OpenSpec.upto voteBackSpec)

end Rows
end Go.Proofs.Ytldehcnaepgamaa
