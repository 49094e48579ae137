/-
  QG: Put.
-/
import Derived.RangeFuncNested
import Derived.RangeFuncBound
import Derived.RangeFuncCalls
import Derived.RangeFuncLeaves
import Derived.RangeFuncBox
import Derived.Shelf.Abstract
import Derived.Shelf.RegionOpen
import Derived.WalkKit
import Derived.OwnWalkIn
import Derived.TacticsInMore
import Derived.LoopNIn
import Derived.LoopIn
import Derived.Test.YtcfijanfcgnnhaaDoorQC
set_option linter.unusedVariables false
set_option linter.unusedSimpArgs false
namespace Go.Proofs.YtcfijanfcgnnhaaDoor.AM
open Go Go.Proofs Go.RowKit Go.Shelf
attribute [local go_sem] Oper.semAt_some

/-- The box holds the slice, the slice's places hold octets. -/
def Rd (Bs b k cap : Nat) (W : World) : Prop :=
  W.cell? ⟨Bs, 0, none⟩ = some (.slice (some ⟨b, 0, none⟩) k cap) ∧ ∀ j, j < k → ∃ x, W.cell? ⟨b, j, none⟩ = some (.int .u8 x)

theorem Rd.below {Bs b k cap B : Nat} {A W : World} (h : Rd Bs b k cap A) (hb : Below B A W) (h1 : Bs < B) (h2 : b < B) : Rd Bs b k cap W :=
  ⟨(hb.cell (p := ⟨Bs, 0, none⟩) h1).trans h.1, fun j hj => let ⟨x, hx⟩ := h.2 j hj; ⟨x, (hb.cell (p := ⟨b, j, none⟩) h2).trans hx⟩⟩

end Go.Proofs.YtcfijanfcgnnhaaDoor.AM
