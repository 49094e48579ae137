/-
  QT: TrH TrI TrJ.
-/
import Derived.Test.YtenmlgalcjkdbaaGreatQS
import Derived.Test.YtenmlgalcjkdbaaGreatQ3
import Derived.RangeFuncNested
import Derived.RangeFuncCalls
import Derived.RangeFuncBox
import Derived.Shelf.Abstract
import Derived.Shelf.RegionOpen
import Derived.WalkKit
import Derived.OwnWalkIn
import Derived.TacticsInMore
import Derived.LoopNIn
import Derived.LoopIn
set_option linter.unusedVariables false
set_option linter.unusedSimpArgs false
namespace Go.Proofs.YtenmlgalcjkdbaaGreat.AM
open Go Go.Proofs Go.RowKit Go.Shelf

variable {Γ : FuncId → Contract}


open Go Go.RowKit

variable {Γ : FuncId → Contract} {E : Env}


variable {Γ : FuncId → Contract}

end Go.Proofs.YtenmlgalcjkdbaaGreat.AM
