/-
  QI: Bv5.
-/
import Derived.Test.YtenmlgalcjkdbaaGreatQH
set_option linter.unusedVariables false
set_option linter.unusedSimpArgs false
namespace Go.Proofs.YtenmlgalcjkdbaaGreat.AM
open Go

variable {Γ : FuncId → Contract}


end Go.Proofs.YtenmlgalcjkdbaaGreat.AM
