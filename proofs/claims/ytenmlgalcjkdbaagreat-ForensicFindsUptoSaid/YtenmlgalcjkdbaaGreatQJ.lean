/-
  QJ: Bv6.
-/
import Derived.Test.YtenmlgalcjkdbaaGreatQI
import Derived.Test.YtenmlgalcjkdbaaGreatQ9
import Derived.Test.YtenmlgalcjkdbaaGreatQG
set_option linter.unusedVariables false
set_option linter.unusedSimpArgs false
namespace Go.Proofs.YtenmlgalcjkdbaaGreat.AM
open Go

variable {Γ : FuncId → Contract}


structure Cfg where
  ro : List (List UInt8)
  cl : List (List UInt8)
  q : Int
  ba : Int
  ca : Int
def Cfg.av (c : Cfg) : AV := .agg [.c (.sl (texts c.ro)), .c (.sl (texts c.cl)), .c (.int .i64 c.q), .c (.int .i64 c.ba), .c (.int .i64 c.ca)]
theorem ctS_val (c : Ct) (roots : List (List UInt8)) (q : Int) : ctS c roots q = 0 ∨ ctS c roots q = 41 := by
  unfold ctS
  split
  · exact .inl rfl
  · split
    · exact .inr rfl
    · split
      · exact .inl rfl
      · exact .inr rfl
end Go.Proofs.YtenmlgalcjkdbaaGreat.AM
