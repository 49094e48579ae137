/-
  QD: Sn9.
-/
import Derived.Test.YtldehcnaepgamaaQC
set_option linter.unusedVariables false
set_option linter.unusedSimpArgs false
namespace Go.Proofs.Ytldehcnaepgamaa.AM
open Go

variable {Γ : FuncId → Contract}

structure Tl where
  k : Ky
  text : List UInt8
  h : Int
end Go.Proofs.Ytldehcnaepgamaa.AM
