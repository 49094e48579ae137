/-
  QE: SbA SbB SbC.
-/
import Derived.Test.YtldehcnaepgamaaQC
import Derived.Test.YtldehcnaepgamaaQP
import Derived.Test.YtldehcnaepgamaaQD
set_option linter.unusedVariables false
set_option linter.unusedSimpArgs false
namespace Go.Proofs.Ytldehcnaepgamaa.AM
open Go


variable {Γ : FuncId → Contract}

structure Sv where
  root : List UInt8
  h : Int
  text : List UInt8
  sig : List UInt8

variable {Γ : FuncId → Contract}

structure Bk where
  seed : List UInt8
  h : Int
  l : List (List UInt8)
end Go.Proofs.Ytldehcnaepgamaa.AM
