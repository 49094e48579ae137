/-
  QC: Sn7 Sn8.
-/
import Derived.Test.YtldehcnaepgamaaQB
set_option linter.unusedVariables false
set_option linter.unusedSimpArgs false
namespace Go.Proofs.Ytldehcnaepgamaa.AM
open Go

variable {Γ : FuncId → Contract}

def Ky.step (k : Ky) : Ky := ⟨k.seed, k.leaves, k.next + 1⟩
structure Sk where
  k : Ky
  text : List UInt8

variable {Γ : FuncId → Contract}

end Go.Proofs.Ytldehcnaepgamaa.AM
