/-
  QA: Sg1 Sg2 Sn1 Sn2 Sn3.
-/
import Derived.Test.YtldehcnaepgamaaQ7
set_option linter.unusedVariables false
set_option linter.unusedSimpArgs false
namespace Go.Proofs.Ytldehcnaepgamaa.AM
open Go

variable {Γ : FuncId → Contract}

structure Sd where
  seed : List UInt8
  leaf : Int
  place : Int

variable {Γ : FuncId → Contract}



variable {Γ : FuncId → Contract}


variable {Γ : FuncId → Contract}

structure Sgn where
  seed : List UInt8
  leaf : Int
  text : List UInt8
def all8 (parts : List (List UInt8)) : Prop := ∀ p ∈ parts, p.length = 8
instance (parts : List (List UInt8)) : Decidable (all8 parts) := inferInstanceAs (Decidable (∀ p ∈ parts, p.length = 8))
end Go.Proofs.Ytldehcnaepgamaa.AM
