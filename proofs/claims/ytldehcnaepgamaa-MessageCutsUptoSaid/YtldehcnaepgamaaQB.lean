/-
  QB: Sn4 Sn5 Sn6.
-/
import Derived.Test.YtldehcnaepgamaaQA
import Derived.Test.YtldehcnaepgamaaQ9
set_option linter.unusedVariables false
set_option linter.unusedSimpArgs false
namespace Go.Proofs.Ytldehcnaepgamaa.AM
open Go

variable {Γ : FuncId → Contract}

structure Ky where
  seed : List UInt8
  leaves : List (List UInt8)
  next : Int
  deriving DecidableEq
def Ky.av (k : Ky) : AV := .agg [.c (.str k.seed), .c (.sl (texts k.leaves)), .c (.int .i64 k.next)]
theorem Ky.av_inj {a b : Ky} (h : a.av = b.av) : a = b := by
  obtain ⟨a1, a2, a3⟩ := a
  obtain ⟨b1, b2, b3⟩ := b
  simp only [Ky.av, AV.agg.injEq, List.cons.injEq, AV.c.injEq, PC.str.injEq, PC.sl.injEq, PC.int.injEq, true_and, and_true] at h
  obtain ⟨rfl, h, rfl⟩ := h
  rw [texts_inj h]
def okN16 (n : Nat) : Prop := n = 1 ∨ n = 2 ∨ n = 4 ∨ n = 8 ∨ n = 16
instance (n : Nat) : Decidable (okN16 n) := inferInstanceAs (Decidable (_ ∨ _))
def goodK (k : Ky) : Prop := k.seed.length ≤ 64 ∧ okN16 k.leaves.length ∧ all8 k.leaves ∧ 0 ≤ k.next ∧ k.next ≤ (k.leaves.length : Int)
instance (k : Ky) : Decidable (goodK k) := inferInstanceAs (Decidable (_ ∧ _))

variable {Γ : FuncId → Contract}


variable {Γ : FuncId → Contract}

end Go.Proofs.Ytldehcnaepgamaa.AM
