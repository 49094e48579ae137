/-
  Q6: Sh0.
-/
import Derived.Test.YtcfijanfcgnnhaaQ5
set_option linter.unusedVariables false
set_option linter.unusedSimpArgs false
namespace Go.Proofs.Ytcfijanfcgnnhaa.AM
open Go

/-- A contract by shapes: of whatever answers to these arguments and objects. -/
noncomputable def mkC {α : Type} (ok : α → Prop) (A : α → List AV) (O : α → List (List OV)) (R : α → CRes) : Contract := fun args objs =>
  open Classical in if h : ∃ x, ok x ∧ args = A x ∧ objs = O x then some (R h.choose) else none
theorem mkC_inv {α : Type} {ok : α → Prop} {A : α → List AV} {O : α → List (List OV)} {R : α → CRes} {args : List AV} {objs : List (List OV)} {r : CRes} (h : mkC ok A O R args objs = some r) :
    ∃ x, ok x ∧ args = A x ∧ objs = O x ∧ r = R x := by
  unfold mkC at h
  split at h
  · rename_i hx
    cases h
    obtain ⟨h1, h2, h3⟩ := hx.choose_spec
    exact ⟨_, h1, h2, h3, rfl⟩
  · cases h
theorem mkC_at {α : Type} {ok : α → Prop} {A : α → List AV} {O : α → List (List OV)} {R : α → CRes} (x : α) (h : ok x) (hi : ∀ y, ok y → A y = A x → O y = O x → R y = R x) : mkC ok A O R (A x) (O x) = some (R x) := by
  unfold mkC
  have hx : ∃ y, ok y ∧ A x = A y ∧ O x = O y := ⟨x, h, rfl, rfl⟩
  rw [dif_pos hx]
  obtain ⟨h1, h2, h3⟩ := hx.choose_spec
  rw [hi _ h1 h2.symm h3.symm]

variable {P : Program} {t : TypeId}
end Go.Proofs.Ytcfijanfcgnnhaa.AM
