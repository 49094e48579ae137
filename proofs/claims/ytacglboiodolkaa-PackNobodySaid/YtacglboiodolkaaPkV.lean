/-
  The law PackBack holds: what was written is read, field by field.
-/
import Derived.Test.YtacglboiodolkaaPkF
import Derived.Test.YtacglboiodolkaaPkW
set_option linter.unusedVariables false
set_option linter.unusedSimpArgs false
namespace Go.Proofs.Ytacglboiodolkaa.AM
open Go

def R1 : FuncId → Contract := ext (ext G3 57 readyC) 60 stopC
theorem R1_sound : SoundG Try.prog R1 := ext_sound (ext_sound G3_sound ready_sound) stop_sound
def R2 : FuncId → Contract := ext (ext (ext R1 59 takeC) 56 getC) 58 getC
theorem R2_sound : SoundG Try.prog R2 := ext_sound (ext_sound (ext_sound R1_sound (take_sound R1_sound rfl)) refGet_sound) get_sound
def R3 : FuncId → Contract := ext (ext R2 30 openC) 35 errC
theorem R3_sound : SoundG Try.prog R3 := ext_sound (ext_sound R2_sound (open_sound R2_sound rfl)) err_sound
def R4 : FuncId → Contract := ext (ext R3 32 rdNumC) 34 rdTextC
theorem R4_sound : SoundG Try.prog R4 := ext_sound (ext_sound R3_sound (rdNum_sound R3_sound rfl rfl rfl rfl)) (rdText_sound R3_sound rfl rfl rfl rfl)
def R5 : FuncId → Contract := ext R4 36 leftC
theorem R5_sound : SoundG Try.prog R5 := ext_sound R4_sound (left_sound R4_sound rfl)

set_option maxRecDepth 100000 in
theorem back_lifted (os : Os) (started : os.Started) (H : Type) (enc : TypeId × Value → H) :
    ReturnsInHanded {} Try.checked os 8 .any (Rows.packBackSpec.pre6 enc Try.prog Try.f8 Rows.packBackRow.domain false) (Rows.packBackSpec.post enc Try.prog Try.f8 false true false false) := by
  refine returnsInHanded_of_change_sized (C := Try.checked) ownK started (by kernel_rfl) Try.func8
    (ChangeSpec.witness6 (enc := enc) (C := Try.checked) false ⟨#[], #[.slice none 0 0], []⟩ 8 (by kernel_rfl) (by kernel_rfl) (by kernel_rfl) (by kernel_rfl)) ?_
  intro W base args ds gs before hval hW hcnd hsz _
  refine law_done laid (back_sound R5_sound rfl rfl rfl rfl rfl rfl rfl rfl rfl rfl rfl) rfl (ts := [39]) (by kernel_rfl) (tb := 4) (by kernel_rfl) (by kernel_rfl) ?_ ?_ ?_ ?_ hval hW
  · intro t ht; simp at ht; subst ht; kernel_rfl
  · intro t ht; simp at ht; subst ht; exact ⟨by kernel_rfl, of_decide_eq_true (by kernel_rfl)⟩
  · intro ds hd
    match ds, hd with
    | [d], _ => rfl
  · intro xs hxs
    match xs, hxs with
    | [x], h =>
      obtain ⟨⟨n, cs, hp, hx⟩, _⟩ := h
      obtain ⟨rows, rfl, h1, h2⟩ := fields_of hp
      rw [show Try.prog.underlying 39 = some (.slice 46) from by kernel_rfl] at hx
      obtain ⟨c, hc, rfl⟩ := hx
      cases hc
      simp [writesC, h1, h2]
    | [], h => exact h.elim
    | _ :: _ :: _, h => exact h.2.elim

end Go.Proofs.Ytacglboiodolkaa.AM
namespace Go.Proofs.Ytacglboiodolkaa
open Go

theorem packBack_over : Rows.packBackRow.holds Try.pinned (OpenSpec.ofChange Rows.packBackSpec) :=
  OpenClaim.holds_of_wide 8 Try.f8 rfl rfl rfl rfl rfl rfl rfl ⟨rfl, rfl, rfl, rfl, rfl⟩ rfl rfl rfl rfl rfl (by kernel_rfl) Try.func8 (by kernel_rfl)
    (of_decide_eq_true (by kernel_rfl)) (by unfold Func.isWrapper; first | (rw [if_pos (by decide +kernel)]; kernel_rfl) | (rw [if_neg (by decide +kernel)]; exact ⟨rfl, rfl⟩))
    (fun os started H enc _ => AM.back_lifted os started H enc)

/-- The law's row. -/
theorem packBack_holds : Rows.PackBackSaid := packBack_over
#print axioms packBack_holds
end Go.Proofs.Ytacglboiodolkaa
