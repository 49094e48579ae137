/-
  The law RosterAll holds: of whatever number of replicas.
-/
import Derived.Test.YtacglboiodolkaaRo7
import Derived.Test.YtacglboiodolkaaAmF
import Derived.ProofKit
import Derived.SizedLaws
set_option linter.unusedVariables false
set_option linter.unusedSimpArgs false
namespace Go.Proofs.Ytacglboiodolkaa.AM
open Go

theorem laid : laidOutB Try.prog = true := by kernel_rfl
theorem ownK : ownKnob Try.prog.godebug = none := by kernel_rfl

noncomputable def R1a : FuncId → Contract := ext (ext (ext none0 16 rcC) 14 allC) 17 smC
theorem R1a_sound : SoundG Try.prog R1a := ext_sound (ext_sound (ext_sound none0_sound rc_sound) (all_sound none0_sound)) (sm_sound none0_sound)
noncomputable def R2a : FuncId → Contract := ext R1a 15 ckC
theorem R2a_sound : SoundG Try.prog R2a := ext_sound R1a_sound (ck_sound R1a_sound rfl)
noncomputable def R3a : FuncId → Contract := ext R2a 13 alive40C
theorem R3a_sound : SoundG Try.prog R3a := ext_sound R2a_sound (alive40_sound R2a_sound rfl rfl)

set_option maxRecDepth 100000 in
theorem int_of {x : AV} (h : AVT Try.prog 3 x) : ∃ n : Int, x = .c (.int .i64 n) := by
  obtain ⟨n, cs, hp, hx⟩ := h
  have u3 : Try.prog.underlying 3 = some (.int .i64) := by kernel_rfl
  rw [u3] at hx
  obtain ⟨c, rfl, rfl⟩ := hx
  cases n with
  | zero => exact hp.elim
  | succ n =>
    simp only [PTn, u3] at hp
    obtain ⟨v, hv, _⟩ := hp
    cases hv
    exact ⟨v, rfl⟩

set_option maxRecDepth 100000 in
theorem rosterAll_lifted (os : Os) (started : os.Started) (H : Type) (enc : TypeId × Value → H) :
    ReturnsInHanded {} Try.checked os 3 .any (Rows.rosterAllSpec.pre6 enc Try.prog Try.f3 Rows.rosterAllRow.domain false) (Rows.rosterAllSpec.post enc Try.prog Try.f3 false true false false) := by
  refine returnsInHanded_of_change_sized (C := Try.checked) ownK started (by kernel_rfl) Try.func3
    (ChangeSpec.witness6 (enc := enc) (C := Try.checked) false ⟨#[], #[.int .i64 0], []⟩ 8 (by kernel_rfl) (by kernel_rfl) (by kernel_rfl) (by kernel_rfl)) ?_
  intro W base args ds gs before hval hW hcnd hsz _
  refine law_done laid (ra_sound R3a_sound rfl rfl rfl rfl rfl) rfl (ts := [3]) (by kernel_rfl) (tb := 4) (by kernel_rfl) (by kernel_rfl) ?_ ?_ ?_ ?_ hval hW
  · intro t ht; simp at ht; rcases ht with rfl; kernel_rfl
  · intro t ht; simp at ht; rcases ht with rfl; exact ⟨by kernel_rfl, of_decide_eq_true (by kernel_rfl)⟩
  · intro ds hd
    match ds, hd with
    | [d], _ => rfl
  · intro xs hxs
    match xs, hxs with
    | [x], h =>
      obtain ⟨n, rfl⟩ := int_of h.1
      exact mkC_at (α := Int) n trivial (fun _ _ _ _ => rfl)
    | [], h => exact h.elim
    | _ :: _ :: _, h => exact h.2.elim

end Go.Proofs.Ytacglboiodolkaa.AM
namespace Go.Proofs.Ytacglboiodolkaa
open Go

theorem rosterAll_over : Rows.rosterAllRow.holds Try.pinned (OpenSpec.ofChange Rows.rosterAllSpec) :=
  OpenClaim.holds_of_wide 3 Try.f3 rfl rfl rfl rfl rfl rfl rfl ⟨rfl, rfl, rfl, rfl, rfl⟩ rfl rfl rfl rfl rfl (by kernel_rfl) Try.func3 (by kernel_rfl)
    (of_decide_eq_true (by kernel_rfl)) (by unfold Func.isWrapper; first | (rw [if_pos (by decide +kernel)]; kernel_rfl) | (rw [if_neg (by decide +kernel)]; exact ⟨rfl, rfl⟩))
    (fun os started H enc _ => AM.rosterAll_lifted os started H enc)

/-- The row. -/
theorem rosterAll_holds : Rows.RosterAllSaid := rosterAll_over
#print axioms rosterAll_holds
end Go.Proofs.Ytacglboiodolkaa
