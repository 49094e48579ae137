/-
  The laws TxKeys and VoteKeys hold: clients' and replicas' keys are those of their seeds.
-/
import Derived.Test.YtjdokoldiemobaaSg8
import Derived.Test.YtjdokoldiemobaaSg3
set_option linter.unusedVariables false
set_option linter.unusedSimpArgs false
namespace Go.Proofs.Ytjdokoldiemobaa.AM
open Go

noncomputable def S15 : FuncId → Contract := ext (ext (ext S14 75 clientC) 29 same0C) 76 replicaC
theorem S15_sound : SoundG Try.prog S15 := ext_sound (ext_sound (ext_sound S14_sound client_sound) same0_sound) replica_sound
noncomputable def S16 : FuncId → Contract := ext (ext (ext S15 112 aboutC) 113 tickedC) 72 txCheckC
theorem S16_sound : SoundG Try.prog S16 := ext_sound (ext_sound (ext_sound S15_sound about_sound) ticked_sound) (txCheck_sound S15_sound rfl)
noncomputable def S17 : FuncId → Contract := ext (ext (ext S16 28 txKeyC) 31 voteKeyC) 68 voteCheckC
theorem S17_sound : SoundG Try.prog S17 := ext_sound (ext_sound (ext_sound S16_sound (txKey_sound S16_sound rfl rfl)) (voteKey_sound S16_sound rfl rfl)) (voteCheck_sound S16_sound rfl rfl rfl)
noncomputable def S18 : FuncId → Contract := ext (ext S17 30 alive5C) 32 alive5C
theorem S18_sound : SoundG Try.prog S18 := ext_sound (ext_sound S17_sound (alive7_sound S17_sound rfl)) (alive8_sound S17_sound rfl)

set_option maxRecDepth 100000 in
theorem txKeys_lifted (os : Os) (started : os.Started) (H : Type) (enc : TypeId × Value → H) :
    ReturnsInHanded {} Try.checked os 5 .any (Rows.txKeysSpec.pre6 enc Try.prog Try.f5 Rows.txKeysRow.domain false) (Rows.txKeysSpec.post enc Try.prog Try.f5 false true false false) := by
  refine returnsInHanded_of_change_sized (C := Try.checked) ownK started (by kernel_rfl) Try.func5
    (ChangeSpec.witness6 (enc := enc) (C := Try.checked) false ⟨#[], #[.int .i64 0], []⟩ 8 (by kernel_rfl) (by kernel_rfl) (by kernel_rfl) (by kernel_rfl)) ?_
  intro W base args ds gs before hval hW hcnd hsz _
  refine law_done laid (txKeys_sound S18_sound rfl rfl rfl rfl) rfl (ts := [3]) (by kernel_rfl) (tb := 4) (by kernel_rfl) (by kernel_rfl) ?_ ?_ ?_ ?_ hval hW
  · intro t ht; simp at ht; rcases ht with rfl; kernel_rfl
  · intro t ht; simp at ht; rcases ht with rfl; exact ⟨by kernel_rfl, of_decide_eq_true (by kernel_rfl)⟩
  · intro ds hd
    match ds, hd with
    | [d], _ => rfl
  · intro xs hxs
    match xs, hxs with
    | [x], h =>
      obtain ⟨n, rfl⟩ := int_of h.1
      rfl
    | [], h => exact h.elim
    | _ :: _ :: _, h => exact h.2.elim

set_option maxRecDepth 100000 in
theorem voteKeys_lifted (os : Os) (started : os.Started) (H : Type) (enc : TypeId × Value → H) :
    ReturnsInHanded {} Try.checked os 6 .any (Rows.voteKeysSpec.pre6 enc Try.prog Try.f6 Rows.voteKeysRow.domain false) (Rows.voteKeysSpec.post enc Try.prog Try.f6 false true false false) := by
  refine returnsInHanded_of_change_sized (C := Try.checked) ownK started (by kernel_rfl) Try.func6
    (ChangeSpec.witness6 (enc := enc) (C := Try.checked) false ⟨#[], #[.int .i64 0], []⟩ 8 (by kernel_rfl) (by kernel_rfl) (by kernel_rfl) (by kernel_rfl)) ?_
  intro W base args ds gs before hval hW hcnd hsz _
  refine law_done laid (voteKeys_sound S18_sound rfl rfl rfl rfl) rfl (ts := [3]) (by kernel_rfl) (tb := 4) (by kernel_rfl) (by kernel_rfl) ?_ ?_ ?_ ?_ hval hW
  · intro t ht; simp at ht; rcases ht with rfl; kernel_rfl
  · intro t ht; simp at ht; rcases ht with rfl; exact ⟨by kernel_rfl, of_decide_eq_true (by kernel_rfl)⟩
  · intro ds hd
    match ds, hd with
    | [d], _ => rfl
  · intro xs hxs
    match xs, hxs with
    | [x], h =>
      obtain ⟨n, rfl⟩ := int_of h.1
      rfl
    | [], h => exact h.elim
    | _ :: _ :: _, h => exact h.2.elim

end Go.Proofs.Ytjdokoldiemobaa.AM
namespace Go.Proofs.Ytjdokoldiemobaa
open Go

theorem txKeys_over : Rows.txKeysRow.holds Try.pinned (OpenSpec.ofChange Rows.txKeysSpec) :=
  OpenClaim.holds_of_wide 5 Try.f5 rfl rfl rfl rfl rfl rfl rfl ⟨rfl, rfl, rfl, rfl, rfl⟩ rfl rfl rfl rfl rfl (by kernel_rfl) Try.func5 (by kernel_rfl)
    (of_decide_eq_true (by kernel_rfl)) (by unfold Func.isWrapper; first | (rw [if_pos (by decide +kernel)]; kernel_rfl) | (rw [if_neg (by decide +kernel)]; exact ⟨rfl, rfl⟩))
    (fun os started H enc _ => AM.txKeys_lifted os started H enc)
theorem voteKeys_over : Rows.voteKeysRow.holds Try.pinned (OpenSpec.ofChange Rows.voteKeysSpec) :=
  OpenClaim.holds_of_wide 6 Try.f6 rfl rfl rfl rfl rfl rfl rfl ⟨rfl, rfl, rfl, rfl, rfl⟩ rfl rfl rfl rfl rfl (by kernel_rfl) Try.func6 (by kernel_rfl)
    (of_decide_eq_true (by kernel_rfl)) (by unfold Func.isWrapper; first | (rw [if_pos (by decide +kernel)]; kernel_rfl) | (rw [if_neg (by decide +kernel)]; exact ⟨rfl, rfl⟩))
    (fun os started H enc _ => AM.voteKeys_lifted os started H enc)

/-- The rows. -/
theorem txKeys_holds : Rows.TxKeysSaid := txKeys_over
#print axioms txKeys_holds
theorem voteKeys_holds : Rows.VoteKeysSaid := voteKeys_over
#print axioms voteKeys_holds
end Go.Proofs.Ytjdokoldiemobaa
