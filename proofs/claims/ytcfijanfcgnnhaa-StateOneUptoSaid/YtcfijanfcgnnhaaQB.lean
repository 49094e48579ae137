/-
  QB: EkT.
-/
import Derived.Test.YtcfijanfcgnnhaaQ9
import Derived.Test.YtcfijanfcgnnhaaQ4
import Derived.ProofKit
import Derived.SizedLaws
import Derived.JoinedCond
set_option linter.unusedVariables false
set_option linter.unusedSimpArgs false
namespace Go.Proofs.Ytcfijanfcgnnhaa.AM
open Go

theorem laid : laidOutB Try.prog = true := by kernel_rfl
theorem ownK : ownKnob Try.prog.godebug = none := by kernel_rfl

noncomputable def M1 : FuncId → Contract := ext (ext (ext (ext (ext (ext none0 75 putC) 136 growC) 138 rotC) 137 wordC) 131 wordsC) 128 kC
theorem M1_sound : SoundG Try.prog M1 := ext_sound (ext_sound (ext_sound (ext_sound (ext_sound (ext_sound none0_sound put_sound) grow_sound) rot_sound) word_sound) words_sound) constants_sound
noncomputable def M2 : FuncId → Contract := ext (ext (ext M1 127 hC) 132 concatC) 135 rightC
theorem M2_sound : SoundG Try.prog M2 := ext_sound (ext_sound (ext_sound M1_sound first_sound) (concat_sound M1_sound rfl)) (right_sound M1_sound rfl)
noncomputable def M3 : FuncId → Contract := ext (ext M2 120 concatC) 134 schedC
theorem M3_sound : SoundG Try.prog M3 := ext_sound (ext_sound M2_sound (join_sound M2_sound rfl)) (sched_sound M2_sound rfl rfl)
noncomputable def M4 : FuncId → Contract := ext (ext M3 129 padC) 130 blockC
theorem M4_sound : SoundG Try.prog M4 := ext_sound (ext_sound M3_sound (pad_sound M3_sound rfl rfl)) (block_sound M3_sound rfl rfl)
noncomputable def M5 : FuncId → Contract := ext M4 119 sumC
theorem M5_sound : SoundG Try.prog M5 := ext_sound M4_sound (sum_sound M4_sound rfl rfl rfl rfl rfl)
noncomputable def M6 : FuncId → Contract := ext M5 102 longC
theorem M6_sound : SoundG Try.prog M6 := ext_sound M5_sound (long_sound M5_sound rfl rfl)
noncomputable def M7 : FuncId → Contract := ext M6 86 shortC
theorem M7_sound : SoundG Try.prog M7 := ext_sound M6_sound (short_sound M6_sound rfl)
noncomputable def M12 : FuncId → Contract := (ext (ext (ext M7 101 upC) 66 climbC) 36 textsC)
theorem M12_sound : SoundG Try.prog M12 := (ext_sound (ext_sound (ext_sound M7_sound (up_sound M7_sound rfl)) (climb_sound M7_sound rfl)) (texts_sound M7_sound))
noncomputable def M13 : FuncId → Contract := (ext (ext M12 68 rootC) 64 pathC)
theorem M13_sound : SoundG Try.prog M13 := (ext_sound (ext_sound M12_sound (root_sound M12_sound rfl (up_sound M7_sound rfl))) (path_sound M12_sound rfl (up_sound M7_sound rfl)))

set_option maxRecDepth 100000 in
theorem int_ofN {N : Nat} {x : AV} (h : AVTn Try.prog N 3 x) : ∃ n : Int, x = .c (.int .i64 n) ∧ -9223372036854775808 ≤ n ∧ n < 9223372036854775808 := by
  obtain ⟨n, cs, hp, hx⟩ := h
  have u3 : Try.prog.underlying 3 = some (.int .i64) := by kernel_rfl
  rw [u3] at hx
  obtain ⟨c, rfl, rfl⟩ := hx
  cases n with
  | zero => exact hp.elim
  | succ n =>
    simp only [PTn, u3] at hp
    obtain ⟨v, hv, hw⟩ := hp
    cases hv
    refine ⟨v, rfl, ?_⟩
    simp [Lit.wf, IntKind.min, IntKind.max, IntKind.bits, IntKind.signed] at hw
    omega
end Go.Proofs.Ytcfijanfcgnnhaa.AM
