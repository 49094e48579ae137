/-
  The law SignerLeaves holds: a key's leaves are those of its seed.
-/
import Derived.Test.YtjdokoldiemobaaSg4
import Derived.Test.YtjdokoldiemobaaAmF
import Derived.Test.YtjdokoldiemobaaRows
import Derived.ProofKit
import Derived.SizedLaws
set_option linter.unusedVariables false
set_option linter.unusedSimpArgs false
namespace Go.Proofs.Ytjdokoldiemobaa.AM
open Go

theorem laid : laidOutB Try.prog = true := by kernel_rfl
theorem ownK : ownKnob Try.prog.godebug = none := by kernel_rfl


noncomputable def S1 : FuncId → Contract := ext (ext (ext (ext (ext (ext none0 122 putC) 180 growC) 189 rotC) 188 wordC) 158 wordsC) 155 kC
theorem S1_sound : SoundG Try.prog S1 := ext_sound (ext_sound (ext_sound (ext_sound (ext_sound (ext_sound none0_sound put_sound) grow_sound) rot_sound) word_sound) words_sound) constants_sound
noncomputable def S2 : FuncId → Contract := ext (ext (ext S1 154 hC) 159 concatC) 179 rightC
theorem S2_sound : SoundG Try.prog S2 := ext_sound (ext_sound (ext_sound S1_sound first_sound) (concat_sound S1_sound rfl)) (right_sound S1_sound rfl)
noncomputable def S3 : FuncId → Contract := ext (ext S2 132 concatC) 178 schedC
theorem S3_sound : SoundG Try.prog S3 := ext_sound (ext_sound S2_sound (join_sound S2_sound rfl)) (sched_sound S2_sound rfl rfl)
noncomputable def S4 : FuncId → Contract := ext (ext S3 156 padC) 157 blockC
theorem S4_sound : SoundG Try.prog S4 := ext_sound (ext_sound S3_sound (pad_sound S3_sound rfl rfl)) (block_sound S3_sound rfl rfl)
noncomputable def S5 : FuncId → Contract := ext S4 131 sumC
theorem S5_sound : SoundG Try.prog S5 := ext_sound S4_sound (sum_sound S4_sound rfl rfl rfl rfl rfl)
noncomputable def S6 : FuncId → Contract := ext S5 102 longC
theorem S6_sound : SoundG Try.prog S6 := ext_sound S5_sound (long_sound S5_sound rfl rfl)
noncomputable def S7 : FuncId → Contract := ext S6 96 shortC
theorem S7_sound : SoundG Try.prog S7 := ext_sound S6_sound (short_sound S6_sound rfl)
noncomputable def S8r : FuncId → Contract := ext (ext (ext S7 92 putC) 138 kC) 140 turnC
theorem S8r_sound : SoundG Try.prog S8r := ext_sound (ext_sound (ext_sound S7_sound (refPut_sound S7_sound)) refwords_sound) turn_sound
noncomputable def S9 : FuncId → Contract := ext S8r 139 padC
theorem S9_sound : SoundG Try.prog S9 := ext_sound S8r_sound (refPad_sound S8r_sound rfl)
noncomputable def S10 : FuncId → Contract := ext S9 110 sumC
theorem S10_sound : SoundG Try.prog S10 := ext_sound S9_sound (refSha_sound S9_sound rfl rfl rfl)
noncomputable def S11 : FuncId → Contract := ext S10 66 short1C
theorem S11_sound : SoundG Try.prog S11 := ext_sound S10_sound (refShort_sound S10_sound rfl)
noncomputable def S12 : FuncId → Contract := ext (ext (ext (ext (ext S11 108 secC) 65 secC) 107 chainC) 64 chainC) 109 endedC
theorem S12_sound : SoundG Try.prog S12 := ext_sound (ext_sound (ext_sound (ext_sound (ext_sound S11_sound (sec_sound S11_sound rfl rfl)) (refSec_sound S11_sound rfl rfl)) (chain_sound S11_sound rfl)) (refChain_sound S11_sound rfl)) (ended_sound S11_sound rfl)
noncomputable def S13 : FuncId → Contract := ext (ext (ext S12 63 leafC) 17 leafC) 62 sizeC
theorem S13_sound : SoundG Try.prog S13 := ext_sound (ext_sound (ext_sound S12_sound (leaf_sound S12_sound rfl rfl rfl)) (refLeaf_sound S12_sound rfl rfl rfl)) size_sound
noncomputable def S14 : FuncId → Contract := ext (ext S13 16 newKeyC) 15 alive5C
theorem S14_sound : SoundG Try.prog S14 := ext_sound (ext_sound S13_sound (newKey_sound S13_sound rfl)) (alive5_sound S13_sound rfl)

set_option maxRecDepth 100000 in
theorem int_of {x : AV} (h : AVT Try.prog 3 x) : ∃ n : Int, x = .c (.int .i64 n) := by
  obtain ⟨n, cs, hp, hx⟩ := h
  have u3 : Try.prog.underlying 3 = some (.int .i64) := by kernel_rfl
  rw [u3] at hx
  obtain ⟨c, rfl, rfl⟩ := hx
  cases n with
  | zero => exact hp.elim
  | succ n =>
    simp only [PT, u3] at hp
    obtain ⟨v, hv, _⟩ := hp
    cases hv
    exact ⟨v, rfl⟩
set_option maxRecDepth 100000 in
theorem str_of {x : AV} (h : AVT Try.prog 9 x) : ∃ s : List UInt8, x = .c (.str s) ∧ s.length ≤ 9223372036854775807 := by
  obtain ⟨n, cs, hp, hx⟩ := h
  have u3 : Try.prog.underlying 9 = some .string := by kernel_rfl
  rw [u3] at hx
  obtain ⟨c, rfl, rfl⟩ := hx
  cases n with
  | zero => exact hp.elim
  | succ n =>
    simp only [PT, u3] at hp
    obtain ⟨v, hv, hl⟩ := hp
    cases hv
    exact ⟨v, rfl, by simp [maxLen] at hl; omega⟩

set_option maxRecDepth 100000 in
theorem signerLeaves_lifted (os : Os) (started : os.Started) (H : Type) (enc : TypeId × Value → H) :
    ReturnsInHanded {} Try.checked os 3 .any (Rows.signerLeavesSpec.pre6 enc Try.prog Try.f3 Rows.signerLeavesRow.domain false) (Rows.signerLeavesSpec.post enc Try.prog Try.f3 false true false false) := by
  refine returnsInHanded_of_change_sized (C := Try.checked) ownK started (by kernel_rfl) Try.func3
    (ChangeSpec.witness6 (enc := enc) (C := Try.checked) false ⟨#[], #[.string ⟨#[]⟩, .int .i64 0], []⟩ 8 (by kernel_rfl) (by kernel_rfl) (by kernel_rfl) (by kernel_rfl)) ?_
  intro W base args ds gs before hval hW hcnd hsz _
  refine law_done laid (signerLeaves_sound S14_sound rfl rfl rfl) rfl (ts := [9, 3]) (by kernel_rfl) (tb := 4) (by kernel_rfl) (by kernel_rfl) ?_ ?_ ?_ ?_ hval hW
  · intro t ht; simp at ht; rcases ht with rfl | rfl <;> kernel_rfl
  · intro t ht; simp at ht; rcases ht with rfl | rfl <;> exact ⟨by kernel_rfl, of_decide_eq_true (by kernel_rfl)⟩
  · intro ds hd
    match ds, hd with
    | [d, e], _ => rfl
  · intro xs hxs
    match xs, hxs with
    | [x, y], h =>
      obtain ⟨h1, h2, _⟩ := h
      obtain ⟨s, rfl, hs⟩ := str_of h1
      obtain ⟨n, rfl⟩ := int_of h2
      simp [slC, hs]
    | [], h => exact h.elim
    | [_], h => exact h.2.elim
    | _ :: _ :: _ :: _, h => exact h.2.2.elim

end Go.Proofs.Ytjdokoldiemobaa.AM
namespace Go.Proofs.Ytjdokoldiemobaa
open Go

theorem signerLeaves_over : Rows.signerLeavesRow.holds Try.pinned (OpenSpec.ofChange Rows.signerLeavesSpec) :=
  OpenClaim.holds_of_wide 3 Try.f3 rfl rfl rfl rfl rfl rfl rfl ⟨rfl, rfl, rfl, rfl, rfl⟩ rfl rfl rfl rfl rfl (by kernel_rfl) Try.func3 (by kernel_rfl)
    (of_decide_eq_true (by kernel_rfl)) (by unfold Func.isWrapper; first | (rw [if_pos (by decide +kernel)]; kernel_rfl) | (rw [if_neg (by decide +kernel)]; exact ⟨rfl, rfl⟩))
    (fun os started H enc _ => AM.signerLeaves_lifted os started H enc)

/-- The law's row. -/
theorem signerLeaves_holds : Rows.SignerLeavesSaid := signerLeaves_over
#print axioms signerLeaves_holds
end Go.Proofs.Ytjdokoldiemobaa
