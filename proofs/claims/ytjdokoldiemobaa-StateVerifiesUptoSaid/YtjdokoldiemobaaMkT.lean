/-
  The tables of what is proved of sha and merkle; a law's arguments.
-/
import Derived.Test.YtjdokoldiemobaaMk9
import Derived.Test.YtjdokoldiemobaaAmF
import Derived.ProofKit
import Derived.SizedLaws
import Derived.JoinedCond
set_option linter.unusedVariables false
set_option linter.unusedSimpArgs false
namespace Go.Proofs.Ytjdokoldiemobaa.AM
open Go

theorem laid : laidOutB Try.prog = true := by kernel_rfl
theorem ownK : ownKnob Try.prog.godebug = none := by kernel_rfl

noncomputable def M1 : FuncId → Contract := ext (ext (ext (ext (ext (ext none0 122 putC) 180 growC) 189 rotC) 188 wordC) 158 wordsC) 155 kC
theorem M1_sound : SoundG Try.prog M1 := ext_sound (ext_sound (ext_sound (ext_sound (ext_sound (ext_sound none0_sound put_sound) grow_sound) rot_sound) word_sound) words_sound) constants_sound
noncomputable def M2 : FuncId → Contract := ext (ext (ext M1 154 hC) 159 concatC) 179 rightC
theorem M2_sound : SoundG Try.prog M2 := ext_sound (ext_sound (ext_sound M1_sound first_sound) (concat_sound M1_sound rfl)) (right_sound M1_sound rfl)
noncomputable def M3 : FuncId → Contract := ext (ext M2 132 concatC) 178 schedC
theorem M3_sound : SoundG Try.prog M3 := ext_sound (ext_sound M2_sound (join_sound M2_sound rfl)) (sched_sound M2_sound rfl rfl)
noncomputable def M4 : FuncId → Contract := ext (ext M3 156 padC) 157 blockC
theorem M4_sound : SoundG Try.prog M4 := ext_sound (ext_sound M3_sound (pad_sound M3_sound rfl rfl)) (block_sound M3_sound rfl rfl)
noncomputable def M5 : FuncId → Contract := ext M4 131 sumC
theorem M5_sound : SoundG Try.prog M5 := ext_sound M4_sound (sum_sound M4_sound rfl rfl rfl rfl rfl)
noncomputable def M6 : FuncId → Contract := ext M5 102 longC
theorem M6_sound : SoundG Try.prog M6 := ext_sound M5_sound (long_sound M5_sound rfl rfl)
noncomputable def M7 : FuncId → Contract := ext M6 96 shortC
theorem M7_sound : SoundG Try.prog M7 := ext_sound M6_sound (short_sound M6_sound rfl)
noncomputable def M8 : FuncId → Contract := ext (ext (ext M7 92 putC) 138 kC) 140 turnC
theorem M8_sound : SoundG Try.prog M8 := ext_sound (ext_sound (ext_sound M7_sound (refPut_sound M7_sound)) refwords_sound) turn_sound
noncomputable def M9 : FuncId → Contract := ext M8 139 padC
theorem M9_sound : SoundG Try.prog M9 := ext_sound M8_sound (refPad_sound M8_sound rfl)
noncomputable def M10 : FuncId → Contract := ext M9 110 sumC
theorem M10_sound : SoundG Try.prog M10 := ext_sound M9_sound (refSha_sound M9_sound rfl rfl rfl)
noncomputable def M11 : FuncId → Contract := ext M10 66 short1C
theorem M11_sound : SoundG Try.prog M11 := ext_sound M10_sound (refShort_sound M10_sound rfl)
noncomputable def M12 : FuncId → Contract := ext (ext (ext (ext (ext M11 152 upC) 95 upC) 98 climbC) 53 climbC) 49 textsC
theorem M12_sound : SoundG Try.prog M12 := ext_sound (ext_sound (ext_sound (ext_sound (ext_sound M11_sound (up_sound M11_sound rfl)) (refUp_sound M11_sound rfl)) (climb_sound M11_sound rfl)) (refClimb_sound M11_sound rfl)) (texts_sound M11_sound)
noncomputable def M13 : FuncId → Contract := ext (ext (ext (ext M12 97 rootC) 48 rootC) 93 pathC) 45 pathC
theorem M13_sound : SoundG Try.prog M13 := ext_sound (ext_sound (ext_sound (ext_sound M12_sound (root_sound M12_sound rfl (up_sound M11_sound rfl))) (refRoot_sound M12_sound rfl)) (path_sound M12_sound rfl (up_sound M11_sound rfl))) (refPath_sound M12_sound rfl)

set_option maxRecDepth 100000 in
theorem int_ofN {N : Nat} {x : AV} (h : AVTn Try.prog N 3 x) : ∃ n : Int, x = .c (.int .i64 n) ∧ -9223372036854775808 ≤ n ∧ n < 9223372036854775808 := by
  obtain ⟨n, cs, hp, hx⟩ := h
  have u3 : Try.prog.underlying 3 = some (.int .i64) := by kernel_rfl
  rw [u3] at hx
  obtain ⟨c, rfl, rfl⟩ := hx
  cases n with
  | zero => exact hp.elim
  | succ n =>
    simp only [PTn, u3] at hp
    obtain ⟨v, hv, hw⟩ := hp
    cases hv
    refine ⟨v, rfl, ?_⟩
    simp [Lit.wf, IntKind.min, IntKind.max, IntKind.bits, IntKind.signed] at hw
    omega
set_option maxRecDepth 100000 in
theorem str_ofN {N : Nat} {x : AV} (h : AVTn Try.prog N 9 x) : ∃ s : List UInt8, x = .c (.str s) ∧ s.length ≤ N := by
  obtain ⟨n, cs, hp, hx⟩ := h
  have u3 : Try.prog.underlying 9 = some .string := by kernel_rfl
  rw [u3] at hx
  obtain ⟨c, rfl, rfl⟩ := hx
  cases n with
  | zero => exact hp.elim
  | succ n =>
    simp only [PTn, u3] at hp
    obtain ⟨v, hv, hl⟩ := hp
    cases hv
    exact ⟨v, rfl, hl⟩
set_option maxRecDepth 100000 in
theorem texts_ofN {N : Nat} {x : AV} (h : AVTn Try.prog N 23 x) : ∃ l : List (List UInt8), x = .c (.sl (texts l)) ∧ l.length ≤ N ∧ ∀ s ∈ l, s.length ≤ N := by
  obtain ⟨n, cs, hp, hx⟩ := h
  have u3 : Try.prog.underlying 23 = some (.slice 9) := by kernel_rfl
  have u4 : Try.prog.underlying 9 = some .string := by kernel_rfl
  rw [u3] at hx
  obtain ⟨c, rfl, rfl⟩ := hx
  cases n with
  | zero => exact hp.elim
  | succ n =>
    simp only [PTn, u3] at hp
    obtain ⟨rows, hv, hl, hr⟩ := hp
    cases hv
    have key : ∀ rows : List (List PC), (∀ r ∈ rows, PTn Try.prog N n 9 r) → ∃ l : List (List UInt8), rows = texts l ∧ ∀ s ∈ l, s.length ≤ N := by
      intro rows
      induction rows with
      | nil => intro _; exact ⟨[], rfl, by simp⟩
      | cons r rows ih =>
        intro h
        obtain ⟨l, hl1, hl2⟩ := ih fun r hr => h r (by simp [hr])
        have h0 := h r (by simp)
        cases n with
        | zero => exact h0.elim
        | succ n =>
          simp only [PTn, u4] at h0
          obtain ⟨s, rfl, hs⟩ := h0
          refine ⟨s :: l, by rw [hl1]; rfl, fun t ht => ?_⟩
          rcases List.mem_cons.1 ht with rfl | ht
          · exact hs
          · exact hl2 t ht
    obtain ⟨l, rfl, h2⟩ := key rows hr
    exact ⟨l, rfl, by rw [texts_length] at hl; exact hl, h2⟩
theorem okl_of {l : List (List UInt8)} (h1 : l.length ≤ 1048576) (h2 : ∀ s ∈ l, s.length ≤ 1048576) : Okl l := ⟨by omega, fun s hs => by have := h2 s hs; omega⟩

set_option maxRecDepth 100000 in
theorem u8_ofN {N : Nat} {x : AV} (h : AVTn Try.prog N 5 x) : ∃ n : Nat, x = .c (.int .u8 (n : Int)) ∧ n < 256 := by
  obtain ⟨n, cs, hp, hx⟩ := h
  have u3 : Try.prog.underlying 5 = some (.int .u8) := by kernel_rfl
  rw [u3] at hx
  obtain ⟨c, rfl, rfl⟩ := hx
  cases n with
  | zero => exact hp.elim
  | succ n =>
    simp only [PTn, u3] at hp
    obtain ⟨v, hv, hw⟩ := hp
    cases hv
    simp [Lit.wf, IntKind.min, IntKind.max, IntKind.bits, IntKind.signed] at hw
    exact ⟨v.toNat, by rw [show ((v.toNat : Nat) : Int) = v from by omega], by omega⟩

end Go.Proofs.Ytjdokoldiemobaa.AM
