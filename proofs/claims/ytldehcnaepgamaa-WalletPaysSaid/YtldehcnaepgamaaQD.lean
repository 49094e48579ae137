/-
  QD: Sn9 SnT.
-/
import Derived.Test.YtldehcnaepgamaaQC
import Derived.Test.YtldehcnaepgamaaQ9
set_option linter.unusedVariables false
set_option linter.unusedSimpArgs false
namespace Go.Proofs.Ytldehcnaepgamaa.AM
open Go

variable {Γ : FuncId → Contract}

structure Tl where
  k : Ky
  text : List UInt8
  h : Int

noncomputable def NA : FuncId → Contract := ext none0 23 sizeC
theorem NA_sound : SoundG Try.prog NA := ext_sound none0_sound size_sound
noncomputable def N1 : FuncId → Contract := (ext (ext (ext (ext (ext (ext (ext (ext (ext (ext M13 133 digC) 104 secC) 107 secC) 103 chainC) 106 chainC) 112 endedC) 64 oddC) 110 len64C) 59 cloneTC) 23 sizeGC)
theorem N1_sound : SoundG Try.prog N1 := (ext_sound (ext_sound (ext_sound (ext_sound (ext_sound (ext_sound (ext_sound (ext_sound (ext_sound (ext_sound M13_sound dig_sound) (sec_sound M13_sound rfl rfl)) (refSec_sound M13_sound rfl rfl)) (chain_sound M13_sound rfl)) (refChain_sound M13_sound rfl)) (ended_sound M13_sound rfl)) odd_sound) len64_sound) cloneT_sound) sizeG_sound)
noncomputable def N2 : FuncId → Contract := (ext (ext (ext (ext (ext (ext N1 14 sameKC) 20 keyC) 102 partC) 105 partC) 108 idxFC) 66 len64C)
theorem N2_sound : SoundG Try.prog N2 := (ext_sound (ext_sound (ext_sound (ext_sound (ext_sound (ext_sound N1_sound sameK_sound) (refKey_sound N1_sound)) (part_sound N1_sound rfl rfl rfl)) (refPar_sound N1_sound rfl)) (idxF_sound N1_sound rfl)) (len_sound N1_sound rfl))
noncomputable def N3 : FuncId → Contract := (ext (ext (ext (ext (ext N2 58 sgnC) 62 sgnC) 72 opnC) 65 conFC) 22 heightC)
theorem N3_sound : SoundG Try.prog N3 := (ext_sound (ext_sound (ext_sound (ext_sound (ext_sound N2_sound (sgn_sound N2_sound rfl rfl rfl)) (refSgn_sound N2_sound rfl rfl rfl)) (opn_sound N2_sound rfl rfl rfl)) (conF_sound N2_sound rfl)) (refHeight_sound N2_sound rfl))
noncomputable def N4 : FuncId → Contract := (ext (ext N3 19 keyC) 15 refSigC)
theorem N4_sound : SoundG Try.prog N4 := (ext_sound (ext_sound N3_sound (key_sound N3_sound rfl)) (refSig_sound N3_sound rfl rfl rfl rfl))
noncomputable def N5 : FuncId → Contract := (ext (ext (ext N4 18 rootKC) 21 heightC) 13 signC)
theorem N5_sound : SoundG Try.prog N5 := (ext_sound (ext_sound (ext_sound N4_sound (rootK_sound N4_sound rfl rfl)) (height_sound N4_sound rfl rfl)) (sign_sound N4_sound rfl rfl rfl rfl rfl))

set_option maxRecDepth 100000 in
theorem int_cellN {N n : Nat} {c : PC} (h : PTn Try.prog N n 3 [c]) : ∃ v : Int, c = .int .i64 v := by
  have u3 : Try.prog.underlying 3 = some (.int .i64) := by kernel_rfl
  cases n with
  | zero => exact h.elim
  | succ n =>
    simp only [PTn, u3] at h
    obtain ⟨v, hv, _⟩ := h
    cases hv
    exact ⟨v, rfl⟩
set_option maxRecDepth 100000 in
theorem str_cellN {N n : Nat} {c : PC} (h : PTn Try.prog N n 9 [c]) : ∃ s : List UInt8, c = .str s ∧ s.length ≤ N := by
  have u3 : Try.prog.underlying 9 = some .string := by kernel_rfl
  cases n with
  | zero => exact h.elim
  | succ n =>
    simp only [PTn, u3] at h
    obtain ⟨v, hv, hl⟩ := h
    cases hv
    exact ⟨v, rfl, hl⟩
set_option maxRecDepth 100000 in
theorem texts_cellN {N n : Nat} {c : PC} (hp : PTn Try.prog N n 22 [c]) : ∃ l : List (List UInt8), c = .sl (texts l) ∧ l.length ≤ N := by
  have u3 : Try.prog.underlying 22 = some (.slice 9) := by kernel_rfl
  cases n with
  | zero => exact hp.elim
  | succ n =>
    simp only [PTn, u3] at hp
    obtain ⟨rows, hv, hl, hr⟩ := hp
    cases hv
    have key : ∀ rows : List (List PC), (∀ r ∈ rows, PTn Try.prog N n 9 r) → ∃ l : List (List UInt8), rows = texts l := by
      intro rows
      induction rows with
      | nil => intro _; exact ⟨[], rfl⟩
      | cons r rows ih =>
        intro h
        obtain ⟨l, hl1⟩ := ih fun r hr => h r (by simp [hr])
        have h0 := h r (by simp)
        have u4 : Try.prog.underlying 9 = some .string := by kernel_rfl
        cases n with
        | zero => exact h0.elim
        | succ n =>
          simp only [PTn, u4] at h0
          obtain ⟨s, rfl, hs⟩ := h0
          exact ⟨s :: l, by rw [hl1]; rfl⟩
    obtain ⟨l, rfl⟩ := key rows hr
    exact ⟨l, rfl, by rw [texts_length] at hl; exact hl⟩
end Go.Proofs.Ytldehcnaepgamaa.AM
