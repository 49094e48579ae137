/-
  QQ: So3.
-/
import Derived.Test.YtldehcnaepgamaaQ6
import Derived.Test.YtldehcnaepgamaaQD
import Derived.ProofKit
import Derived.SizedLaws
import Derived.JoinedCond
set_option linter.unusedVariables false
set_option linter.unusedSimpArgs false
namespace Go.Proofs.Ytldehcnaepgamaa.AM
open Go

variable {Γ : FuncId → Contract}

theorem laid : laidOutB Try.prog = true := by kernel_rfl
theorem ownK : ownKnob Try.prog.godebug = none := by kernel_rfl
set_option maxRecDepth 100000 in
theorem bytes_ofN {N : Nat} {x : AV} (h : AVTn Try.prog N 25 x) : ∃ b : List UInt8, x = .c (.sl (bytes b)) ∧ b.length ≤ N := by
  obtain ⟨n, cs, hp, hx⟩ := h
  have u3 : Try.prog.underlying 25 = some (.slice 5) := by kernel_rfl
  have u4 : Try.prog.underlying 5 = some (.int .u8) := by kernel_rfl
  rw [u3] at hx
  obtain ⟨c, rfl, rfl⟩ := hx
  cases n with
  | zero => exact hp.elim
  | succ n =>
    simp only [PTn, u3] at hp
    obtain ⟨rows, hv, hl, hr⟩ := hp
    cases hv
    have key : ∀ rows : List (List PC), (∀ r ∈ rows, PTn Try.prog N n 5 r) → ∃ l : List UInt8, rows = bytes l := by
      intro rows
      induction rows with
      | nil => intro _; exact ⟨[], rfl⟩
      | cons r rows ih =>
        intro h
        obtain ⟨l, hl1⟩ := ih fun r hr => h r (by simp [hr])
        have h0 := h r (by simp)
        cases n with
        | zero => exact h0.elim
        | succ n =>
          simp only [PTn, u4] at h0
          obtain ⟨v, rfl, hw⟩ := h0
          simp [Lit.wf, IntKind.min, IntKind.max, IntKind.bits, IntKind.signed] at hw
          refine ⟨UInt8.ofNat v.toNat :: l, ?_⟩
          rw [hl1]
          show _ = [PC.int .u8 ((UInt8.ofNat v.toNat).toNat : Int)] :: bytes l
          rw [UInt8.toNat_ofNat_of_lt' (by show _ < 256; omega), show ((v.toNat : Nat) : Int) = v from by omega]
    obtain ⟨l, rfl⟩ := key rows hr
    exact ⟨l, rfl, by rw [bytes_length] at hl; exact hl⟩
set_option maxRecDepth 100000 in
theorem int_cellN {N n : Nat} {c : PC} (h : PTn Try.prog N n 3 [c]) : ∃ v : Int, c = .int .i64 v := by
  have u3 : Try.prog.underlying 3 = some (.int .i64) := by kernel_rfl
  cases n with
  | zero => exact h.elim
  | succ n =>
    simp only [PTn, u3] at h
    obtain ⟨v, hv, _⟩ := h
    cases hv
    exact ⟨v, rfl⟩
set_option maxRecDepth 100000 in
theorem str_cellN {N n : Nat} {c : PC} (h : PTn Try.prog N n 9 [c]) : ∃ s : List UInt8, c = .str s ∧ s.length ≤ N := by
  have u3 : Try.prog.underlying 9 = some .string := by kernel_rfl
  cases n with
  | zero => exact h.elim
  | succ n =>
    simp only [PTn, u3] at h
    obtain ⟨v, hv, hl⟩ := h
    cases hv
    exact ⟨v, rfl, hl⟩
set_option maxRecDepth 100000 in
theorem texts_cellN {N n : Nat} {c : PC} (hp : PTn Try.prog N n 22 [c]) : ∃ l : List (List UInt8), c = .sl (texts l) ∧ l.length ≤ N := by
  have u3 : Try.prog.underlying 22 = some (.slice 9) := by kernel_rfl
  cases n with
  | zero => exact hp.elim
  | succ n =>
    simp only [PTn, u3] at hp
    obtain ⟨rows, hv, hl, hr⟩ := hp
    cases hv
    have key : ∀ rows : List (List PC), (∀ r ∈ rows, PTn Try.prog N n 9 r) → ∃ l : List (List UInt8), rows = texts l := by
      intro rows
      induction rows with
      | nil => intro _; exact ⟨[], rfl⟩
      | cons r rows ih =>
        intro h
        obtain ⟨l, hl1⟩ := ih fun r hr => h r (by simp [hr])
        have h0 := h r (by simp)
        have u4 : Try.prog.underlying 9 = some .string := by kernel_rfl
        cases n with
        | zero => exact h0.elim
        | succ n =>
          simp only [PTn, u4] at h0
          obtain ⟨s, rfl, hs⟩ := h0
          exact ⟨s :: l, by rw [hl1]; rfl⟩
    obtain ⟨l, rfl⟩ := key rows hr
    exact ⟨l, rfl, by rw [texts_length] at hl; exact hl⟩
set_option maxRecDepth 100000 in
theorem key_ofN {N : Nat} {x : AV} (h : AVTn Try.prog N 24 x) : ∃ k : Ky, x = k.av ∧ k.leaves.length ≤ N ∧ k.seed.length ≤ N := by
  obtain ⟨n, cs, hp, hx⟩ := h
  obtain ⟨fs, f0, h1, h2, h3, h4, h5⟩ := tyField_run fd_24_0
  obtain ⟨fs', f1, k1, k2, k3, k4, k5⟩ := tyField_run fd_24_1
  obtain ⟨fs'', f2, i1, i2, i3, i4, i5⟩ := tyField_run fd_24_2
  rw [h1] at k1 i1
  cases k1
  cases i1
  rw [h1] at hx
  have hc3 : Try.prog.cellsOf 24 = 3 := by kernel_rfl
  have hc1 : Try.prog.cellsOf 3 = 1 := by kernel_rfl
  have hcs : Try.prog.cellsOf 9 = 1 := by kernel_rfl
  have hcl : Try.prog.cellsOf 22 = 1 := by kernel_rfl
  cases n with
  | zero => exact hp.elim
  | succ n =>
    simp only [PTn, h1, hc3] at hp
    obtain ⟨hl, hf⟩ := hp
    have q0 := hf f0 (List.mem_of_getElem? (i := 0) (by simpa using h2))
    have q1 := hf f1 (List.mem_of_getElem? (i := 1) (by simpa using k2))
    have q2 := hf f2 (List.mem_of_getElem? (i := 2) (by simpa using i2))
    rw [h3, h4, hcs] at q0
    rw [k3, k4, hcl] at q1
    rw [i3, i4, hc1] at q2
    match cs, hl with
    | [c0, c1, c2], _ =>
      obtain ⟨s, rfl, hs⟩ := str_cellN (c := c0) q0
      obtain ⟨l, rfl, hl⟩ := texts_cellN (c := c1) q1
      obtain ⟨x2, rfl⟩ := int_cellN (c := c2) q2
      exact ⟨⟨s, l, x2⟩, hx, hl, hs⟩

noncomputable def ZA1 : FuncId → Contract := (ext (ext (ext (ext (ext (ext (ext (ext (ext (ext (ext (ext (ext (ext (ext (ext (ext none0 165 rotC) 16 num05C) 17 textsC) 61 putC) 153 turnC) 151 kC) 20 keyC) 14 sameKC) 57 putC) 134 wordC) 150 wordsC) 147 kC) 146 hC) 64 oddC) 133 digC) 59 cloneTC) 166 growC)
theorem ZA1_sound : SoundG Try.prog ZA1 := (ext_sound (ext_sound (ext_sound (ext_sound (ext_sound (ext_sound (ext_sound (ext_sound (ext_sound (ext_sound (ext_sound (ext_sound (ext_sound (ext_sound (ext_sound (ext_sound (ext_sound none0_sound rot_sound) num05_sound) (texts_sound none0_sound)) (refPut_sound none0_sound)) turn_sound) refwords_sound) (refKey_sound none0_sound)) sameK_sound) put_sound) word_sound) words_sound) constants_sound) first_sound) odd_sound) dig_sound) cloneT_sound) grow_sound)
noncomputable def ZA2 : FuncId → Contract := (ext (ext (ext (ext ZA1 152 padC) 161 rightC) 162 concatC) 108 idxFC)
theorem ZA2_sound : SoundG Try.prog ZA2 := (ext_sound (ext_sound (ext_sound (ext_sound ZA1_sound (refPad_sound ZA1_sound rfl)) (right_sound ZA1_sound rfl)) (concat_sound ZA1_sound rfl)) (idxF_sound ZA1_sound rfl))
noncomputable def ZA3 : FuncId → Contract := (ext (ext (ext (ext ZA2 136 sumC) 154 concatC) 160 schedC) 65 conFC)
theorem ZA3_sound : SoundG Try.prog ZA3 := (ext_sound (ext_sound (ext_sound (ext_sound ZA2_sound (refSha_sound ZA2_sound rfl rfl rfl)) (join_sound ZA2_sound rfl)) (sched_sound ZA2_sound rfl rfl)) (conF_sound ZA2_sound rfl))
noncomputable def ZA4 : FuncId → Contract := (ext (ext (ext (ext (ext ZA3 149 blockC) 105 partC) 111 short1C) 148 padC) 19 keyC)
theorem ZA4_sound : SoundG Try.prog ZA4 := (ext_sound (ext_sound (ext_sound (ext_sound (ext_sound ZA3_sound (block_sound ZA3_sound rfl rfl)) (refPar_sound ZA3_sound rfl)) (refShort_sound ZA3_sound rfl)) (pad_sound ZA3_sound rfl rfl)) (key_sound ZA3_sound rfl))
noncomputable def ZA5 : FuncId → Contract := (ext (ext (ext (ext ZA4 106 chainC) 107 secC) 67 upC) 135 sumC)
theorem ZA5_sound : SoundG Try.prog ZA5 := (ext_sound (ext_sound (ext_sound (ext_sound ZA4_sound (refChain_sound ZA4_sound rfl)) (refSec_sound ZA4_sound rfl rfl)) (refUp_sound ZA4_sound rfl)) (sum_sound ZA4_sound rfl rfl rfl rfl rfl))
noncomputable def ZA6 : FuncId → Contract := (ext (ext (ext (ext ZA5 60 pathC) 62 sgnC) 137 longC) 102 partC)
theorem ZA6_sound : SoundG Try.prog ZA6 := (ext_sound (ext_sound (ext_sound (ext_sound ZA5_sound (refPath_sound ZA5_sound rfl)) (refSgn_sound ZA5_sound rfl rfl rfl)) (long_sound ZA5_sound rfl rfl)) (part_sound ZA5_sound rfl rfl rfl))
noncomputable def ZA7 : FuncId → Contract := (ext (ext ZA6 15 refSigC) 113 shortC)
theorem ZA7_sound : SoundG Try.prog ZA7 := (ext_sound (ext_sound ZA6_sound (refSig_sound ZA6_sound rfl rfl rfl rfl)) (short_sound ZA6_sound rfl))
noncomputable def ZA8 : FuncId → Contract := (ext (ext (ext ZA7 131 upC) 103 chainC) 104 secC)
theorem ZA8_sound : SoundG Try.prog ZA8 := (ext_sound (ext_sound (ext_sound ZA7_sound (up_sound ZA7_sound rfl)) (chain_sound ZA7_sound rfl)) (sec_sound ZA7_sound rfl rfl))
noncomputable def ZA9 : FuncId → Contract := (ext (ext ZA8 56 pathC) 58 sgnC)
theorem ZA9_sound : SoundG Try.prog ZA9 := (ext_sound (ext_sound ZA8_sound (path_sound ZA8_sound rfl (up_sound ZA7_sound rfl))) (sgn_sound ZA8_sound rfl rfl rfl))
noncomputable def ZB1 : FuncId → Contract := (ext (ext (ext (ext (ext (ext (ext (ext (ext (ext none0 165 rotC) 57 putC) 134 wordC) 150 wordsC) 147 kC) 146 hC) 64 oddC) 133 digC) 59 cloneTC) 166 growC)
theorem ZB1_sound : SoundG Try.prog ZB1 := (ext_sound (ext_sound (ext_sound (ext_sound (ext_sound (ext_sound (ext_sound (ext_sound (ext_sound (ext_sound none0_sound rot_sound) put_sound) word_sound) words_sound) constants_sound) first_sound) odd_sound) dig_sound) cloneT_sound) grow_sound)
noncomputable def ZB2 : FuncId → Contract := (ext (ext (ext ZB1 161 rightC) 162 concatC) 108 idxFC)
theorem ZB2_sound : SoundG Try.prog ZB2 := (ext_sound (ext_sound (ext_sound ZB1_sound (right_sound ZB1_sound rfl)) (concat_sound ZB1_sound rfl)) (idxF_sound ZB1_sound rfl))
noncomputable def ZB3 : FuncId → Contract := (ext (ext (ext ZB2 154 concatC) 160 schedC) 65 conFC)
theorem ZB3_sound : SoundG Try.prog ZB3 := (ext_sound (ext_sound (ext_sound ZB2_sound (join_sound ZB2_sound rfl)) (sched_sound ZB2_sound rfl rfl)) (conF_sound ZB2_sound rfl))
noncomputable def ZB4 : FuncId → Contract := (ext (ext (ext ZB3 149 blockC) 148 padC) 19 keyC)
theorem ZB4_sound : SoundG Try.prog ZB4 := (ext_sound (ext_sound (ext_sound ZB3_sound (block_sound ZB3_sound rfl rfl)) (pad_sound ZB3_sound rfl rfl)) (key_sound ZB3_sound rfl))
noncomputable def ZB5 : FuncId → Contract := (ext ZB4 135 sumC)
theorem ZB5_sound : SoundG Try.prog ZB5 := (ext_sound ZB4_sound (sum_sound ZB4_sound rfl rfl rfl rfl rfl))
noncomputable def ZB6 : FuncId → Contract := (ext (ext ZB5 137 longC) 102 partC)
theorem ZB6_sound : SoundG Try.prog ZB6 := (ext_sound (ext_sound ZB5_sound (long_sound ZB5_sound rfl rfl)) (part_sound ZB5_sound rfl rfl rfl))
noncomputable def ZB7 : FuncId → Contract := (ext ZB6 113 shortC)
theorem ZB7_sound : SoundG Try.prog ZB7 := (ext_sound ZB6_sound (short_sound ZB6_sound rfl))
noncomputable def ZB8 : FuncId → Contract := (ext (ext (ext ZB7 131 upC) 103 chainC) 104 secC)
theorem ZB8_sound : SoundG Try.prog ZB8 := (ext_sound (ext_sound (ext_sound ZB7_sound (up_sound ZB7_sound rfl)) (chain_sound ZB7_sound rfl)) (sec_sound ZB7_sound rfl rfl))
noncomputable def ZB9 : FuncId → Contract := (ext (ext ZB8 56 pathRC) 58 sgnC)
theorem ZB9_sound : SoundG Try.prog ZB9 := (ext_sound (ext_sound ZB8_sound (pathR_sound ZB8_sound rfl (up_sound ZB7_sound rfl))) (sgn_sound ZB8_sound rfl rfl rfl))
noncomputable def ZC1 : FuncId → Contract := (ext none0 23 sizeC)
theorem ZC1_sound : SoundG Try.prog ZC1 := (ext_sound none0_sound size_sound)
noncomputable def ZE : FuncId → Contract := (ext (ext (ext (ext (ext (ext none0 12 alive5C) 13 signA) 14 sameKC) 15 refSigC) 16 num05C) 17 textsC)
theorem ZE_sound : SoundG Try.prog ZE := (ext_sound (ext_sound (ext_sound (ext_sound (ext_sound (ext_sound none0_sound (alive5_sound ZC1_sound rfl)) (orC_sound (sign_sound ZA9_sound rfl rfl rfl rfl rfl) (signM_sound ZB9_sound rfl rfl rfl rfl rfl))) sameK_sound) (refSig_sound ZA6_sound rfl rfl rfl rfl)) num05_sound) (texts_sound none0_sound))
set_option maxRecDepth 100000 in
theorem signerOwn_lifted (os : Os) (started : os.Started) (H : Type) (enc : TypeId × Value → H) (F : Stop.Interp) :
    ReturnsInHanded {} Try.checked os 3 .any ((Rows.OpenSpec.upto Rows.signerOwnSpec).pre6 enc Try.prog Try.f3 Rows.signerOwnUptoRow.domain false) (((Rows.OpenSpec.upto Rows.signerOwnSpec).at F).post enc Try.prog Try.f3 false true false false) := by
  refine returnsInHanded_of_cond (C := Try.checked) (k := Rows.uptoSmall) rfl ownK started (by kernel_rfl) Try.func3
    (OpenSpec.witness (enc := enc) (C := Try.checked) (k := Rows.uptoSmall) rfl false ⟨#[], #[.agg #[.string ⟨#[]⟩, .slice none 0 0, .int .i64 0], .slice none 0 0], []⟩ 8 (by kernel_rfl) (by kernel_rfl) (by kernel_rfl) (x := ([.agg [.lit (.string []), .nil, .lit (.int .i64 0)], .nil], [], [])) (by kernel_rfl) (by kernel_rfl) (by kernel_rfl)) ?_
  intro W base args ds gs before hval hW hcnd hkk _
  refine law_doneN (N := 1048576) laid (so_sound ZE_sound rfl rfl rfl rfl rfl rfl) rfl (ts := [24, 25]) (by kernel_rfl) (tb := 4) (by kernel_rfl) (by kernel_rfl) ?_ ?_ ?_ ?_ hval hW (.inr (bulk_le hkk))
  · intro t ht; simp only [List.mem_cons, List.not_mem_nil, or_false] at ht; rcases ht with rfl | rfl <;> kernel_rfl
  · intro t ht; simp only [List.mem_cons, List.not_mem_nil, or_false] at ht; rcases ht with rfl | rfl <;> exact ⟨by kernel_rfl, of_decide_eq_true (by kernel_rfl)⟩
  · intro ds hd
    match ds, hd with
    | [a, b], _ => rfl
  · intro xs hxs
    match xs, hxs with
    | [x, y], h =>
      obtain ⟨h1, h2, _⟩ := h
      obtain ⟨k, rfl, l1, l2⟩ := key_ofN h1
      obtain ⟨b, rfl, b1⟩ := bytes_ofN h2
      exact mkC_at (α := Sk) ⟨k, b⟩ ⟨l1, b1⟩ (fun _ _ _ _ => rfl)
    | [], h => exact h.elim
    | [_], h => exact h.2.elim
    | _ :: _ :: _ :: _, h => exact h.2.2.elim


end Go.Proofs.Ytldehcnaepgamaa.AM

namespace Go.Proofs.Ytldehcnaepgamaa
open Go

theorem signerOwn_over : Rows.signerOwnUptoRow.holds Try.pinned (Rows.OpenSpec.upto Rows.signerOwnSpec) :=
  OpenClaim.holds_of_cond 3 Try.f3 rfl rfl rfl rfl rfl rfl rfl ⟨rfl, rfl, rfl, rfl, rfl⟩ rfl rfl rfl rfl rfl (by kernel_rfl) Try.func3 (by kernel_rfl)
    (of_decide_eq_true (by kernel_rfl)) (by unfold Func.isWrapper; first | (rw [if_pos (by decide +kernel)]; kernel_rfl) | (rw [if_neg (by decide +kernel)]; exact ⟨rfl, rfl⟩))
    (fun os started H enc _ F => by rw [OpenClaim.pre_of_none' rfl]; exact AM.signerOwn_lifted os started H enc F)

/-- The row. -/
theorem signerOwn_holds : Rows.SignerOwnUptoSaid := signerOwn_over
#print axioms signerOwn_holds
end Go.Proofs.Ytldehcnaepgamaa
