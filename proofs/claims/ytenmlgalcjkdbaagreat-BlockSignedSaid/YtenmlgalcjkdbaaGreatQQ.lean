/-
  QQ: Bs4.
-/
import Derived.Test.YtenmlgalcjkdbaaGreatQ9
import Derived.Test.YtenmlgalcjkdbaaGreatQB
import Derived.Test.YtenmlgalcjkdbaaGreatQN
set_option linter.unusedVariables false
set_option linter.unusedSimpArgs false
namespace Go.Proofs.YtenmlgalcjkdbaaGreat.AM
open Go

variable {Γ : FuncId → Contract}

noncomputable def BS1 : FuncId → Contract := (ext (ext (ext (ext (ext (ext (ext (ext (ext (ext (ext (ext (ext (ext (ext (ext (ext (ext (ext (ext (ext (ext (ext (ext (ext (ext (ext (ext (ext (ext (ext (ext (ext none0 63 errC) 112 readyC) 115 stopC) 104 faultC) 218 rotC) 41 ldC) 159 putC) 109 turnC) 107 kC) 110 rDoneC) 9 genC) 60 smTC) 75 smVC) 10 txCkC) 113 getC) 95 putC) 202 wordC) 157 wordsC) 13 newC) 154 kC) 153 hC) 98 oddC) 145 clientC) 206 abC) 43 replC) 207 tkC) 201 digC) 54 cloneC) 47 clnTC) 48 clnVC) 97 cloneTC) 205 growC) 132 repC)
theorem BS1_sound : SoundG Tryz.prog BS1 := (ext_sound (ext_sound (ext_sound (ext_sound (ext_sound (ext_sound (ext_sound (ext_sound (ext_sound (ext_sound (ext_sound (ext_sound (ext_sound (ext_sound (ext_sound (ext_sound (ext_sound (ext_sound (ext_sound (ext_sound (ext_sound (ext_sound (ext_sound (ext_sound (ext_sound (ext_sound (ext_sound (ext_sound (ext_sound (ext_sound (ext_sound (ext_sound (ext_sound none0_sound err_sound) ready_sound) stop_sound) fault_sound) rot_sound) ld_sound) (refPut_sound none0_sound)) turn_sound) refwords_sound) rDone_sound) refGen_sound) smT_sound) smV_sound) refTxCk_sound) get_sound) put_sound) word_sound) words_sound) new_sound) constants_sound) first_sound) odd_sound) client_sound) ab_sound) repl_sound) tk_sound) dig_sound) clone_sound) clnT_sound) clnV_sound) cloneT_sound) grow_sound) rep_sound)
noncomputable def BS2 : FuncId → Contract := (ext (ext (ext (ext (ext (ext (ext (ext (ext (ext (ext (ext (ext (ext (ext (ext BS1 114 takeC) 15 doneC) 101 numC) 53 textC) 81 cfirstC) 108 padC) 57 bkCkC) 160 rNumC) 28 scRC) 161 rTextC) 20 openC) 204 rightC) 93 txCkC) 170 voCkC) 158 concatC) 148 idxFC)
theorem BS2_sound : SoundG Tryz.prog BS2 := (ext_sound (ext_sound (ext_sound (ext_sound (ext_sound (ext_sound (ext_sound (ext_sound (ext_sound (ext_sound (ext_sound (ext_sound (ext_sound (ext_sound (ext_sound (ext_sound BS1_sound (take_sound BS1_sound rfl)) (done_sound BS1_sound rfl)) (num_sound BS1_sound rfl rfl)) (text_sound BS1_sound rfl rfl)) (cfirst_sound BS1_sound rfl)) (refPad_sound BS1_sound rfl)) (refBkCk_sound BS1_sound rfl)) (rNum_sound BS1_sound rfl)) (scR_sound BS1_sound rfl)) (rText_sound BS1_sound rfl)) (open_sound BS1_sound rfl)) (right_sound BS1_sound rfl)) (txCk_sound BS1_sound rfl)) (voCk_sound BS1_sound rfl rfl rfl)) (concat_sound BS1_sound rfl)) (idxF_sound BS1_sound rfl))
noncomputable def BS3 : FuncId → Contract := (ext (ext (ext (ext (ext (ext (ext (ext (ext (ext (ext (ext BS2 116 rdNumC) 61 rdTextC) 92 oddTC) 42 genC) 58 sumC) 18 sbRC) 198 rTxFC) 106 concatC) 203 schedC) 151 txtC) 152 voTxC) 99 conFC)
theorem BS3_sound : SoundG Tryz.prog BS3 := (ext_sound (ext_sound (ext_sound (ext_sound (ext_sound (ext_sound (ext_sound (ext_sound (ext_sound (ext_sound (ext_sound (ext_sound BS2_sound (rdNum_sound BS2_sound rfl rfl rfl rfl)) (rdText_sound BS2_sound rfl rfl rfl rfl)) (oddT_sound BS2_sound rfl)) (gen_sound BS2_sound rfl)) (refSha_sound BS2_sound rfl rfl rfl)) (sbR_sound BS2_sound rfl rfl)) (rTxF_sound BS2_sound rfl rfl)) (join_sound BS2_sound rfl)) (sched_sound BS2_sound rfl rfl)) (txt_sound BS2_sound rfl rfl)) (voTx_sound BS2_sound rfl rfl)) (conF_sound BS2_sound rfl))
noncomputable def BS4 : FuncId → Contract := (ext (ext (ext (ext (ext (ext (ext (ext (ext (ext BS3 156 blockC) 7 alive10C) 162 rTxPC) 155 padC) 49 keyC) 102 txPutC) 117 txRdC) 103 voPutC) 163 voRdC) 122 ckTIC)
theorem BS4_sound : SoundG Tryz.prog BS4 := (ext_sound (ext_sound (ext_sound (ext_sound (ext_sound (ext_sound (ext_sound (ext_sound (ext_sound (ext_sound BS3_sound (block_sound BS3_sound rfl rfl)) (alive10_sound BS3_sound rfl rfl)) (rTxP_sound BS3_sound rfl rfl)) (pad_sound BS3_sound rfl rfl)) (key_sound BS3_sound rfl)) (txPut_sound BS3_sound rfl rfl)) (txRd_sound BS3_sound rfl rfl rfl rfl)) (voPut_sound BS3_sound rfl rfl)) (voRd_sound BS3_sound rfl rfl rfl rfl)) (ckTI_sound BS3_sound rfl))
noncomputable def BS5 : FuncId → Contract := (ext (ext (ext (ext (ext (ext BS4 51 bkTxC) 52 ctPutC) 118 ctRdC) 111 rBkFC) 105 sumC) 66 ckTFC)
theorem BS5_sound : SoundG Tryz.prog BS5 := (ext_sound (ext_sound (ext_sound (ext_sound (ext_sound (ext_sound BS4_sound (bkTx_sound BS4_sound rfl rfl rfl)) (ctPut_sound BS4_sound rfl rfl rfl)) (ctRd_sound BS4_sound rfl rfl rfl rfl)) (rBkF_sound BS4_sound rfl rfl rfl)) (sum_sound BS4_sound rfl rfl rfl rfl rfl)) (ckTF_sound BS4_sound rfl))
noncomputable def BS6 : FuncId → Contract := (ext (ext (ext (ext (ext (ext BS5 45 bkCkC) 14 bkPutC) 62 fldsC) 59 bkTC) 55 longC) 147 partC)
theorem BS6_sound : SoundG Tryz.prog BS6 := (ext_sound (ext_sound (ext_sound (ext_sound (ext_sound (ext_sound BS5_sound (bkCk_sound BS5_sound rfl)) (bkPut_sound BS5_sound rfl rfl rfl)) (flds_sound BS5_sound rfl rfl rfl rfl)) (rBkT_sound BS5_sound rfl rfl rfl)) (long_sound BS5_sound rfl rfl)) (part_sound BS5_sound rfl rfl rfl))
noncomputable def BS7 : FuncId → Contract := (ext (ext (ext (ext BS6 19 bkRdC) 56 bkTC) 17 bkNC) 199 shortC)
theorem BS7_sound : SoundG Tryz.prog BS7 := (ext_sound (ext_sound (ext_sound (ext_sound BS6_sound (bkRd_sound BS6_sound rfl rfl rfl rfl)) (bkT_sound BS6_sound rfl rfl rfl rfl)) (rBkN_sound BS6_sound rfl rfl rfl)) (short_sound BS6_sound rfl))
noncomputable def BS8 : FuncId → Contract := (ext (ext (ext (ext (ext BS7 16 bkNC) 150 upC) 142 chainC) 143 secC) 144 endedC)
theorem BS8_sound : SoundG Tryz.prog BS8 := (ext_sound (ext_sound (ext_sound (ext_sound (ext_sound BS7_sound (bkN_sound BS7_sound rfl rfl rfl)) (up_sound BS7_sound rfl)) (chain_sound BS7_sound rfl)) (sec_sound BS7_sound rfl rfl)) (ended_sound BS7_sound rfl))
noncomputable def BS9 : FuncId → Contract := (ext (ext (ext (ext BS8 94 pathC) 50 rootC) 91 leafC) 96 sgnC)
theorem BS9_sound : SoundG Tryz.prog BS9 := (ext_sound (ext_sound (ext_sound (ext_sound BS8_sound (path_sound BS8_sound rfl (up_sound BS7_sound rfl))) (root_sound BS8_sound rfl (up_sound BS7_sound rfl))) (leaf_sound BS8_sound rfl rfl rfl)) (sgn_sound BS8_sound rfl rfl rfl))
noncomputable def BS10 : FuncId → Contract := (ext (ext (ext BS9 44 newGC) 12 rootKC) 46 signC)
theorem BS10_sound : SoundG Tryz.prog BS10 := (ext_sound (ext_sound (ext_sound BS9_sound (newG_sound BS9_sound rfl)) (rootK_sound BS9_sound rfl rfl)) (sign_sound BS9_sound rfl rfl rfl rfl rfl))
noncomputable def BS11 : FuncId → Contract := (ext (ext BS10 11 bkSnC) 8 voKeyC)
theorem BS11_sound : SoundG Tryz.prog BS11 := (ext_sound (ext_sound BS10_sound (bkSn_sound BS10_sound rfl rfl rfl rfl rfl)) (voKey_sound BS10_sound rfl rfl))
noncomputable def BT1 : FuncId → Contract := (ext (ext (ext (ext (ext (ext (ext (ext (ext BS11 80 cmkC) 120 abtC) 166 climbC) 164 sizeGC) 165 chkC) 123 txTC) 169 vAbC) 171 voTC) 167 opnC)
theorem BT1_sound : SoundG Tryz.prog BT1 := (ext_sound (ext_sound (ext_sound (ext_sound (ext_sound (ext_sound (ext_sound (ext_sound (ext_sound BS11_sound cmk_sound) abt_sound) (climb_sound BS11_sound rfl)) sizeG_sound) chk_sound) (txT_sound BS11_sound rfl rfl rfl rfl)) vAb_sound) (voT_sound BS11_sound rfl rfl rfl rfl)) (opn_sound BS11_sound rfl rfl rfl))
noncomputable def BT2 : FuncId → Contract := (ext (ext BT1 168 abtIC) 119 sverC)
theorem BT2_sound : SoundG Tryz.prog BT2 := (ext_sound (ext_sound BT1_sound (abtI_sound BT1_sound rfl)) (sver_sound BT1_sound rfl rfl rfl rfl rfl))
noncomputable def BT3 : FuncId → Contract := (ext (ext (ext BT2 64 sgdC) 68 txVaC) 121 voVaC)
theorem BT3_sound : SoundG Tryz.prog BT3 := (ext_sound (ext_sound (ext_sound BT2_sound (sgd_sound BT2_sound rfl rfl rfl)) (txVa_sound BT2_sound rfl rfl rfl)) (voVa_sound BT2_sound rfl rfl rfl))
noncomputable def BT4 : FuncId → Contract := (ext (ext BT3 67 vaTC) 65 ceckC)
theorem BT4_sound : SoundG Tryz.prog BT4 := (ext_sound (ext_sound BT3_sound (vaT_sound BT3_sound rfl)) (ceck_sound BT3_sound rfl rfl rfl rfl rfl))
noncomputable def BT5 : FuncId → Contract := (ext BT4 122 vaTIC)
theorem BT5_sound : SoundG Tryz.prog BT5 := (ext_sound BT4_sound (vaTI_sound BT4_sound rfl))
noncomputable def BT6 : FuncId → Contract := (ext BT5 66 vaTFC)
theorem BT6_sound : SoundG Tryz.prog BT6 := (ext_sound BT5_sound (vaTF_sound BT5_sound rfl))
noncomputable def BT7 : FuncId → Contract := (ext BT6 21 bVaC)
theorem BT7_sound : SoundG Tryz.prog BT7 := (ext_sound BT6_sound (bVa_sound BT6_sound rfl rfl rfl rfl))
set_option maxRecDepth 100000 in
theorem txs_ofN {N : Nat} {x : AV} (h : AVTn Tryz.prog N 22 x) : ∃ l : List Txn, x = .c (.sl (trows l)) ∧ l.length ≤ N := by
  obtain ⟨n, cs, hp, hx⟩ := h
  have u3 : Tryz.prog.underlying 22 = some (.slice 36) := by kernel_rfl
  rw [u3] at hx
  obtain ⟨c, rfl, rfl⟩ := hx
  obtain ⟨l, rfl, hl, _⟩ := txs_cellN hp
  exact ⟨l, rfl, hl⟩

set_option maxRecDepth 100000 in
theorem blockSigned_lifted (os : Os) (started : os.Started) (H : Type) (enc : TypeId × Value → H) :
    ReturnsInHanded {} Tryz.checked os 3 .any (Rows.blockSignedSpec.pre6 enc Tryz.prog Tryz.f3 Rows.blockSignedRow.domain false) (Rows.blockSignedSpec.post enc Tryz.prog Tryz.f3 false true false false) := by
  refine returnsInHanded_of_change_sized (C := Tryz.checked) ownK started (by kernel_rfl) Tryz.func3
    (ChangeSpec.witness6 (enc := enc) (C := Tryz.checked) false ⟨#[], #[.int .i64 0, .slice none 0 0, .int .i64 0], []⟩ 8 (by kernel_rfl) (by kernel_rfl) (by kernel_rfl) (by kernel_rfl)) ?_
  intro W base args ds gs before hval hW hcnd hsz _
  refine law_doneN (N := maxLen) laid (bs_sound BT7_sound rfl rfl rfl rfl rfl rfl rfl rfl rfl rfl rfl rfl rfl rfl rfl) rfl (ts := [3, 22, 3]) (by kernel_rfl) (tb := 4) (by kernel_rfl) (by kernel_rfl) ?_ ?_ ?_ ?_ hval hW (.inl (Nat.le_refl _))
  · intro t ht; simp only [List.mem_cons, List.not_mem_nil, or_false] at ht; rcases ht with rfl | rfl | rfl <;> kernel_rfl
  · intro t ht; simp only [List.mem_cons, List.not_mem_nil, or_false] at ht; rcases ht with rfl | rfl | rfl <;> exact ⟨by kernel_rfl, of_decide_eq_true (by kernel_rfl)⟩
  · intro ds hd
    match ds, hd with
    | [a, b, c], _ => rfl
  · intro xs hxs
    match xs, hxs with
    | [x, y, z], h =>
      obtain ⟨h1, h2, h3, _⟩ := h
      obtain ⟨v, rfl, _⟩ := int_ofN h1
      obtain ⟨l, rfl, l1⟩ := txs_ofN h2
      obtain ⟨q, rfl, _⟩ := int_ofN h3
      exact mkC_at (α := Int × List Txn × Int) (v, l, q) (Nat.le_trans l1 (by decide)) (fun _ _ _ _ => rfl)
    | [], h => exact h.elim
    | [_], h => exact h.2.elim
    | [_, _], h => exact h.2.2.elim
    | _ :: _ :: _ :: _ :: _, h => exact h.2.2.2.elim


end Go.Proofs.YtenmlgalcjkdbaaGreat.AM

namespace Go.Proofs.YtenmlgalcjkdbaaGreat
open Go

theorem blockSigned_over : Rows.blockSignedRow.holds Tryz.pinned (OpenSpec.ofChange Rows.blockSignedSpec) :=
  OpenClaim.holds_of_wide 3 Tryz.f3 rfl rfl rfl rfl rfl rfl rfl ⟨rfl, rfl, rfl, rfl, rfl⟩ rfl rfl rfl rfl rfl (by kernel_rfl) Tryz.func3 (by kernel_rfl)
    (of_decide_eq_true (by kernel_rfl)) (by unfold Func.isWrapper; first | (rw [if_pos (by decide +kernel)]; kernel_rfl) | (rw [if_neg (by decide +kernel)]; exact ⟨rfl, rfl⟩))
    (fun os started H enc _ => AM.blockSigned_lifted os started H enc)

/-- The row. -/
theorem blockSigned_holds : Rows.BlockSignedSaid := blockSigned_over
#print axioms blockSigned_holds
end Go.Proofs.YtenmlgalcjkdbaaGreat
