/-
  QQ: Tw5.
-/
import Derived.Test.YtenmlgalcjkdbaaQB
import Derived.Test.YtenmlgalcjkdbaaQC
import Derived.Test.YtenmlgalcjkdbaaQE
import Derived.ProofKit
import Derived.SizedLaws
import Derived.JoinedCond
set_option linter.unusedVariables false
set_option linter.unusedSimpArgs false
namespace Go.Proofs.Ytenmlgalcjkdbaa.AM
open Go

variable {Γ : FuncId → Contract}

noncomputable def WA1 : FuncId → Contract := (ext (ext (ext (ext (ext (ext (ext (ext (ext (ext (ext (ext (ext (ext (ext (ext (ext (ext (ext (ext (ext (ext (ext (ext (ext (ext (ext none0 122 faultC) 54 parC) 23 lenTC) 57 atTC) 132 rotC) 107 putC) 87 turnC) 85 kC) 88 rDoneC) 27 genC) 60 sTxC) 90 sVoC) 48 txCkC) 118 putC) 131 wordC) 101 wordsC) 77 newC) 98 kC) 97 hC) 19 newTC) 80 fitsC) 95 clientC) 106 cloneC) 82 clnTC) 83 clnVC) 121 growC) 94 repC)
theorem WA1_sound : SoundG Try.prog WA1 := (ext_sound (ext_sound (ext_sound (ext_sound (ext_sound (ext_sound (ext_sound (ext_sound (ext_sound (ext_sound (ext_sound (ext_sound (ext_sound (ext_sound (ext_sound (ext_sound (ext_sound (ext_sound (ext_sound (ext_sound (ext_sound (ext_sound (ext_sound (ext_sound (ext_sound (ext_sound (ext_sound none0_sound fault_sound) par_sound) lenT_sound) atT_sound) rot_sound) (refPut_sound none0_sound)) turn_sound) refwords_sound) rDone_sound) refGen_sound) sTx_sound) sVo_sound) refTxCk_sound) put_sound) word_sound) words_sound) new_sound) constants_sound) first_sound) newT_sound) fits_sound) client_sound) clone_sound) clnT_sound) clnV_sound) grow_sound) rep_sound)
noncomputable def WA2 : FuncId → Contract := (ext (ext (ext (ext (ext (ext (ext (ext (ext (ext (ext (ext (ext (ext WA1 79 doneC) 104 numC) 103 textC) 71 cfirstC) 86 padC) 12 bkCkC) 108 rNumC) 61 sCtC) 109 rTextC) 120 rightC) 55 cpyC) 73 txCkC) 102 concatC) 81 parIC)
theorem WA2_sound : SoundG Try.prog WA2 := (ext_sound (ext_sound (ext_sound (ext_sound (ext_sound (ext_sound (ext_sound (ext_sound (ext_sound (ext_sound (ext_sound (ext_sound (ext_sound (ext_sound WA1_sound (done_sound WA1_sound rfl)) (num_sound WA1_sound rfl rfl)) (text_sound WA1_sound rfl rfl)) (cfirst_sound WA1_sound rfl)) (refPad_sound WA1_sound rfl)) (refBkCk_sound WA1_sound rfl)) (rNum_sound WA1_sound rfl)) (sCt_sound WA1_sound rfl)) (rText_sound WA1_sound rfl)) (right_sound WA1_sound rfl)) (cpy_sound WA1_sound rfl rfl)) (txCk_sound WA1_sound rfl)) (concat_sound WA1_sound rfl)) (parI_sound WA1_sound rfl))
noncomputable def WA3 : FuncId → Contract := (ext (ext (ext (ext (ext (ext (ext (ext (ext (ext WA2 24 getTC) 72 oddTC) 47 genC) 58 sumC) 26 sBkC) 124 rTxFC) 76 concatC) 119 schedC) 123 txtC) 53 parFC)
theorem WA3_sound : SoundG Try.prog WA3 := (ext_sound (ext_sound (ext_sound (ext_sound (ext_sound (ext_sound (ext_sound (ext_sound (ext_sound (ext_sound WA2_sound (getT_sound WA2_sound rfl rfl)) (oddT_sound WA2_sound rfl)) (gen_sound WA2_sound rfl)) (refSha_sound WA2_sound rfl rfl rfl)) (sBk_sound WA2_sound rfl rfl)) (rTxF_sound WA2_sound rfl rfl)) (join_sound WA2_sound rfl)) (sched_sound WA2_sound rfl rfl)) (txt_sound WA2_sound rfl rfl)) (parF_sound WA2_sound rfl))
noncomputable def WA4 : FuncId → Contract := (ext (ext (ext (ext (ext (ext WA3 52 walkC) 100 blockC) 110 rTxPC) 99 padC) 105 txPutC) 96 ckTIC)
theorem WA4_sound : SoundG Try.prog WA4 := (ext_sound (ext_sound (ext_sound (ext_sound (ext_sound (ext_sound WA3_sound (walk_sound WA3_sound rfl rfl rfl rfl)) (block_sound WA3_sound rfl rfl)) (rTxP_sound WA3_sound rfl rfl)) (pad_sound WA3_sound rfl rfl)) (txPut_sound WA3_sound rfl rfl)) (ckTI_sound WA3_sound rfl))
noncomputable def WA5 : FuncId → Contract := (ext (ext (ext (ext (ext WA4 17 exdC) 78 bkTxC) 89 rBkFC) 75 sumC) 74 ckTFC)
theorem WA5_sound : SoundG Try.prog WA5 := (ext_sound (ext_sound (ext_sound (ext_sound (ext_sound WA4_sound (exd_sound WA4_sound rfl rfl rfl)) (bkTx_sound WA4_sound rfl rfl rfl)) (rBkF_sound WA4_sound rfl rfl rfl)) (sum_sound WA4_sound rfl rfl rfl rfl rfl)) (ckTF_sound WA4_sound rfl))
noncomputable def WA6 : FuncId → Contract := (ext (ext (ext (ext WA5 49 bkCkC) 14 alive14C) 59 bkTC) 50 longC)
theorem WA6_sound : SoundG Try.prog WA6 := (ext_sound (ext_sound (ext_sound (ext_sound WA5_sound (bkCk_sound WA5_sound rfl)) (alive14_sound WA5_sound rfl rfl rfl)) (rBkT_sound WA5_sound rfl rfl rfl)) (long_sound WA5_sound rfl rfl))
noncomputable def WA7 : FuncId → Contract := (ext (ext WA6 51 bkTC) 25 bkNC)
theorem WA7_sound : SoundG Try.prog WA7 := (ext_sound (ext_sound WA6_sound (bkT_sound WA6_sound rfl rfl rfl rfl)) (rBkN_sound WA6_sound rfl rfl rfl))
noncomputable def WA8 : FuncId → Contract := (ext WA7 13 bkNC)
theorem WA8_sound : SoundG Try.prog WA8 := (ext_sound WA7_sound (bkN_sound WA7_sound rfl rfl rfl))
noncomputable def WB1 : FuncId → Contract := (ext (ext (ext (ext (ext (ext (ext (ext (ext (ext (ext (ext (ext none0 122 faultC) 132 rotC) 118 putC) 131 wordC) 101 wordsC) 77 newC) 98 kC) 97 hC) 95 clientC) 106 cloneC) 82 clnTM) 83 clnVC) 121 growC)
theorem WB1_sound : SoundG Try.prog WB1 := (ext_sound (ext_sound (ext_sound (ext_sound (ext_sound (ext_sound (ext_sound (ext_sound (ext_sound (ext_sound (ext_sound (ext_sound (ext_sound none0_sound fault_sound) rot_sound) put_sound) word_sound) words_sound) new_sound) constants_sound) first_sound) client_sound) clone_sound) clnTM_sound) clnV_sound) grow_sound)
noncomputable def WB2 : FuncId → Contract := (ext (ext (ext (ext (ext (ext (ext WB1 79 doneC) 104 numC) 103 textC) 120 rightC) 55 cpyM) 73 txCkC) 102 concatC)
theorem WB2_sound : SoundG Try.prog WB2 := (ext_sound (ext_sound (ext_sound (ext_sound (ext_sound (ext_sound (ext_sound WB1_sound (done_sound WB1_sound rfl)) (num_sound WB1_sound rfl rfl)) (text_sound WB1_sound rfl rfl)) (right_sound WB1_sound rfl)) (cpyM_sound WB1_sound rfl rfl)) (txCk_sound WB1_sound rfl)) (concat_sound WB1_sound rfl))
noncomputable def WB3 : FuncId → Contract := (ext (ext (ext (ext WB2 72 oddTC) 76 concatC) 119 schedC) 123 txtC)
theorem WB3_sound : SoundG Try.prog WB3 := (ext_sound (ext_sound (ext_sound (ext_sound WB2_sound (oddT_sound WB2_sound rfl)) (join_sound WB2_sound rfl)) (sched_sound WB2_sound rfl rfl)) (txt_sound WB2_sound rfl rfl))
noncomputable def WB4 : FuncId → Contract := (ext (ext (ext (ext WB3 100 blockC) 99 padC) 105 txPutC) 96 ckTIC)
theorem WB4_sound : SoundG Try.prog WB4 := (ext_sound (ext_sound (ext_sound (ext_sound WB3_sound (block_sound WB3_sound rfl rfl)) (pad_sound WB3_sound rfl rfl)) (txPut_sound WB3_sound rfl rfl)) (ckTI_sound WB3_sound rfl))
noncomputable def WB5 : FuncId → Contract := (ext (ext (ext WB4 78 bkTxC) 75 sumC) 74 ckTFC)
theorem WB5_sound : SoundG Try.prog WB5 := (ext_sound (ext_sound (ext_sound WB4_sound (bkTx_sound WB4_sound rfl rfl rfl)) (sum_sound WB4_sound rfl rfl rfl rfl rfl)) (ckTF_sound WB4_sound rfl))
noncomputable def WB6 : FuncId → Contract := (ext (ext WB5 49 bkCkC) 50 longC)
theorem WB6_sound : SoundG Try.prog WB6 := (ext_sound (ext_sound WB5_sound (bkCk_sound WB5_sound rfl)) (long_sound WB5_sound rfl rfl))
noncomputable def WB7 : FuncId → Contract := (ext WB6 51 bkTC)
theorem WB7_sound : SoundG Try.prog WB7 := (ext_sound WB6_sound (bkT_sound WB6_sound rfl rfl rfl rfl))
noncomputable def WB8 : FuncId → Contract := (ext WB7 13 bkNC)
theorem WB8_sound : SoundG Try.prog WB8 := (ext_sound WB7_sound (bkN_sound WB7_sound rfl rfl rfl))
noncomputable def WC1 : FuncId → Contract := (ext (ext (ext (ext (ext (ext (ext (ext (ext (ext (ext (ext (ext (ext (ext none0 122 faultC) 23 lenX) 57 atX) 132 rotC) 118 putC) 131 wordC) 101 wordsC) 77 newC) 98 kC) 97 hC) 95 clientC) 106 cloneC) 82 clnTC) 83 clnVC) 121 growC)
theorem WC1_sound : SoundG Try.prog WC1 := (ext_sound (ext_sound (ext_sound (ext_sound (ext_sound (ext_sound (ext_sound (ext_sound (ext_sound (ext_sound (ext_sound (ext_sound (ext_sound (ext_sound (ext_sound none0_sound fault_sound) lenX_sound) atX_sound) rot_sound) put_sound) word_sound) words_sound) new_sound) constants_sound) first_sound) client_sound) clone_sound) clnT_sound) clnV_sound) grow_sound)
noncomputable def WC2 : FuncId → Contract := (ext (ext (ext (ext (ext (ext (ext (ext WC1 79 doneC) 104 numC) 103 textC) 52 wlkX) 120 rightC) 55 cpyC) 73 txCkC) 102 concatC)
theorem WC2_sound : SoundG Try.prog WC2 := (ext_sound (ext_sound (ext_sound (ext_sound (ext_sound (ext_sound (ext_sound (ext_sound WC1_sound (done_sound WC1_sound rfl)) (num_sound WC1_sound rfl rfl)) (text_sound WC1_sound rfl rfl)) (wlkX_sound WC1_sound rfl)) (right_sound WC1_sound rfl)) (cpy_sound WC1_sound rfl rfl)) (txCk_sound WC1_sound rfl)) (concat_sound WC1_sound rfl))
noncomputable def WC3 : FuncId → Contract := (ext (ext (ext (ext (ext (ext (ext WC2 21 chnX) 17 extX) 24 getX) 72 oddTC) 76 concatC) 119 schedC) 123 txtC)
theorem WC3_sound : SoundG Try.prog WC3 := (ext_sound (ext_sound (ext_sound (ext_sound (ext_sound (ext_sound (ext_sound WC2_sound (chnX_sound WC2_sound rfl)) (extX_sound WC2_sound rfl)) (getX_sound WC2_sound rfl rfl)) (oddT_sound WC2_sound rfl)) (join_sound WC2_sound rfl)) (sched_sound WC2_sound rfl rfl)) (txt_sound WC2_sound rfl rfl))
noncomputable def WC4 : FuncId → Contract := (ext (ext (ext (ext WC3 100 blockC) 99 padC) 105 txPutC) 96 ckTIC)
theorem WC4_sound : SoundG Try.prog WC4 := (ext_sound (ext_sound (ext_sound (ext_sound WC3_sound (block_sound WC3_sound rfl rfl)) (pad_sound WC3_sound rfl rfl)) (txPut_sound WC3_sound rfl rfl)) (ckTI_sound WC3_sound rfl))
noncomputable def WC5 : FuncId → Contract := (ext (ext (ext WC4 78 bkTxC) 75 sumC) 74 ckTFC)
theorem WC5_sound : SoundG Try.prog WC5 := (ext_sound (ext_sound (ext_sound WC4_sound (bkTx_sound WC4_sound rfl rfl rfl)) (sum_sound WC4_sound rfl rfl rfl rfl rfl)) (ckTF_sound WC4_sound rfl))
noncomputable def WC6 : FuncId → Contract := (ext (ext WC5 49 bkCkC) 50 longC)
theorem WC6_sound : SoundG Try.prog WC6 := (ext_sound (ext_sound WC5_sound (bkCk_sound WC5_sound rfl)) (long_sound WC5_sound rfl rfl))
noncomputable def WC7 : FuncId → Contract := (ext WC6 51 bkTC)
theorem WC7_sound : SoundG Try.prog WC7 := (ext_sound WC6_sound (bkT_sound WC6_sound rfl rfl rfl rfl))
noncomputable def WC8 : FuncId → Contract := (ext WC7 13 bkNC)
theorem WC8_sound : SoundG Try.prog WC8 := (ext_sound WC7_sound (bkN_sound WC7_sound rfl rfl rfl))
noncomputable def WD1 : FuncId → Contract := (ext (ext (ext (ext (ext (ext (ext (ext (ext (ext (ext none0 122 faultC) 132 rotC) 118 putC) 131 wordC) 101 wordsC) 77 newC) 98 kC) 97 hC) 95 clientC) 106 cloneC) 121 growC)
theorem WD1_sound : SoundG Try.prog WD1 := (ext_sound (ext_sound (ext_sound (ext_sound (ext_sound (ext_sound (ext_sound (ext_sound (ext_sound (ext_sound (ext_sound none0_sound fault_sound) rot_sound) put_sound) word_sound) words_sound) new_sound) constants_sound) first_sound) client_sound) clone_sound) grow_sound)
noncomputable def WD2 : FuncId → Contract := (ext (ext (ext (ext (ext (ext WD1 79 doneC) 104 numC) 103 textC) 120 rightC) 73 txCkC) 102 concatC)
theorem WD2_sound : SoundG Try.prog WD2 := (ext_sound (ext_sound (ext_sound (ext_sound (ext_sound (ext_sound WD1_sound (done_sound WD1_sound rfl)) (num_sound WD1_sound rfl rfl)) (text_sound WD1_sound rfl rfl)) (right_sound WD1_sound rfl)) (txCk_sound WD1_sound rfl)) (concat_sound WD1_sound rfl))
noncomputable def WD3 : FuncId → Contract := (ext (ext (ext (ext WD2 72 oddTC) 76 concatC) 119 schedC) 123 txtC)
theorem WD3_sound : SoundG Try.prog WD3 := (ext_sound (ext_sound (ext_sound (ext_sound WD2_sound (oddT_sound WD2_sound rfl)) (join_sound WD2_sound rfl)) (sched_sound WD2_sound rfl rfl)) (txt_sound WD2_sound rfl rfl))
noncomputable def WD4 : FuncId → Contract := (ext (ext (ext (ext WD3 100 blockC) 99 padC) 105 txPutC) 96 ckTIC)
theorem WD4_sound : SoundG Try.prog WD4 := (ext_sound (ext_sound (ext_sound (ext_sound WD3_sound (block_sound WD3_sound rfl rfl)) (pad_sound WD3_sound rfl rfl)) (txPut_sound WD3_sound rfl rfl)) (ckTI_sound WD3_sound rfl))
noncomputable def WD5 : FuncId → Contract := (ext (ext (ext WD4 78 bkTxC) 75 sumC) 74 ckTFC)
theorem WD5_sound : SoundG Try.prog WD5 := (ext_sound (ext_sound (ext_sound WD4_sound (bkTx_sound WD4_sound rfl rfl rfl)) (sum_sound WD4_sound rfl rfl rfl rfl rfl)) (ckTF_sound WD4_sound rfl))
noncomputable def WD6 : FuncId → Contract := (ext (ext WD5 49 bkCkC) 50 longC)
theorem WD6_sound : SoundG Try.prog WD6 := (ext_sound (ext_sound WD5_sound (bkCk_sound WD5_sound rfl)) (long_sound WD5_sound rfl rfl))
noncomputable def WD7 : FuncId → Contract := (ext WD6 51 bkTC)
theorem WD7_sound : SoundG Try.prog WD7 := (ext_sound WD6_sound (bkT_sound WD6_sound rfl rfl rfl rfl))
noncomputable def WD8 : FuncId → Contract := (ext WD7 13 bkNC)
theorem WD8_sound : SoundG Try.prog WD8 := (ext_sound WD7_sound (bkN_sound WD7_sound rfl rfl rfl))
noncomputable def WE : FuncId → Contract := (ext (ext (ext (ext (ext (ext (ext (ext (ext (ext none0 14 alive14C) 19 newTC) 20 putA) 24 getA) 25 bkNC) 26 sBkC) 27 genC) 21 chnX) 17 extX) 23 lenX)
theorem WE_sound : SoundG Try.prog WE := (ext_sound (ext_sound (ext_sound (ext_sound (ext_sound (ext_sound (ext_sound (ext_sound (ext_sound (ext_sound none0_sound (alive14_sound WA5_sound rfl rfl rfl)) newT_sound) (orC_sound (putT_sound WA8_sound rfl rfl) (orC_sound (putTM_sound WB8_sound rfl rfl) (orC_sound (putN_sound WC8_sound rfl) (putZ_sound WD8_sound rfl))))) (orC_sound (getT_sound WA2_sound rfl rfl) (getX_sound WC2_sound rfl rfl))) (rBkN_sound WA6_sound rfl rfl rfl)) (sBk_sound WA2_sound rfl rfl)) refGen_sound) (chnX_sound WC2_sound rfl)) (extX_sound WC2_sound rfl)) lenX_sound)
set_option maxRecDepth 100000 in
theorem treeOwn_lifted (os : Os) (started : os.Started) (H : Type) (enc : TypeId × Value → H) (F : Stop.Interp) :
    ReturnsInHanded {} Try.checked os 6 .any ((Rows.OpenSpec.upto Rows.treeOwnSpec).pre6 enc Try.prog Try.f6 Rows.treeOwnUptoRow.domain false) (((Rows.OpenSpec.upto Rows.treeOwnSpec).at F).post enc Try.prog Try.f6 false true false false) := by
  refine returnsInHanded_of_cond (C := Try.checked) (k := Rows.uptoSmall) rfl ownK started (by kernel_rfl) Try.func6
    (OpenSpec.witness (enc := enc) (C := Try.checked) (k := Rows.uptoSmall) rfl false ⟨#[], #[.agg #[.int .i64 0, .int .i64 0, .string ⟨#[]⟩, .int .i64 0, .int .i64 0, .string ⟨#[]⟩, .slice none 0 0, .slice none 0 0, .string ⟨#[]⟩]], []⟩ 8 (by kernel_rfl) (by kernel_rfl) (by kernel_rfl) (x := ([.agg [.lit (.int .i64 0), .lit (.int .i64 0), .lit (.string []), .agg [.lit (.int .i64 0), .lit (.int .i64 0), .lit (.string []), .nil], .nil, .lit (.string [])]], [], [])) (by kernel_rfl) (by kernel_rfl) (by kernel_rfl)) ?_
  intro W base args ds gs before hval hW hcnd hkk _
  refine law_doneN (N := 1048576) laid (tow_sound WE_sound rfl rfl rfl rfl rfl rfl rfl rfl rfl rfl) rfl (ts := [27]) (by kernel_rfl) (tb := 4) (by kernel_rfl) (by kernel_rfl) ?_ ?_ ?_ ?_ hval hW (.inr (bulk_le hkk))
  · intro t ht; simp only [List.mem_cons, List.not_mem_nil, or_false] at ht; rcases ht with rfl <;> kernel_rfl
  · intro t ht; simp only [List.mem_cons, List.not_mem_nil, or_false] at ht; rcases ht with rfl <;> exact ⟨by kernel_rfl, of_decide_eq_true (by kernel_rfl)⟩
  · intro ds hd
    match ds, hd with
    | [a], _ => rfl
  · intro xs hxs
    match xs, hxs with
    | [x], h =>
      obtain ⟨h1, _⟩ := h
      obtain ⟨b, rfl, b1, b2, _⟩ := bk_ofN h1
      exact mkC_at (α := Blk) b ⟨Nat.le_trans b1 (by decide), Nat.le_trans b2 (by decide)⟩ (fun _ _ _ _ => rfl)
    | [], h => exact h.elim
    | _ :: _ :: _, h => exact h.2.elim


end Go.Proofs.Ytenmlgalcjkdbaa.AM

namespace Go.Proofs.Ytenmlgalcjkdbaa
open Go

theorem treeOwn_over : Rows.treeOwnUptoRow.holds Try.pinned (Rows.OpenSpec.upto Rows.treeOwnSpec) :=
  OpenClaim.holds_of_cond 6 Try.f6 rfl rfl rfl rfl rfl rfl rfl ⟨rfl, rfl, rfl, rfl, rfl⟩ rfl rfl rfl rfl rfl (by kernel_rfl) Try.func6 (by kernel_rfl)
    (of_decide_eq_true (by kernel_rfl)) (by unfold Func.isWrapper; first | (rw [if_pos (by decide +kernel)]; kernel_rfl) | (rw [if_neg (by decide +kernel)]; exact ⟨rfl, rfl⟩))
    (fun os started H enc _ F => by rw [OpenClaim.pre_of_none' rfl]; exact AM.treeOwn_lifted os started H enc F)

/-- The row. -/
theorem treeOwn_holds : Rows.TreeOwnUptoSaid := treeOwn_over
#print axioms treeOwn_holds
end Go.Proofs.Ytenmlgalcjkdbaa
