/-
  QQ: Fd7.
-/
import Derived.Test.YtenmlgalcjkdbaaGreatQ9
import Derived.Test.YtenmlgalcjkdbaaGreatQB
import Derived.Test.YtenmlgalcjkdbaaGreatQT
import Derived.Test.YtenmlgalcjkdbaaGreatQZ
import Derived.ProofKit
import Derived.SizedLaws
import Derived.JoinedCond
set_option linter.unusedVariables false
set_option linter.unusedSimpArgs false
namespace Go.Proofs.YtenmlgalcjkdbaaGreat.AM
open Go

variable {Γ : FuncId → Contract}

set_option maxRecDepth 100000 in
theorem texts_cellN {N n : Nat} {c : PC} (hp : PTn Tryz.prog N n 24 [c]) : ∃ l : List (List UInt8), c = .sl (texts l) ∧ l.length ≤ N := by
  have u3 : Tryz.prog.underlying 24 = some (.slice 9) := by kernel_rfl
  cases n with
  | zero => exact hp.elim
  | succ n =>
    simp only [PTn, u3] at hp
    obtain ⟨rows, hv, hl, hr⟩ := hp
    cases hv
    have key : ∀ rows : List (List PC), (∀ r ∈ rows, PTn Tryz.prog N n 9 r) → ∃ l : List (List UInt8), rows = texts l := by
      intro rows
      induction rows with
      | nil => intro _; exact ⟨[], rfl⟩
      | cons r rows ih =>
        intro h
        obtain ⟨l, hl1⟩ := ih fun r hr => h r (by simp [hr])
        have h0 := h r (by simp)
        have u4 : Tryz.prog.underlying 9 = some .string := by kernel_rfl
        cases n with
        | zero => exact h0.elim
        | succ n =>
          simp only [PTn, u4] at h0
          obtain ⟨s, rfl, hs⟩ := h0
          exact ⟨s :: l, by rw [hl1]; rfl⟩
    obtain ⟨l, rfl⟩ := key rows hr
    exact ⟨l, rfl, by rw [texts_length] at hl; exact hl⟩
set_option maxRecDepth 100000 in
theorem cfg_cells {N n : Nat} {cs : List PC} (hp : PTn Tryz.prog N n 43 cs) : ∃ c : Cfg, cs = [.sl (texts c.ro), .sl (texts c.cl), .int .i64 c.q, .int .i64 c.ba, .int .i64 c.ca] ∧ c.ro.length ≤ N ∧ c.cl.length ≤ N := by
  obtain ⟨fs0, f0, h01, h02, h03, h04, h05⟩ := tyField_run fd_43_0
  obtain ⟨fs1, f1, h11, h12, h13, h14, h15⟩ := tyField_run fd_43_1
  obtain ⟨fs2, f2, h21, h22, h23, h24, h25⟩ := tyField_run fd_43_2
  obtain ⟨fs3, f3, h31, h32, h33, h34, h35⟩ := tyField_run fd_43_3
  obtain ⟨fs4, f4, h41, h42, h43, h44, h45⟩ := tyField_run fd_43_4
  rw [h01] at h11 h21 h31 h41
  cases h11
  cases h21
  cases h31
  cases h41
  have hct : Tryz.prog.cellsOf 43 = 5 := by kernel_rfl
  have hk0 : Tryz.prog.cellsOf 24 = 1 := by kernel_rfl
  have hk1 : Tryz.prog.cellsOf 3 = 1 := by kernel_rfl
  cases n with
  | zero => exact hp.elim
  | succ n =>
    simp only [PTn, h01, hct] at hp
    obtain ⟨hl, hf⟩ := hp
    have q0 := hf f0 (List.mem_of_getElem? (i := 0) (by simpa using h02))
    rw [h03, h04, hk0] at q0
    have q1 := hf f1 (List.mem_of_getElem? (i := 1) (by simpa using h12))
    rw [h13, h14, hk0] at q1
    have q2 := hf f2 (List.mem_of_getElem? (i := 2) (by simpa using h22))
    rw [h23, h24, hk1] at q2
    have q3 := hf f3 (List.mem_of_getElem? (i := 3) (by simpa using h32))
    rw [h33, h34, hk1] at q3
    have q4 := hf f4 (List.mem_of_getElem? (i := 4) (by simpa using h42))
    rw [h43, h44, hk1] at q4
    match cs, hl with
    | [c0, c1, c2, c3, c4], _ =>
      obtain ⟨a, rfl, ha⟩ := texts_cellN (c := c0) q0
      obtain ⟨b, rfl, hb⟩ := texts_cellN (c := c1) q1
      obtain ⟨c, rfl⟩ := int_cellN (c := c2) q2
      obtain ⟨d, rfl⟩ := int_cellN (c := c3) q3
      obtain ⟨e, rfl⟩ := int_cellN (c := c4) q4
      exact ⟨⟨a, b, c, d, e⟩, rfl, ha, hb⟩
set_option maxRecDepth 100000 in
theorem cfg_ofN {N : Nat} {x : AV} (h : AVTn Tryz.prog N 43 x) : ∃ c : Cfg, x = c.av ∧ c.ro.length ≤ N ∧ c.cl.length ≤ N := by
  obtain ⟨n, cs, hp, hx⟩ := h
  obtain ⟨fs, f0, h1, _⟩ := tyField_run fd_43_0
  rw [h1] at hx
  obtain ⟨c, rfl, hc⟩ := cfg_cells hp
  exact ⟨c, hx, hc⟩
set_option maxRecDepth 100000 in
theorem bks_ofN {N : Nat} {x : AV} (h : AVTn Tryz.prog N 57 x) : ∃ l : List Blk, x = .c (.sl (brows l)) ∧ l.length ≤ N ∧ ∀ b ∈ l, b.txs.length ≤ N ∧ b.ju.vs.length ≤ N := by
  obtain ⟨n, cs, hp, hx⟩ := h
  have u3 : Tryz.prog.underlying 57 = some (.slice 33) := by kernel_rfl
  rw [u3] at hx
  obtain ⟨c, rfl, rfl⟩ := hx
  cases n with
  | zero => exact hp.elim
  | succ n =>
    simp only [PTn, u3] at hp
    obtain ⟨rows, hv, hl, hr⟩ := hp
    cases hv
    have key : ∀ rows : List (List PC), (∀ r ∈ rows, PTn Tryz.prog N n 33 r) → ∃ l : List Blk, rows = brows l ∧ ∀ b ∈ l, b.txs.length ≤ N ∧ b.ju.vs.length ≤ N := by
      intro rows
      induction rows with
      | nil => intro _; exact ⟨[], rfl, by simp⟩
      | cons r rows ih =>
        intro h
        obtain ⟨l, hl1, hl2⟩ := ih fun r hr => h r (by simp [hr])
        obtain ⟨b, rfl, hb1, hb2, _⟩ := bk_cells (h r (by simp))
        refine ⟨b :: l, by rw [hl1]; rfl, fun y hy => ?_⟩
        rcases List.mem_cons.1 hy with rfl | hy
        · exact ⟨hb1, hb2⟩
        · exact hl2 y hy
    obtain ⟨l, rfl, h2⟩ := key rows hr
    exact ⟨l, rfl, by rw [brows_length] at hl; exact hl, h2⟩

set_option maxRecDepth 100000 in
theorem cts_ofN {N : Nat} {x : AV} (h : AVTn Tryz.prog N 58 x) : ∃ l : List Ct, x = .c (.sl (ctrows l)) ∧ l.length ≤ N ∧ ∀ b ∈ l, b.vs.length ≤ N := by
  obtain ⟨n, cs, hp, hx⟩ := h
  have u3 : Tryz.prog.underlying 58 = some (.slice 31) := by kernel_rfl
  rw [u3] at hx
  obtain ⟨c, rfl, rfl⟩ := hx
  cases n with
  | zero => exact hp.elim
  | succ n =>
    simp only [PTn, u3] at hp
    obtain ⟨rows, hv, hl, hr⟩ := hp
    cases hv
    have key : ∀ rows : List (List PC), (∀ r ∈ rows, PTn Tryz.prog N n 31 r) → ∃ l : List Ct, rows = ctrows l ∧ ∀ b ∈ l, b.vs.length ≤ N := by
      intro rows
      induction rows with
      | nil => intro _; exact ⟨[], rfl, by simp⟩
      | cons r rows ih =>
        intro h
        obtain ⟨l, hl1, hl2⟩ := ih fun r hr => h r (by simp [hr])
        obtain ⟨b, rfl, hb1, _⟩ := ct_cells (h r (by simp))
        refine ⟨b :: l, by rw [hl1]; rfl, fun y hy => ?_⟩
        rcases List.mem_cons.1 hy with rfl | hy
        · exact hb1
        · exact hl2 y hy
    obtain ⟨l, rfl, h2⟩ := key rows hr
    exact ⟨l, rfl, by rw [ctrows_length] at hl; exact hl, h2⟩

noncomputable def FF1 : FuncId → Contract := (ext (ext (ext (ext (ext (ext (ext (ext (ext (ext (ext (ext (ext (ext (ext (ext (ext (ext (ext (ext (ext (ext (ext (ext (ext (ext (ext (ext (ext (ext (ext (ext (ext (ext (ext (ext (ext (ext (ext none0 104 faultC) 137 parC) 172 lenTC) 138 atTC) 218 rotC) 80 cmkC) 120 abtC) 30 fewC) 29 suspC) 159 putC) 109 turnC) 107 kC) 110 rDoneC) 9 genC) 75 smVC) 10 txCkC) 125 voCkC) 113 getC) 95 putC) 202 wordC) 157 wordsC) 13 newC) 154 kC) 153 hC) 164 sizeGC) 165 chkC) 23 newTC) 173 fitsC) 145 clientC) 169 vAbC) 206 abC) 43 replC) 207 tkC) 201 digC) 54 cloneC) 47 clnTC) 48 clnVC) 205 growC) 132 repC)
theorem FF1_sound : SoundG Tryz.prog FF1 := (ext_sound (ext_sound (ext_sound (ext_sound (ext_sound (ext_sound (ext_sound (ext_sound (ext_sound (ext_sound (ext_sound (ext_sound (ext_sound (ext_sound (ext_sound (ext_sound (ext_sound (ext_sound (ext_sound (ext_sound (ext_sound (ext_sound (ext_sound (ext_sound (ext_sound (ext_sound (ext_sound (ext_sound (ext_sound (ext_sound (ext_sound (ext_sound (ext_sound (ext_sound (ext_sound (ext_sound (ext_sound (ext_sound (ext_sound none0_sound fault_sound) par_sound) lenT_sound) atT_sound) rot_sound) cmk_sound) abt_sound) few_sound) susp_sound) (refPut_sound none0_sound)) turn_sound) refwords_sound) rDone_sound) refGen_sound) smV_sound) refTxCk_sound) refVoCk_sound) get_sound) put_sound) word_sound) words_sound) new_sound) constants_sound) first_sound) sizeG_sound) chk_sound) newT_sound) fits_sound) client_sound) vAb_sound) ab_sound) repl_sound) tk_sound) dig_sound) clone_sound) clnT_sound) clnV_sound) grow_sound) rep_sound)
noncomputable def FF2 : FuncId → Contract := (ext (ext (ext (ext (ext (ext (ext (ext (ext (ext (ext (ext (ext (ext (ext (ext (ext (ext FF1 15 doneC) 101 numC) 53 textC) 81 cfirstC) 168 abtIC) 71 cpcC) 22 alive42C) 108 padC) 57 bkCkC) 160 rNumC) 28 scRC) 161 rTextC) 204 rightC) 69 cpyC) 93 txCkC) 170 voCkC) 158 concatC) 194 parIC)
theorem FF2_sound : SoundG Tryz.prog FF2 := (ext_sound (ext_sound (ext_sound (ext_sound (ext_sound (ext_sound (ext_sound (ext_sound (ext_sound (ext_sound (ext_sound (ext_sound (ext_sound (ext_sound (ext_sound (ext_sound (ext_sound (ext_sound FF1_sound (done_sound FF1_sound rfl)) (num_sound FF1_sound rfl rfl)) (text_sound FF1_sound rfl rfl)) (cfirst_sound FF1_sound rfl)) (abtI_sound FF1_sound rfl)) (cpc_sound FF1_sound rfl)) (alive42_sound FF1_sound rfl)) (refPad_sound FF1_sound rfl)) (refBkCk_sound FF1_sound rfl)) (rNum_sound FF1_sound rfl)) (scR_sound FF1_sound rfl)) (rText_sound FF1_sound rfl)) (right_sound FF1_sound rfl)) (cpy_sound FF1_sound rfl rfl)) (txCk_sound FF1_sound rfl)) (voCk_sound FF1_sound rfl rfl rfl)) (concat_sound FF1_sound rfl)) (parI_sound FF1_sound rfl))
noncomputable def FF3 : FuncId → Contract := (ext (ext (ext (ext (ext (ext (ext (ext (ext (ext FF2 92 oddTC) 42 genC) 58 sumC) 198 rTxFC) 174 rVoFC) 106 concatC) 203 schedC) 151 txtC) 152 voTxC) 136 parFC)
theorem FF3_sound : SoundG Tryz.prog FF3 := (ext_sound (ext_sound (ext_sound (ext_sound (ext_sound (ext_sound (ext_sound (ext_sound (ext_sound (ext_sound FF2_sound (oddT_sound FF2_sound rfl)) (gen_sound FF2_sound rfl)) (refSha_sound FF2_sound rfl rfl rfl)) (rTxF_sound FF2_sound rfl rfl)) (rVoF_sound FF2_sound rfl rfl)) (join_sound FF2_sound rfl)) (sched_sound FF2_sound rfl rfl)) (txt_sound FF2_sound rfl rfl)) (voTx_sound FF2_sound rfl rfl)) (parF_sound FF2_sound rfl))
noncomputable def FF4 : FuncId → Contract := (ext (ext (ext (ext (ext (ext (ext (ext (ext (ext FF3 124 walkC) 156 blockC) 196 partC) 195 short1C) 162 rTxPC) 126 voTC) 155 padC) 102 txPutC) 171 voTC) 122 ckTIC)
theorem FF4_sound : SoundG Tryz.prog FF4 := (ext_sound (ext_sound (ext_sound (ext_sound (ext_sound (ext_sound (ext_sound (ext_sound (ext_sound (ext_sound FF3_sound (walk_sound FF3_sound rfl rfl rfl rfl)) (block_sound FF3_sound rfl rfl)) (refPar_sound FF3_sound rfl)) (refShort_sound FF3_sound rfl)) (rTxP_sound FF3_sound rfl rfl)) (rVoT_sound FF3_sound rfl rfl)) (pad_sound FF3_sound rfl rfl)) (txPut_sound FF3_sound rfl rfl)) (voT_sound FF3_sound rfl rfl rfl rfl)) (ckTI_sound FF3_sound rfl))
noncomputable def FF5 : FuncId → Contract := (ext (ext (ext (ext (ext (ext (ext FF4 85 exdC) 51 bkTxC) 197 chainC) 139 climbC) 111 rBkFC) 105 sumC) 66 ckTFC)
theorem FF5_sound : SoundG Tryz.prog FF5 := (ext_sound (ext_sound (ext_sound (ext_sound (ext_sound (ext_sound (ext_sound FF4_sound (exd_sound FF4_sound rfl rfl rfl)) (bkTx_sound FF4_sound rfl rfl rfl)) (refChain_sound FF4_sound rfl)) (refClimb_sound FF4_sound rfl)) (rBkF_sound FF4_sound rfl rfl rfl)) (sum_sound FF4_sound rfl rfl rfl rfl rfl)) (ckTF_sound FF4_sound rfl))
noncomputable def FF6 : FuncId → Contract := (ext (ext (ext (ext (ext (ext FF5 70 cflC) 45 bkCkC) 140 opnC) 59 bkTC) 55 longC) 147 partC)
theorem FF6_sound : SoundG Tryz.prog FF6 := (ext_sound (ext_sound (ext_sound (ext_sound (ext_sound (ext_sound FF5_sound (cfl_sound FF5_sound rfl rfl)) (bkCk_sound FF5_sound rfl)) (refOpn_sound FF5_sound rfl rfl rfl)) (rBkT_sound FF5_sound rfl rfl rfl)) (long_sound FF5_sound rfl rfl)) (part_sound FF5_sound rfl rfl rfl))
noncomputable def FF7 : FuncId → Contract := (ext (ext (ext (ext FF6 56 bkTC) 88 sverC) 17 bkNC) 199 shortC)
theorem FF7_sound : SoundG Tryz.prog FF7 := (ext_sound (ext_sound (ext_sound (ext_sound FF6_sound (bkT_sound FF6_sound rfl rfl rfl rfl)) (rVer_sound FF6_sound rfl rfl)) (rBkN_sound FF6_sound rfl rfl rfl)) (short_sound FF6_sound rfl))
noncomputable def FF8 : FuncId → Contract := (ext (ext (ext (ext (ext (ext FF7 16 bkNC) 166 climbC) 72 voVaC) 127 at14C) 142 chainC) 144 endedC)
theorem FF8_sound : SoundG Tryz.prog FF8 := (ext_sound (ext_sound (ext_sound (ext_sound (ext_sound (ext_sound FF7_sound (bkN_sound FF7_sound rfl rfl rfl)) (climb_sound FF7_sound rfl)) (rVoVa_sound FF7_sound rfl rfl rfl)) (at14_sound FF7_sound rfl)) (chain_sound FF7_sound rfl)) (ended_sound FF7_sound rfl))
noncomputable def FF9 : FuncId → Contract := (ext (ext (ext (ext FF8 24 putTC) 26 ceckC) 73 rchC) 167 opnC)
theorem FF9_sound : SoundG Tryz.prog FF9 := (ext_sound (ext_sound (ext_sound (ext_sound FF8_sound (putT_sound FF8_sound rfl rfl)) (rCeck_sound FF8_sound rfl rfl)) (rch_sound FF8_sound rfl rfl)) (opn_sound FF8_sound rfl rfl rfl))
noncomputable def FF10 : FuncId → Contract := (ext (ext FF9 74 rexdC) 119 sverC)
theorem FF10_sound : SoundG Tryz.prog FF10 := (ext_sound (ext_sound FF9_sound (rexd_sound FF9_sound rfl rfl rfl)) (sver_sound FF9_sound rfl rfl rfl rfl rfl))
noncomputable def FF11 : FuncId → Contract := (ext (ext FF10 27 rcflC) 121 voVaC)
theorem FF11_sound : SoundG Tryz.prog FF11 := (ext_sound (ext_sound FF10_sound (rcfl_sound FF10_sound rfl rfl)) (voVa_sound FF10_sound rfl rfl rfl))
noncomputable def FF12 : FuncId → Contract := (ext FF11 65 ceckC)
theorem FF12_sound : SoundG Tryz.prog FF12 := (ext_sound FF11_sound (ceck_sound FF11_sound rfl rfl rfl rfl rfl))
noncomputable def FF13 : FuncId → Contract := (ext FF12 25 findC)
theorem FF13_sound : SoundG Tryz.prog FF13 := (ext_sound FF12_sound (find_sound FF12_sound rfl rfl rfl))

set_option maxRecDepth 100000 in
theorem forensicFinds_lifted (os : Os) (started : os.Started) (H : Type) (enc : TypeId × Value → H) (F : Stop.Interp) :
    ReturnsInHanded {} Tryz.checked os 4 .any ((Rows.OpenSpec.upto Rows.forensicFindsSpec).pre6 enc Tryz.prog Tryz.f4 Rows.forensicFindsUptoRow.domain false) (((Rows.OpenSpec.upto Rows.forensicFindsSpec).at F).post enc Tryz.prog Tryz.f4 false true false false) := by
  refine returnsInHanded_of_cond (C := Tryz.checked) (k := Rows.uptoSmall) rfl ownK started (by kernel_rfl) Tryz.func4
    (OpenSpec.witness (enc := enc) (C := Tryz.checked) (k := Rows.uptoSmall) rfl false ⟨#[], #[.agg #[.slice none 0 0, .slice none 0 0, .int .i64 0, .int .i64 0, .int .i64 0], .slice none 0 0, .slice none 0 0], []⟩ 8 (by kernel_rfl) (by kernel_rfl) (by kernel_rfl) (x := ([.agg [.nil, .nil, .lit (.int .i64 0), .lit (.int .i64 0), .lit (.int .i64 0)], .nil, .nil], [], [])) (by kernel_rfl) (by kernel_rfl) (by kernel_rfl)) ?_
  intro W base args ds gs before hval hW hcnd hkk _
  refine law_doneN (N := 1048576) laid (ff_sound FF13_sound rfl rfl rfl rfl rfl rfl rfl rfl rfl) rfl (ts := [43, 57, 58]) (by kernel_rfl) (tb := 4) (by kernel_rfl) (by kernel_rfl) ?_ ?_ ?_ ?_ hval hW (.inr (bulk_le hkk))
  · intro t ht; simp only [List.mem_cons, List.not_mem_nil, or_false] at ht; rcases ht with rfl | rfl | rfl <;> kernel_rfl
  · intro t ht; simp only [List.mem_cons, List.not_mem_nil, or_false] at ht; rcases ht with rfl | rfl | rfl <;> exact ⟨by kernel_rfl, of_decide_eq_true (by kernel_rfl)⟩
  · intro ds hd
    match ds, hd with
    | [a, b, c], _ => rfl
  · intro xs hxs
    match xs, hxs with
    | [x, y, z], h =>
      obtain ⟨h1, h2, h3, _⟩ := h
      obtain ⟨c, rfl, c1, c2⟩ := cfg_ofN h1
      obtain ⟨l, rfl, l1, l2⟩ := bks_ofN h2
      obtain ⟨g, rfl, g1, g2⟩ := cts_ofN h3
      exact mkC_at (α := Cfg × List Blk × List Ct) (c, l, g) ⟨⟨l1, l2⟩, g1, g2, c1⟩ (fun _ _ _ _ => rfl)
    | [], h => exact h.elim
    | [_], h => exact h.2.elim
    | [_, _], h => exact h.2.2.elim
    | _ :: _ :: _ :: _ :: _, h => exact h.2.2.2.elim


end Go.Proofs.YtenmlgalcjkdbaaGreat.AM

namespace Go.Proofs.YtenmlgalcjkdbaaGreat
open Go

theorem forensicFinds_over : Rows.forensicFindsUptoRow.holds Tryz.pinned (Rows.OpenSpec.upto Rows.forensicFindsSpec) :=
  OpenClaim.holds_of_cond 4 Tryz.f4 rfl rfl rfl rfl rfl rfl rfl ⟨rfl, rfl, rfl, rfl, rfl⟩ rfl rfl rfl rfl rfl (by kernel_rfl) Tryz.func4 (by kernel_rfl)
    (of_decide_eq_true (by kernel_rfl)) (by unfold Func.isWrapper; first | (rw [if_pos (by decide +kernel)]; kernel_rfl) | (rw [if_neg (by decide +kernel)]; exact ⟨rfl, rfl⟩))
    (fun os started H enc _ F => by rw [OpenClaim.pre_of_none' rfl]; exact AM.forensicFinds_lifted os started H enc F)

/-- The row. -/
theorem forensicFinds_holds : Rows.ForensicFindsUptoSaid := forensicFinds_over
#print axioms forensicFinds_holds
end Go.Proofs.YtenmlgalcjkdbaaGreat
