/-
  QQ: MgH.
-/
import Derived.Test.YtldehcnaepgamaaQO
import Derived.Test.YtldehcnaepgamaaQ4
import Derived.ProofKit
import Derived.SizedLaws
import Derived.JoinedCond
set_option linter.unusedVariables false
set_option linter.unusedSimpArgs false
namespace Go.Proofs.Ytldehcnaepgamaa.AM
open Go

variable {Γ : FuncId → Contract}

theorem laid : laidOutB Try.prog = true := by kernel_rfl
theorem ownK : ownKnob Try.prog.godebug = none := by kernel_rfl

set_option maxRecDepth 100000 in
theorem int_ofN {N : Nat} {x : AV} (h : AVTn Try.prog N 3 x) : ∃ n : Int, x = .c (.int .i64 n) ∧ -9223372036854775808 ≤ n ∧ n < 9223372036854775808 := by
  obtain ⟨n, cs, hp, hx⟩ := h
  have u3 : Try.prog.underlying 3 = some (.int .i64) := by kernel_rfl
  rw [u3] at hx
  obtain ⟨c, rfl, rfl⟩ := hx
  cases n with
  | zero => exact hp.elim
  | succ n =>
    simp only [PTn, u3] at hp
    obtain ⟨v, hv, hw⟩ := hp
    cases hv
    refine ⟨v, rfl, ?_⟩
    simp [Lit.wf, IntKind.min, IntKind.max, IntKind.bits, IntKind.signed] at hw
    omega
set_option maxRecDepth 100000 in
theorem int_cellN {N n : Nat} {c : PC} (h : PTn Try.prog N n 3 [c]) : ∃ v : Int, c = .int .i64 v := by
  have u3 : Try.prog.underlying 3 = some (.int .i64) := by kernel_rfl
  cases n with
  | zero => exact h.elim
  | succ n =>
    simp only [PTn, u3] at h
    obtain ⟨v, hv, _⟩ := h
    cases hv
    exact ⟨v, rfl⟩
set_option maxRecDepth 100000 in
theorem str_cellN {N n : Nat} {c : PC} (h : PTn Try.prog N n 9 [c]) : ∃ s : List UInt8, c = .str s ∧ s.length ≤ N := by
  have u3 : Try.prog.underlying 9 = some .string := by kernel_rfl
  cases n with
  | zero => exact h.elim
  | succ n =>
    simp only [PTn, u3] at h
    obtain ⟨v, hv, hl⟩ := h
    cases hv
    exact ⟨v, rfl, hl⟩
set_option maxRecDepth 100000 in
theorem tx_cells {N n : Nat} {cs : List PC} (hp : PTn Try.prog N n 54 cs) : ∃ t : Txn, cs = t.pcs ∧ t.sig.length ≤ N := by
  obtain ⟨fs0, f0, h01, h02, h03, h04, h05⟩ := tyField_run fd_54_0
  obtain ⟨fs1, f1, h11, h12, h13, h14, h15⟩ := tyField_run fd_54_1
  obtain ⟨fs2, f2, h21, h22, h23, h24, h25⟩ := tyField_run fd_54_2
  obtain ⟨fs3, f3, h31, h32, h33, h34, h35⟩ := tyField_run fd_54_3
  obtain ⟨fs4, f4, h41, h42, h43, h44, h45⟩ := tyField_run fd_54_4
  rw [h01] at h11 h21 h31 h41
  cases h11
  cases h21
  cases h31
  cases h41
  have hct : Try.prog.cellsOf 54 = 5 := by kernel_rfl
  have hk0 : Try.prog.cellsOf 3 = 1 := by kernel_rfl
  have hk1 : Try.prog.cellsOf 9 = 1 := by kernel_rfl
  cases n with
  | zero => exact hp.elim
  | succ n =>
    simp only [PTn, h01, hct] at hp
    obtain ⟨hl, hf⟩ := hp
    have q0 := hf f0 (List.mem_of_getElem? (i := 0) (by simpa using h02))
    rw [h03, h04, hk0] at q0
    have q1 := hf f1 (List.mem_of_getElem? (i := 1) (by simpa using h12))
    rw [h13, h14, hk0] at q1
    have q2 := hf f2 (List.mem_of_getElem? (i := 2) (by simpa using h22))
    rw [h23, h24, hk0] at q2
    have q3 := hf f3 (List.mem_of_getElem? (i := 3) (by simpa using h32))
    rw [h33, h34, hk0] at q3
    have q4 := hf f4 (List.mem_of_getElem? (i := 4) (by simpa using h42))
    rw [h43, h44, hk1] at q4
    match cs, hl with
    | [c0, c1, c2, c3, c4], _ =>
      obtain ⟨a, rfl⟩ := int_cellN (c := c0) q0
      obtain ⟨b, rfl⟩ := int_cellN (c := c1) q1
      obtain ⟨c, rfl⟩ := int_cellN (c := c2) q2
      obtain ⟨d, rfl⟩ := int_cellN (c := c3) q3
      obtain ⟨s, rfl, hs⟩ := str_cellN (c := c4) q4
      exact ⟨⟨a, b, c, d, s⟩, rfl, hs⟩
set_option maxRecDepth 100000 in
theorem vo_cells {N n : Nat} {cs : List PC} (hp : PTn Try.prog N n 74 cs) : ∃ t : Vt, cs = t.pcs ∧ t.sig.length ≤ N := by
  obtain ⟨fs0, f0, h01, h02, h03, h04, h05⟩ := tyField_run fd_74_0
  obtain ⟨fs1, f1, h11, h12, h13, h14, h15⟩ := tyField_run fd_74_1
  obtain ⟨fs2, f2, h21, h22, h23, h24, h25⟩ := tyField_run fd_74_2
  obtain ⟨fs3, f3, h31, h32, h33, h34, h35⟩ := tyField_run fd_74_3
  obtain ⟨fs4, f4, h41, h42, h43, h44, h45⟩ := tyField_run fd_74_4
  obtain ⟨fs5, f5, h51, h52, h53, h54, h55⟩ := tyField_run fd_74_5
  obtain ⟨fs6, f6, h61, h62, h63, h64, h65⟩ := tyField_run fd_74_6
  rw [h01] at h11 h21 h31 h41 h51 h61
  cases h11
  cases h21
  cases h31
  cases h41
  cases h51
  cases h61
  have hct : Try.prog.cellsOf 74 = 7 := by kernel_rfl
  have hk0 : Try.prog.cellsOf 3 = 1 := by kernel_rfl
  have hk1 : Try.prog.cellsOf 9 = 1 := by kernel_rfl
  cases n with
  | zero => exact hp.elim
  | succ n =>
    simp only [PTn, h01, hct] at hp
    obtain ⟨hl, hf⟩ := hp
    have q0 := hf f0 (List.mem_of_getElem? (i := 0) (by simpa using h02))
    rw [h03, h04, hk0] at q0
    have q1 := hf f1 (List.mem_of_getElem? (i := 1) (by simpa using h12))
    rw [h13, h14, hk0] at q1
    have q2 := hf f2 (List.mem_of_getElem? (i := 2) (by simpa using h22))
    rw [h23, h24, hk0] at q2
    have q3 := hf f3 (List.mem_of_getElem? (i := 3) (by simpa using h32))
    rw [h33, h34, hk1] at q3
    have q4 := hf f4 (List.mem_of_getElem? (i := 4) (by simpa using h42))
    rw [h43, h44, hk0] at q4
    have q5 := hf f5 (List.mem_of_getElem? (i := 5) (by simpa using h52))
    rw [h53, h54, hk0] at q5
    have q6 := hf f6 (List.mem_of_getElem? (i := 6) (by simpa using h62))
    rw [h63, h64, hk1] at q6
    match cs, hl with
    | [c0, c1, c2, c3, c4, c5, c6], _ =>
      obtain ⟨a, rfl⟩ := int_cellN (c := c0) q0
      obtain ⟨b, rfl⟩ := int_cellN (c := c1) q1
      obtain ⟨c, rfl⟩ := int_cellN (c := c2) q2
      obtain ⟨s, rfl, hs⟩ := str_cellN (c := c3) q3
      obtain ⟨d, rfl⟩ := int_cellN (c := c4) q4
      obtain ⟨e, rfl⟩ := int_cellN (c := c5) q5
      obtain ⟨u, rfl, hu⟩ := str_cellN (c := c6) q6
      exact ⟨⟨a, b, c, s, d, e, u⟩, rfl, hu⟩
set_option maxRecDepth 100000 in
theorem txs_cellN {N n : Nat} {c : PC} (hp : PTn Try.prog N n 50 [c]) : ∃ l : List Txn, c = .sl (trows l) ∧ l.length ≤ N ∧ ∀ t ∈ l, t.sig.length ≤ N := by
  have u3 : Try.prog.underlying 50 = some (.slice 54) := by kernel_rfl
  cases n with
  | zero => exact hp.elim
  | succ n =>
    simp only [PTn, u3] at hp
    obtain ⟨rows, hv, hl, hr⟩ := hp
    cases hv
    have key : ∀ rows : List (List PC), (∀ r ∈ rows, PTn Try.prog N n 54 r) → ∃ l : List Txn, rows = trows l ∧ ∀ t ∈ l, t.sig.length ≤ N := by
      intro rows
      induction rows with
      | nil => intro _; exact ⟨[], rfl, by simp⟩
      | cons r rows ih =>
        intro h
        obtain ⟨l, hl1, hl2⟩ := ih fun r hr => h r (by simp [hr])
        obtain ⟨t, rfl, ht⟩ := tx_cells (h r (by simp))
        refine ⟨t :: l, by rw [hl1]; rfl, fun x hx => ?_⟩
        rcases List.mem_cons.1 hx with rfl | hx
        · exact ht
        · exact hl2 x hx
    obtain ⟨l, rfl, h2⟩ := key rows hr
    exact ⟨l, rfl, by rw [trows_length] at hl; exact hl, h2⟩
set_option maxRecDepth 100000 in
theorem vos_cellN {N n : Nat} {c : PC} (hp : PTn Try.prog N n 68 [c]) : ∃ l : List Vt, c = .sl (votes l) ∧ l.length ≤ N ∧ ∀ t ∈ l, t.sig.length ≤ N := by
  have u3 : Try.prog.underlying 68 = some (.slice 74) := by kernel_rfl
  cases n with
  | zero => exact hp.elim
  | succ n =>
    simp only [PTn, u3] at hp
    obtain ⟨rows, hv, hl, hr⟩ := hp
    cases hv
    have key : ∀ rows : List (List PC), (∀ r ∈ rows, PTn Try.prog N n 74 r) → ∃ l : List Vt, rows = votes l ∧ ∀ t ∈ l, t.sig.length ≤ N := by
      intro rows
      induction rows with
      | nil => intro _; exact ⟨[], rfl, by simp⟩
      | cons r rows ih =>
        intro h
        obtain ⟨l, hl1, hl2⟩ := ih fun r hr => h r (by simp [hr])
        obtain ⟨t, rfl, ht⟩ := vo_cells (h r (by simp))
        refine ⟨t :: l, by rw [hl1]; rfl, fun x hx => ?_⟩
        rcases List.mem_cons.1 hx with rfl | hx
        · exact ht
        · exact hl2 x hx
    obtain ⟨l, rfl, h2⟩ := key rows hr
    exact ⟨l, rfl, by rw [votes_length] at hl; exact hl, h2⟩
set_option maxRecDepth 100000 in
theorem ct_cells {N n : Nat} {cs : List PC} (hp : PTn Try.prog N n 70 cs) : ∃ t : Ct, cs = t.pcs ∧ t.vs.length ≤ N ∧ ∀ x ∈ t.vs, x.sig.length ≤ N := by
  obtain ⟨fs0, f0, h01, h02, h03, h04, h05⟩ := tyField_run fd_70_0
  obtain ⟨fs1, f1, h11, h12, h13, h14, h15⟩ := tyField_run fd_70_1
  obtain ⟨fs2, f2, h21, h22, h23, h24, h25⟩ := tyField_run fd_70_2
  obtain ⟨fs3, f3, h31, h32, h33, h34, h35⟩ := tyField_run fd_70_3
  rw [h01] at h11 h21 h31
  cases h11
  cases h21
  cases h31
  have hct : Try.prog.cellsOf 70 = 4 := by kernel_rfl
  have hk0 : Try.prog.cellsOf 3 = 1 := by kernel_rfl
  have hk1 : Try.prog.cellsOf 9 = 1 := by kernel_rfl
  have hk2 : Try.prog.cellsOf 68 = 1 := by kernel_rfl
  cases n with
  | zero => exact hp.elim
  | succ n =>
    simp only [PTn, h01, hct] at hp
    obtain ⟨hl, hf⟩ := hp
    have q0 := hf f0 (List.mem_of_getElem? (i := 0) (by simpa using h02))
    rw [h03, h04, hk0] at q0
    have q1 := hf f1 (List.mem_of_getElem? (i := 1) (by simpa using h12))
    rw [h13, h14, hk0] at q1
    have q2 := hf f2 (List.mem_of_getElem? (i := 2) (by simpa using h22))
    rw [h23, h24, hk1] at q2
    have q3 := hf f3 (List.mem_of_getElem? (i := 3) (by simpa using h32))
    rw [h33, h34, hk2] at q3
    match cs, hl with
    | [c0, c1, c2, c3], _ =>
      obtain ⟨a, rfl⟩ := int_cellN (c := c0) q0
      obtain ⟨b, rfl⟩ := int_cellN (c := c1) q1
      obtain ⟨s, rfl, hs⟩ := str_cellN (c := c2) q2
      obtain ⟨l, rfl, hl, hm⟩ := vos_cellN (c := c3) q3
      exact ⟨⟨a, b, s, l⟩, rfl, hl, hm⟩
set_option maxRecDepth 100000 in
theorem bk_cells {N n : Nat} {cs : List PC} (hp : PTn Try.prog N n 72 cs) : ∃ t : Blk, cs = t.pcs ∧ t.txs.length ≤ N ∧ t.ju.vs.length ≤ N ∧ t.sig.length ≤ N ∧ ∀ x ∈ t.txs, x.sig.length ≤ N := by
  obtain ⟨fs0, f0, h01, h02, h03, h04, h05⟩ := tyField_run fd_72_0
  obtain ⟨fs1, f1, h11, h12, h13, h14, h15⟩ := tyField_run fd_72_1
  obtain ⟨fs2, f2, h21, h22, h23, h24, h25⟩ := tyField_run fd_72_2
  obtain ⟨fs3, f3, h31, h32, h33, h34, h35⟩ := tyField_run fd_72_3
  obtain ⟨fs4, f4, h41, h42, h43, h44, h45⟩ := tyField_run fd_72_4
  obtain ⟨fs5, f5, h51, h52, h53, h54, h55⟩ := tyField_run fd_72_5
  rw [h01] at h11 h21 h31 h41 h51
  cases h11
  cases h21
  cases h31
  cases h41
  cases h51
  have hct : Try.prog.cellsOf 72 = 9 := by kernel_rfl
  have hk0 : Try.prog.cellsOf 3 = 1 := by kernel_rfl
  have hk1 : Try.prog.cellsOf 9 = 1 := by kernel_rfl
  have hk2 : Try.prog.cellsOf 70 = 4 := by kernel_rfl
  have hk3 : Try.prog.cellsOf 50 = 1 := by kernel_rfl
  cases n with
  | zero => exact hp.elim
  | succ n =>
    simp only [PTn, h01, hct] at hp
    obtain ⟨hl, hf⟩ := hp
    have q0 := hf f0 (List.mem_of_getElem? (i := 0) (by simpa using h02))
    rw [h03, h04, hk0] at q0
    have q1 := hf f1 (List.mem_of_getElem? (i := 1) (by simpa using h12))
    rw [h13, h14, hk0] at q1
    have q2 := hf f2 (List.mem_of_getElem? (i := 2) (by simpa using h22))
    rw [h23, h24, hk1] at q2
    have q3 := hf f3 (List.mem_of_getElem? (i := 3) (by simpa using h32))
    rw [h33, h34, hk2] at q3
    have q4 := hf f4 (List.mem_of_getElem? (i := 4) (by simpa using h42))
    rw [h43, h44, hk3] at q4
    have q5 := hf f5 (List.mem_of_getElem? (i := 5) (by simpa using h52))
    rw [h53, h54, hk1] at q5
    match cs, hl with
    | [c0, c1, c2, c3, c4, c5, c6, c7, c8], _ =>
      obtain ⟨a, rfl⟩ := int_cellN (c := c0) q0
      obtain ⟨b, rfl⟩ := int_cellN (c := c1) q1
      obtain ⟨p, rfl, hp1⟩ := str_cellN (c := c2) q2
      obtain ⟨j, hj, hj1, hj2⟩ := ct_cells (cs := [c3, c4, c5, c6]) q3
      obtain ⟨l, rfl, hl2, hm⟩ := txs_cellN (c := c7) q4
      obtain ⟨u, rfl, hu⟩ := str_cellN (c := c8) q5
      exact ⟨⟨a, b, p, j, l, u⟩, by obtain ⟨j1, j2, j3, j4⟩ := j; simp only [Ct.pcs, List.cons.injEq, and_true] at hj; obtain ⟨rfl, rfl, rfl, rfl⟩ := hj; rfl, hl2, hj1, hu, hm⟩
set_option maxRecDepth 100000 in
theorem bytes_ofN {N : Nat} {x : AV} (h : AVTn Try.prog N 25 x) : ∃ b : List UInt8, x = .c (.sl (bytes b)) ∧ b.length ≤ N := by
  obtain ⟨n, cs, hp, hx⟩ := h
  have u3 : Try.prog.underlying 25 = some (.slice 5) := by kernel_rfl
  have u4 : Try.prog.underlying 5 = some (.int .u8) := by kernel_rfl
  rw [u3] at hx
  obtain ⟨c, rfl, rfl⟩ := hx
  cases n with
  | zero => exact hp.elim
  | succ n =>
    simp only [PTn, u3] at hp
    obtain ⟨rows, hv, hl, hr⟩ := hp
    cases hv
    have key : ∀ rows : List (List PC), (∀ r ∈ rows, PTn Try.prog N n 5 r) → ∃ l : List UInt8, rows = bytes l := by
      intro rows
      induction rows with
      | nil => intro _; exact ⟨[], rfl⟩
      | cons r rows ih =>
        intro h
        obtain ⟨l, hl1⟩ := ih fun r hr => h r (by simp [hr])
        have h0 := h r (by simp)
        cases n with
        | zero => exact h0.elim
        | succ n =>
          simp only [PTn, u4] at h0
          obtain ⟨v, rfl, hw⟩ := h0
          simp [Lit.wf, IntKind.min, IntKind.max, IntKind.bits, IntKind.signed] at hw
          refine ⟨UInt8.ofNat v.toNat :: l, ?_⟩
          rw [hl1]
          show _ = [PC.int .u8 ((UInt8.ofNat v.toNat).toNat : Int)] :: bytes l
          rw [UInt8.toNat_ofNat_of_lt' (by show _ < 256; omega), show ((v.toNat : Nat) : Int) = v from by omega]
    obtain ⟨l, rfl⟩ := key rows hr
    exact ⟨l, rfl, by rw [bytes_length] at hl; exact hl⟩
noncomputable def Y1 : FuncId → Contract := (ext (ext (ext (ext (ext (ext (ext (ext (ext (ext (ext (ext (ext (ext (ext (ext (ext (ext none0 120 faultC) 57 putC) 69 getC) 93 cloneC) 43 newC) 124 readyC) 127 stopC) 85 errC) 128 abC) 129 tkC) 97 replC) 76 clientC) 159 cmkC) 144 eqVC) 158 eqTC) 89 smVC) 125 smTC) 78 genC)
theorem Y1_sound : SoundG Try.prog Y1 := (ext_sound (ext_sound (ext_sound (ext_sound (ext_sound (ext_sound (ext_sound (ext_sound (ext_sound (ext_sound (ext_sound (ext_sound (ext_sound (ext_sound (ext_sound (ext_sound (ext_sound (ext_sound none0_sound fault_sound) put_sound) get_sound) clone_sound) new_sound) ready_sound) stop_sound) err_sound) ab_sound) tk_sound) repl_sound) client_sound) cmk_sound) eqV_sound) eqT_sound) smV_sound) smT_sound) refGen_sound)
noncomputable def Y2 : FuncId → Contract := (ext (ext (ext (ext (ext (ext (ext (ext (ext (ext Y1 80 numC) 83 textC) 45 doneC) 126 takeC) 47 openC) 86 leftC) 96 voCkC) 90 txCkC) 143 scPC) 88 scRC)
theorem Y2_sound : SoundG Try.prog Y2 := (ext_sound (ext_sound (ext_sound (ext_sound (ext_sound (ext_sound (ext_sound (ext_sound (ext_sound (ext_sound Y1_sound (num_sound Y1_sound rfl rfl)) (text_sound Y1_sound rfl rfl)) (done_sound Y1_sound rfl)) (take_sound Y1_sound rfl)) (open_sound Y1_sound rfl)) (left_sound Y1_sound rfl)) (voCk_sound Y1_sound rfl rfl rfl)) (txCk_sound Y1_sound rfl)) (scP_sound Y1_sound rfl rfl)) (scR_sound Y1_sound rfl))
noncomputable def Y3 : FuncId → Contract := (ext (ext (ext (ext (ext (ext (ext (ext Y2 95 rdNumC) 94 rdTextC) 99 voTxC) 92 txtC) 155 oddTC) 140 odmC) 142 sbPC) 87 sbRC)
theorem Y3_sound : SoundG Try.prog Y3 := (ext_sound (ext_sound (ext_sound (ext_sound (ext_sound (ext_sound (ext_sound (ext_sound Y2_sound (rdNum_sound Y2_sound rfl rfl rfl rfl)) (rdText_sound Y2_sound rfl rfl rfl rfl)) (voTx_sound Y2_sound rfl rfl)) (txt_sound Y2_sound rfl rfl)) (oddT_sound Y2_sound rfl)) (odm_sound Y2_sound rfl)) (sbP_sound Y2_sound rfl rfl)) (sbR_sound Y2_sound rfl rfl))
noncomputable def Y4 : FuncId → Contract := (ext (ext (ext (ext (ext (ext (ext (ext Y3 53 voPutC) 44 txPutC) 55 voRdC) 46 txRdC) 163 ckTIC) 164 odVIC) 119 smPC) 40 smRC)
theorem Y4_sound : SoundG Try.prog Y4 := (ext_sound (ext_sound (ext_sound (ext_sound (ext_sound (ext_sound (ext_sound (ext_sound Y3_sound (voPut_sound Y3_sound rfl rfl)) (txPut_sound Y3_sound rfl rfl)) (voRd_sound Y3_sound rfl rfl rfl rfl)) (txRd_sound Y3_sound rfl rfl rfl rfl)) (ckTI_sound Y3_sound rfl)) (odVI_sound Y3_sound rfl)) (smP_sound Y3_sound rfl rfl rfl)) (smR_sound Y3_sound rfl rfl rfl))
noncomputable def Y5 : FuncId → Contract := (ext (ext (ext (ext (ext Y4 156 ckTFC) 157 odVFC) 82 ctPutC) 123 ctRdC) 121 bkTxC)
theorem Y5_sound : SoundG Try.prog Y5 := (ext_sound (ext_sound (ext_sound (ext_sound (ext_sound Y4_sound (ckTF_sound Y4_sound rfl)) (odVF_sound Y4_sound rfl)) (ctPut_sound Y4_sound rfl rfl rfl)) (ctRd_sound Y4_sound rfl rfl rfl rfl)) (bkTx_sound Y4_sound rfl rfl rfl))
noncomputable def Y6 : FuncId → Contract := (ext (ext (ext (ext Y5 138 bkCkC) 139 votdC) 81 bkPutC) 145 fldsC)
theorem Y6_sound : SoundG Try.prog Y6 := (ext_sound (ext_sound (ext_sound (ext_sound Y5_sound (bkCk_sound Y5_sound rfl)) (votd_sound Y5_sound rfl)) (bkPut_sound Y5_sound rfl rfl rfl)) (flds_sound Y5_sound rfl rfl rfl rfl))
noncomputable def Y7 : FuncId → Contract := (ext (ext Y6 141 cefC) 122 bkRdC)
theorem Y7_sound : SoundG Try.prog Y7 := (ext_sound (ext_sound Y6_sound (cef_sound Y6_sound rfl)) (bkRd_sound Y6_sound rfl rfl rfl rfl))
noncomputable def Y8 : FuncId → Contract := (ext (ext Y7 118 bareC) 84 msRdC)
theorem Y8_sound : SoundG Try.prog Y8 := (ext_sound (ext_sound Y7_sound (bare_sound Y7_sound rfl rfl rfl rfl rfl)) (msRd_sound Y7_sound rfl rfl rfl rfl rfl rfl))
noncomputable def Y9 : FuncId → Contract := (ext Y8 79 msCkC)
theorem Y9_sound : SoundG Try.prog Y9 := (ext_sound Y8_sound (msCk_sound Y8_sound rfl rfl))
noncomputable def YA : FuncId → Contract := (ext (ext Y9 38 msPutC) 39 msGetC)
theorem YA_sound : SoundG Try.prog YA := (ext_sound (ext_sound Y9_sound (msPut_sound Y9_sound rfl rfl rfl rfl rfl rfl rfl rfl rfl)) (msGet_sound Y9_sound rfl rfl rfl rfl rfl))
noncomputable def YB : FuncId → Contract := (ext YA 37 alive11C)
theorem YB_sound : SoundG Try.prog YB := (ext_sound YA_sound (alive11_sound YA_sound rfl rfl))
def Msg.pcs (m : Msg) : List PC := [.int .i64 m.kd, .int .i64 m.bk.vw, .int .i64 m.bk.ht, .str m.bk.pa, .int .i64 m.bk.ju.vw, .int .i64 m.bk.ju.ht, .str m.bk.ju.bl, .sl (votes m.bk.ju.vs), .sl (trows m.bk.txs), .str m.bk.sig, .int .i64 m.vo.kd, .int .i64 m.vo.vw, .int .i64 m.vo.ht, .str m.vo.bl, .int .i64 m.vo.tk, .int .i64 m.vo.sg, .str m.vo.sig, .int .i64 m.ct.vw, .int .i64 m.ct.ht, .str m.ct.bl, .sl (votes m.ct.vs), .sl (votes m.bs), .str m.ak, .int .i64 m.tx.fr, .int .i64 m.tx.to, .int .i64 m.tx.am, .int .i64 m.tx.no, .str m.tx.sig]
set_option maxRecDepth 100000 in
theorem ms_cells {N n : Nat} {cs : List PC} (hp : PTn Try.prog N n 76 cs) : ∃ m : Msg, cs = m.pcs ∧ m.bk.txs.length ≤ N ∧ m.bk.ju.vs.length ≤ N ∧ m.ct.vs.length ≤ N ∧ m.bs.length ≤ N := by
  obtain ⟨fs0, f0, h01, h02, h03, h04, h05⟩ := tyField_run fd_76_0
  obtain ⟨fs1, f1, h11, h12, h13, h14, h15⟩ := tyField_run fd_76_1
  obtain ⟨fs2, f2, h21, h22, h23, h24, h25⟩ := tyField_run fd_76_2
  obtain ⟨fs3, f3, h31, h32, h33, h34, h35⟩ := tyField_run fd_76_3
  obtain ⟨fs4, f4, h41, h42, h43, h44, h45⟩ := tyField_run fd_76_4
  obtain ⟨fs5, f5, h51, h52, h53, h54, h55⟩ := tyField_run fd_76_5
  obtain ⟨fs6, f6, h61, h62, h63, h64, h65⟩ := tyField_run fd_76_6
  rw [h01] at h11 h21 h31 h41 h51 h61
  cases h11
  cases h21
  cases h31
  cases h41
  cases h51
  cases h61
  have hct : Try.prog.cellsOf 76 = 28 := by kernel_rfl
  have hk0 : Try.prog.cellsOf 3 = 1 := by kernel_rfl
  have hk1 : Try.prog.cellsOf 72 = 9 := by kernel_rfl
  have hk2 : Try.prog.cellsOf 74 = 7 := by kernel_rfl
  have hk3 : Try.prog.cellsOf 70 = 4 := by kernel_rfl
  have hk4 : Try.prog.cellsOf 68 = 1 := by kernel_rfl
  have hk5 : Try.prog.cellsOf 9 = 1 := by kernel_rfl
  have hk6 : Try.prog.cellsOf 54 = 5 := by kernel_rfl
  cases n with
  | zero => exact hp.elim
  | succ n =>
    simp only [PTn, h01, hct] at hp
    obtain ⟨hl, hf⟩ := hp
    have q0 := hf f0 (List.mem_of_getElem? (i := 0) (by simpa using h02))
    rw [h03, h04, hk0] at q0
    have q1 := hf f1 (List.mem_of_getElem? (i := 1) (by simpa using h12))
    rw [h13, h14, hk1] at q1
    have q2 := hf f2 (List.mem_of_getElem? (i := 2) (by simpa using h22))
    rw [h23, h24, hk2] at q2
    have q3 := hf f3 (List.mem_of_getElem? (i := 3) (by simpa using h32))
    rw [h33, h34, hk3] at q3
    have q4 := hf f4 (List.mem_of_getElem? (i := 4) (by simpa using h42))
    rw [h43, h44, hk4] at q4
    have q5 := hf f5 (List.mem_of_getElem? (i := 5) (by simpa using h52))
    rw [h53, h54, hk5] at q5
    have q6 := hf f6 (List.mem_of_getElem? (i := 6) (by simpa using h62))
    rw [h63, h64, hk6] at q6
    match cs, hl with
    | [c0, c1, c2, c3, c4, c5, c6, c7, c8, c9, c10, c11, c12, c13, c14, c15, c16, c17, c18, c19, c20, c21, c22, c23, c24, c25, c26, c27], _ =>
      obtain ⟨a, rfl⟩ := int_cellN (c := c0) q0
      obtain ⟨b, hb, hb1, hb2, hb3⟩ := bk_cells (cs := [c1, c2, c3, c4, c5, c6, c7, c8, c9]) q1
      obtain ⟨v, hv, hv1⟩ := vo_cells (cs := [c10, c11, c12, c13, c14, c15, c16]) q2
      obtain ⟨c, hc, hc1, hc2⟩ := ct_cells (cs := [c17, c18, c19, c20]) q3
      obtain ⟨l, rfl, hl1, hm⟩ := vos_cellN (c := c21) q4
      obtain ⟨s, rfl, hs⟩ := str_cellN (c := c22) q5
      obtain ⟨t, ht, ht1⟩ := tx_cells (cs := [c23, c24, c25, c26, c27]) q6
      exact ⟨⟨a, b, v, c, l, s, t⟩, by obtain ⟨b1, b2, b3, ⟨j1, j2, j3, j4⟩, b5, b6⟩ := b; obtain ⟨v1, v2, v3, v4, v5, v6, v7⟩ := v; obtain ⟨c1', c2', c3', c4'⟩ := c; obtain ⟨t1, t2, t3, t4, t5⟩ := t; simp only [Blk.pcs, List.cons.injEq, and_true] at hb; obtain ⟨rfl, rfl, rfl, rfl, rfl, rfl, rfl, rfl, rfl⟩ := hb; simp only [Vt.pcs, List.cons.injEq, and_true] at hv; obtain ⟨rfl, rfl, rfl, rfl, rfl, rfl, rfl⟩ := hv; simp only [Ct.pcs, List.cons.injEq, and_true] at hc; obtain ⟨rfl, rfl, rfl, rfl⟩ := hc; simp only [Txn.pcs, List.cons.injEq, and_true] at ht; obtain ⟨rfl, rfl, rfl, rfl, rfl⟩ := ht; rfl, hb1, hb2, hc1, hl1⟩
set_option maxRecDepth 100000 in
theorem ms_ofN {N : Nat} {x : AV} (h : AVTn Try.prog N 76 x) : ∃ m : Msg, x = m.av ∧ m.bk.txs.length ≤ N ∧ m.bk.ju.vs.length ≤ N ∧ m.ct.vs.length ≤ N ∧ m.bs.length ≤ N := by
  obtain ⟨n, cs, hp, hx⟩ := h
  obtain ⟨fs, f0, h1, _⟩ := tyField_run fd_76_0
  rw [h1] at hx
  obtain ⟨m, rfl, hm⟩ := ms_cells hp
  exact ⟨m, hx, hm⟩
set_option maxRecDepth 100000 in
theorem messageBack_lifted (os : Os) (started : os.Started) (H : Type) (enc : TypeId × Value → H) :
    ReturnsInHanded {} Try.checked os 8 .any (Rows.messageBackSpec.pre6 enc Try.prog Try.f8 Rows.messageBackRow.domain false) (Rows.messageBackSpec.post enc Try.prog Try.f8 false true false false) := by
  refine returnsInHanded_of_change_sized (C := Try.checked) ownK started (by kernel_rfl) Try.func8
    (ChangeSpec.witness6 (enc := enc) (C := Try.checked) false ⟨#[], #[.agg #[.int .i64 0, .int .i64 0, .int .i64 0, .string ⟨#[]⟩, .int .i64 0, .int .i64 0, .string ⟨#[]⟩, .slice none 0 0, .slice none 0 0, .string ⟨#[]⟩, .int .i64 0, .int .i64 0, .int .i64 0, .string ⟨#[]⟩, .int .i64 0, .int .i64 0, .string ⟨#[]⟩, .int .i64 0, .int .i64 0, .string ⟨#[]⟩, .slice none 0 0, .slice none 0 0, .string ⟨#[]⟩, .int .i64 0, .int .i64 0, .int .i64 0, .int .i64 0, .string ⟨#[]⟩], .slice none 0 0], []⟩ 8 (by kernel_rfl) (by kernel_rfl) (by kernel_rfl) (by kernel_rfl)) ?_
  intro W base args ds gs before hval hW hcnd hsz _
  refine law_doneN (N := maxLen) laid (msBack_sound YB_sound rfl rfl rfl rfl) rfl (ts := [76, 25]) (by kernel_rfl) (tb := 4) (by kernel_rfl) (by kernel_rfl) ?_ ?_ ?_ ?_ hval hW (.inl (Nat.le_refl _))
  · intro t ht; simp only [List.mem_cons, List.not_mem_nil, or_false] at ht; rcases ht with rfl | rfl <;> kernel_rfl
  · intro t ht; simp only [List.mem_cons, List.not_mem_nil, or_false] at ht; rcases ht with rfl | rfl <;> exact ⟨by kernel_rfl, of_decide_eq_true (by kernel_rfl)⟩
  · intro ds hd
    match ds, hd with
    | [a, b], _ => rfl
  · intro xs hxs
    match xs, hxs with
    | [x, y], h =>
      obtain ⟨h1, h2, _⟩ := h
      obtain ⟨m, rfl, m1, m2, m3, m4⟩ := ms_ofN h1
      obtain ⟨b, rfl, b1⟩ := bytes_ofN h2
      exact mkC_at (α := Msg × List UInt8) (m, b) ⟨⟨⟨Nat.le_trans m1 (by decide), Nat.le_trans m2 (by decide)⟩, Nat.le_trans m3 (by decide), Nat.le_trans m4 (by decide)⟩, Nat.le_trans b1 (by decide)⟩ (fun _ _ _ _ => rfl)
    | [], h => exact h.elim
    | [_], h => exact h.2.elim
    | _ :: _ :: _ :: _, h => exact h.2.2.elim


set_option maxRecDepth 100000 in
theorem messageCuts_lifted (os : Os) (started : os.Started) (H : Type) (enc : TypeId × Value → H) (F : Stop.Interp) :
    ReturnsInHanded {} Try.checked os 9 .any ((Rows.OpenSpec.upto Rows.messageCutsSpec).pre6 enc Try.prog Try.f9 Rows.messageCutsUptoRow.domain false) (((Rows.OpenSpec.upto Rows.messageCutsSpec).at F).post enc Try.prog Try.f9 false true false false) := by
  refine returnsInHanded_of_cond (C := Try.checked) (k := Rows.uptoSmall) rfl ownK started (by kernel_rfl) Try.func9
    (OpenSpec.witness (enc := enc) (C := Try.checked) (k := Rows.uptoSmall) rfl false ⟨#[], #[.agg #[.int .i64 0, .int .i64 0, .int .i64 0, .string ⟨#[]⟩, .int .i64 0, .int .i64 0, .string ⟨#[]⟩, .slice none 0 0, .slice none 0 0, .string ⟨#[]⟩, .int .i64 0, .int .i64 0, .int .i64 0, .string ⟨#[]⟩, .int .i64 0, .int .i64 0, .string ⟨#[]⟩, .int .i64 0, .int .i64 0, .string ⟨#[]⟩, .slice none 0 0, .slice none 0 0, .string ⟨#[]⟩, .int .i64 0, .int .i64 0, .int .i64 0, .int .i64 0, .string ⟨#[]⟩], .int .i64 0, .slice none 0 0], []⟩ 8 (by kernel_rfl) (by kernel_rfl) (by kernel_rfl) (x := ([.agg [.lit (.int .i64 0), .agg [.lit (.int .i64 0), .lit (.int .i64 0), .lit (.string []), .agg [.lit (.int .i64 0), .lit (.int .i64 0), .lit (.string []), .nil], .nil, .lit (.string [])], .agg [.lit (.int .i64 0), .lit (.int .i64 0), .lit (.int .i64 0), .lit (.string []), .lit (.int .i64 0), .lit (.int .i64 0), .lit (.string [])], .agg [.lit (.int .i64 0), .lit (.int .i64 0), .lit (.string []), .nil], .nil, .lit (.string []), .agg [.lit (.int .i64 0), .lit (.int .i64 0), .lit (.int .i64 0), .lit (.int .i64 0), .lit (.string [])]], .lit (.int .i64 0), .nil], [], [])) (by kernel_rfl) (by kernel_rfl) (by kernel_rfl)) ?_
  intro W base args ds gs before hval hW hcnd hkk _
  refine law_doneN (N := 1048576) laid (msCuts_sound YB_sound rfl rfl rfl) rfl (ts := [76, 3, 25]) (by kernel_rfl) (tb := 4) (by kernel_rfl) (by kernel_rfl) ?_ ?_ ?_ ?_ hval hW (.inr (bulk_le hkk))
  · intro t ht; simp only [List.mem_cons, List.not_mem_nil, or_false] at ht; rcases ht with rfl | rfl | rfl <;> kernel_rfl
  · intro t ht; simp only [List.mem_cons, List.not_mem_nil, or_false] at ht; rcases ht with rfl | rfl | rfl <;> exact ⟨by kernel_rfl, of_decide_eq_true (by kernel_rfl)⟩
  · intro ds hd
    match ds, hd with
    | [a, b, c], _ => rfl
  · intro xs hxs
    match xs, hxs with
    | [x, y, z], h =>
      obtain ⟨h1, h2, h3, _⟩ := h
      obtain ⟨m, rfl, m1, m2, m3, m4⟩ := ms_ofN h1
      obtain ⟨c, rfl, c1, c2⟩ := int_ofN h2
      obtain ⟨b, rfl, b1⟩ := bytes_ofN h3
      exact mkC_at (α := Msg × Int × List UInt8) (m, c, b) ⟨⟨⟨by show m.bk.txs.length ≤ _; omega, by show m.bk.ju.vs.length ≤ _; omega⟩, by show m.ct.vs.length ≤ _; omega, by show m.bs.length ≤ _; omega⟩, by show b.length ≤ _; omega⟩ (fun _ _ _ _ => rfl)
    | [], h => exact h.elim
    | [_], h => exact h.2.elim
    | [_, _], h => exact h.2.2.elim
    | _ :: _ :: _ :: _ :: _, h => exact h.2.2.2.elim


end Go.Proofs.Ytldehcnaepgamaa.AM

namespace Go.Proofs.Ytldehcnaepgamaa
open Go

theorem messageBack_over : Rows.messageBackRow.holds Try.pinned (OpenSpec.ofChange Rows.messageBackSpec) :=
  OpenClaim.holds_of_wide 8 Try.f8 rfl rfl rfl rfl rfl rfl rfl ⟨rfl, rfl, rfl, rfl, rfl⟩ rfl rfl rfl rfl rfl (by kernel_rfl) Try.func8 (by kernel_rfl)
    (of_decide_eq_true (by kernel_rfl)) (by unfold Func.isWrapper; first | (rw [if_pos (by decide +kernel)]; kernel_rfl) | (rw [if_neg (by decide +kernel)]; exact ⟨rfl, rfl⟩))
    (fun os started H enc _ => AM.messageBack_lifted os started H enc)
theorem messageCuts_over : Rows.messageCutsUptoRow.holds Try.pinned (Rows.OpenSpec.upto Rows.messageCutsSpec) :=
  OpenClaim.holds_of_cond 9 Try.f9 rfl rfl rfl rfl rfl rfl rfl ⟨rfl, rfl, rfl, rfl, rfl⟩ rfl rfl rfl rfl rfl (by kernel_rfl) Try.func9 (by kernel_rfl)
    (of_decide_eq_true (by kernel_rfl)) (by unfold Func.isWrapper; first | (rw [if_pos (by decide +kernel)]; kernel_rfl) | (rw [if_neg (by decide +kernel)]; exact ⟨rfl, rfl⟩))
    (fun os started H enc _ F => by rw [OpenClaim.pre_of_none' rfl]; exact AM.messageCuts_lifted os started H enc F)

/-- The rows. -/
theorem messageBack_holds : Rows.MessageBackSaid := messageBack_over
#print axioms messageBack_holds
theorem messageCuts_holds : Rows.MessageCutsUptoSaid := messageCuts_over
#print axioms messageCuts_holds
end Go.Proofs.Ytldehcnaepgamaa
