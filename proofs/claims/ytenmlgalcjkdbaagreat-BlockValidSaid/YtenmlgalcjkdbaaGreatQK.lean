/-
  QK: Bv8.
-/
import Derived.Test.YtenmlgalcjkdbaaGreatQ9
import Derived.Test.YtenmlgalcjkdbaaGreatQB
import Derived.Test.YtenmlgalcjkdbaaGreatQJ
set_option linter.unusedVariables false
set_option linter.unusedSimpArgs false
namespace Go.Proofs.YtenmlgalcjkdbaaGreat.AM
open Go

variable {Γ : FuncId → Contract}

noncomputable def K1 : FuncId → Contract := (ext (ext (ext (ext (ext (ext M10 104 faultC) 54 cloneC) 13 newC) 145 clientC) 132 repC) 10 txCkC)
theorem K1_sound : SoundG Tryz.prog K1 := (ext_sound (ext_sound (ext_sound (ext_sound (ext_sound (ext_sound M10_sound fault_sound) clone_sound) new_sound) client_sound) rep_sound) refTxCk_sound)
noncomputable def K2 : FuncId → Contract := (ext (ext (ext (ext (ext (ext K1 101 numC) 53 textC) 15 doneC) 93 txCkC) 81 cfirstC) 57 bkCkC)
theorem K2_sound : SoundG Tryz.prog K2 := (ext_sound (ext_sound (ext_sound (ext_sound (ext_sound (ext_sound K1_sound (num_sound K1_sound rfl rfl)) (text_sound K1_sound rfl rfl)) (done_sound K1_sound rfl)) (txCk_sound K1_sound rfl)) (cfirst_sound K1_sound rfl)) (refBkCk_sound K1_sound rfl))
noncomputable def K3 : FuncId → Contract := (ext (ext (ext K2 151 txtC) 92 oddTC) 42 genC)
theorem K3_sound : SoundG Tryz.prog K3 := (ext_sound (ext_sound (ext_sound K2_sound (txt_sound K2_sound rfl rfl)) (oddT_sound K2_sound rfl)) (gen_sound K2_sound rfl))
noncomputable def K4 : FuncId → Contract := (ext (ext K3 102 txPutC) 122 ckTIC)
theorem K4_sound : SoundG Tryz.prog K4 := (ext_sound (ext_sound K3_sound (txPut_sound K3_sound rfl rfl)) (ckTI_sound K3_sound rfl))
noncomputable def K5 : FuncId → Contract := (ext (ext K4 66 ckTFC) 51 bkTxC)
theorem K5_sound : SoundG Tryz.prog K5 := (ext_sound (ext_sound K4_sound (ckTF_sound K4_sound rfl)) (bkTx_sound K4_sound rfl rfl rfl))
noncomputable def K6 : FuncId → Contract := (ext K5 45 bkCkC)
theorem K6_sound : SoundG Tryz.prog K6 := (ext_sound K5_sound (bkCk_sound K5_sound rfl))
noncomputable def K7 : FuncId → Contract := (ext K6 56 bkTC)
theorem K7_sound : SoundG Tryz.prog K7 := (ext_sound K6_sound (bkT_sound K6_sound rfl rfl rfl rfl))
noncomputable def K8 : FuncId → Contract := (ext K7 16 bkNC)
theorem K8_sound : SoundG Tryz.prog K8 := (ext_sound K7_sound (bkN_sound K7_sound rfl rfl rfl))
noncomputable def N1 : FuncId → Contract := (ext (ext (ext (ext K8 9 genC) 160 rNumC) 161 rTextC) 110 rDoneC)
theorem N1_sound : SoundG Tryz.prog N1 := (ext_sound (ext_sound (ext_sound (ext_sound K8_sound refGen_sound) (rNum_sound K8_sound rfl)) (rText_sound K8_sound rfl)) rDone_sound)
noncomputable def N2 : FuncId → Contract := (ext N1 198 rTxFC)
theorem N2_sound : SoundG Tryz.prog N2 := (ext_sound N1_sound (rTxF_sound N1_sound rfl rfl))
noncomputable def N3 : FuncId → Contract := (ext N2 162 rTxPC)
theorem N3_sound : SoundG Tryz.prog N3 := (ext_sound N2_sound (rTxP_sound N2_sound rfl rfl))
noncomputable def N4 : FuncId → Contract := (ext N3 111 rBkFC)
theorem N4_sound : SoundG Tryz.prog N4 := (ext_sound N3_sound (rBkF_sound N3_sound rfl rfl rfl))
noncomputable def N5 : FuncId → Contract := (ext N4 59 bkTC)
theorem N5_sound : SoundG Tryz.prog N5 := (ext_sound N4_sound (rBkT_sound N4_sound rfl rfl rfl))
noncomputable def NA : FuncId → Contract := (ext N5 17 bkNC)
theorem NA_sound : SoundG Tryz.prog NA := (ext_sound N5_sound (rBkN_sound N5_sound rfl rfl rfl))
noncomputable def U1 : FuncId → Contract := (ext (ext (ext (ext (ext (ext (ext (ext (ext (ext (ext (ext (ext (ext (ext (ext (ext (ext (ext (ext NA 199 shortC) 195 short1C) 201 digC) 196 partC) 164 sizeGC) 113 getC) 165 chkC) 206 abC) 207 tkC) 43 replC) 125 voCkC) 152 voTxC) 169 vAbC) 120 abtC) 80 cmkC) 41 ldC) 89 ldC) 123 txTC) 174 rVoFC) 141 txTC)
theorem U1_sound : SoundG Tryz.prog U1 := (ext_sound (ext_sound (ext_sound (ext_sound (ext_sound (ext_sound (ext_sound (ext_sound (ext_sound (ext_sound (ext_sound (ext_sound (ext_sound (ext_sound (ext_sound (ext_sound (ext_sound (ext_sound (ext_sound (ext_sound NA_sound (short_sound NA_sound rfl)) (refShort_sound NA_sound rfl)) dig_sound) (refPar_sound NA_sound rfl)) sizeG_sound) get_sound) chk_sound) ab_sound) tk_sound) repl_sound) refVoCk_sound) (voTx_sound NA_sound rfl rfl)) vAb_sound) abt_sound) cmk_sound) ld_sound) rLd_sound) (txT_sound NA_sound rfl rfl rfl rfl)) (rVoF_sound NA_sound rfl rfl)) (rTxT_sound NA_sound rfl rfl))
noncomputable def U2 : FuncId → Contract := (ext (ext (ext (ext (ext (ext (ext (ext (ext (ext U1 144 endedC) 142 chainC) 197 chainC) 147 partC) 166 climbC) 139 climbC) 170 voCkC) 126 voTC) 168 abtIC) 7 alive10C)
theorem U2_sound : SoundG Tryz.prog U2 := (ext_sound (ext_sound (ext_sound (ext_sound (ext_sound (ext_sound (ext_sound (ext_sound (ext_sound (ext_sound U1_sound (ended_sound U1_sound rfl)) (chain_sound U1_sound rfl)) (refChain_sound U1_sound rfl)) (part_sound U1_sound rfl rfl rfl)) (climb_sound U1_sound rfl)) (refClimb_sound U1_sound rfl)) (voCk_sound U1_sound rfl rfl rfl)) (rVoT_sound U1_sound rfl rfl)) (abtI_sound U1_sound rfl)) (alive10_sound U1_sound rfl rfl))
noncomputable def U3 : FuncId → Contract := (ext (ext (ext U2 167 opnC) 140 opnC) 171 voTC)
theorem U3_sound : SoundG Tryz.prog U3 := (ext_sound (ext_sound (ext_sound U2_sound (opn_sound U2_sound rfl rfl rfl)) (refOpn_sound U2_sound rfl rfl rfl)) (voT_sound U2_sound rfl rfl rfl rfl))
noncomputable def U4 : FuncId → Contract := (ext (ext U3 119 sverC) 88 sverC)
theorem U4_sound : SoundG Tryz.prog U4 := (ext_sound (ext_sound U3_sound (sver_sound U3_sound rfl rfl rfl rfl rfl)) (rVer_sound U3_sound rfl rfl))
noncomputable def U5 : FuncId → Contract := (ext (ext (ext (ext (ext U4 121 voVaC) 68 txVaC) 72 voVaC) 90 txVaC) 64 sgdC)
theorem U5_sound : SoundG Tryz.prog U5 := (ext_sound (ext_sound (ext_sound (ext_sound (ext_sound U4_sound (voVa_sound U4_sound rfl rfl rfl)) (txVa_sound U4_sound rfl rfl rfl)) (rVoVa_sound U4_sound rfl rfl rfl)) (rTxVa_sound U4_sound rfl rfl rfl)) (sgd_sound U4_sound rfl rfl rfl))
noncomputable def U6 : FuncId → Contract := (ext (ext (ext U5 65 ceckC) 26 ceckC) 67 vaTC)
theorem U6_sound : SoundG Tryz.prog U6 := (ext_sound (ext_sound (ext_sound U5_sound (ceck_sound U5_sound rfl rfl rfl rfl rfl)) (rCeck_sound U5_sound rfl rfl)) (vaT_sound U5_sound rfl))
noncomputable def U7 : FuncId → Contract := (ext (ext U6 122 vaTIC) 40 bVaC)
theorem U7_sound : SoundG Tryz.prog U7 := (ext_sound (ext_sound U6_sound (vaTI_sound U6_sound rfl)) (rBVa_sound U6_sound rfl rfl rfl rfl rfl rfl))
noncomputable def U8 : FuncId → Contract := (ext U7 66 vaTFC)
theorem U8_sound : SoundG Tryz.prog U8 := (ext_sound U7_sound (vaTF_sound U7_sound rfl))
noncomputable def U9 : FuncId → Contract := (ext U8 21 bVaC)
theorem U9_sound : SoundG Tryz.prog U9 := (ext_sound U8_sound (bVa_sound U8_sound rfl rfl rfl rfl))
set_option maxRecDepth 100000 in
theorem texts_cellN {N n : Nat} {c : PC} (hp : PTn Tryz.prog N n 24 [c]) : ∃ l : List (List UInt8), c = .sl (texts l) ∧ l.length ≤ N := by
  have u3 : Tryz.prog.underlying 24 = some (.slice 9) := by kernel_rfl
  cases n with
  | zero => exact hp.elim
  | succ n =>
    simp only [PTn, u3] at hp
    obtain ⟨rows, hv, hl, hr⟩ := hp
    cases hv
    have key : ∀ rows : List (List PC), (∀ r ∈ rows, PTn Tryz.prog N n 9 r) → ∃ l : List (List UInt8), rows = texts l := by
      intro rows
      induction rows with
      | nil => intro _; exact ⟨[], rfl⟩
      | cons r rows ih =>
        intro h
        obtain ⟨l, hl1⟩ := ih fun r hr => h r (by simp [hr])
        have h0 := h r (by simp)
        have u4 : Tryz.prog.underlying 9 = some .string := by kernel_rfl
        cases n with
        | zero => exact h0.elim
        | succ n =>
          simp only [PTn, u4] at h0
          obtain ⟨s, rfl, hs⟩ := h0
          exact ⟨s :: l, by rw [hl1]; rfl⟩
    obtain ⟨l, rfl⟩ := key rows hr
    exact ⟨l, rfl, by rw [texts_length] at hl; exact hl⟩
set_option maxRecDepth 100000 in
theorem cfg_cells {N n : Nat} {cs : List PC} (hp : PTn Tryz.prog N n 43 cs) : ∃ c : Cfg, cs = [.sl (texts c.ro), .sl (texts c.cl), .int .i64 c.q, .int .i64 c.ba, .int .i64 c.ca] ∧ c.ro.length ≤ N ∧ c.cl.length ≤ N := by
  obtain ⟨fs0, f0, h01, h02, h03, h04, h05⟩ := tyField_run fd_43_0
  obtain ⟨fs1, f1, h11, h12, h13, h14, h15⟩ := tyField_run fd_43_1
  obtain ⟨fs2, f2, h21, h22, h23, h24, h25⟩ := tyField_run fd_43_2
  obtain ⟨fs3, f3, h31, h32, h33, h34, h35⟩ := tyField_run fd_43_3
  obtain ⟨fs4, f4, h41, h42, h43, h44, h45⟩ := tyField_run fd_43_4
  rw [h01] at h11 h21 h31 h41
  cases h11
  cases h21
  cases h31
  cases h41
  have hct : Tryz.prog.cellsOf 43 = 5 := by kernel_rfl
  have hk0 : Tryz.prog.cellsOf 24 = 1 := by kernel_rfl
  have hk1 : Tryz.prog.cellsOf 3 = 1 := by kernel_rfl
  cases n with
  | zero => exact hp.elim
  | succ n =>
    simp only [PTn, h01, hct] at hp
    obtain ⟨hl, hf⟩ := hp
    have q0 := hf f0 (List.mem_of_getElem? (i := 0) (by simpa using h02))
    rw [h03, h04, hk0] at q0
    have q1 := hf f1 (List.mem_of_getElem? (i := 1) (by simpa using h12))
    rw [h13, h14, hk0] at q1
    have q2 := hf f2 (List.mem_of_getElem? (i := 2) (by simpa using h22))
    rw [h23, h24, hk1] at q2
    have q3 := hf f3 (List.mem_of_getElem? (i := 3) (by simpa using h32))
    rw [h33, h34, hk1] at q3
    have q4 := hf f4 (List.mem_of_getElem? (i := 4) (by simpa using h42))
    rw [h43, h44, hk1] at q4
    match cs, hl with
    | [c0, c1, c2, c3, c4], _ =>
      obtain ⟨a, rfl, ha⟩ := texts_cellN (c := c0) q0
      obtain ⟨b, rfl, hb⟩ := texts_cellN (c := c1) q1
      obtain ⟨c, rfl⟩ := int_cellN (c := c2) q2
      obtain ⟨d, rfl⟩ := int_cellN (c := c3) q3
      obtain ⟨e, rfl⟩ := int_cellN (c := c4) q4
      exact ⟨⟨a, b, c, d, e⟩, rfl, ha, hb⟩
set_option maxRecDepth 100000 in
theorem cfg_ofN {N : Nat} {x : AV} (h : AVTn Tryz.prog N 43 x) : ∃ c : Cfg, x = c.av ∧ c.ro.length ≤ N ∧ c.cl.length ≤ N := by
  obtain ⟨n, cs, hp, hx⟩ := h
  obtain ⟨fs, f0, h1, _⟩ := tyField_run fd_43_0
  rw [h1] at hx
  obtain ⟨c, rfl, hc⟩ := cfg_cells hp
  exact ⟨c, hx, hc⟩

set_option maxRecDepth 100000 in
theorem blockValid_lifted (os : Os) (started : os.Started) (H : Type) (enc : TypeId × Value → H) :
    ReturnsInHanded {} Tryz.checked os 6 .any (Rows.blockValidSpec.pre6 enc Tryz.prog Tryz.f6 Rows.blockValidRow.domain false) (Rows.blockValidSpec.post enc Tryz.prog Tryz.f6 false true false false) := by
  refine returnsInHanded_of_change_sized (C := Tryz.checked) ownK started (by kernel_rfl) Tryz.func6
    (ChangeSpec.witness6 (enc := enc) (C := Tryz.checked) false ⟨#[], #[.agg #[.int .i64 0, .int .i64 0, .string ⟨#[]⟩, .int .i64 0, .int .i64 0, .string ⟨#[]⟩, .slice none 0 0, .slice none 0 0, .string ⟨#[]⟩], .agg #[.slice none 0 0, .slice none 0 0, .int .i64 0, .int .i64 0, .int .i64 0]], []⟩ 8 (by kernel_rfl) (by kernel_rfl) (by kernel_rfl) (by kernel_rfl)) ?_
  intro W base args ds gs before hval hW hcnd hsz _
  refine law_doneN (N := maxLen) laid (bval_sound U9_sound rfl rfl rfl) rfl (ts := [33, 43]) (by kernel_rfl) (tb := 4) (by kernel_rfl) (by kernel_rfl) ?_ ?_ ?_ ?_ hval hW (.inl (Nat.le_refl _))
  · intro t ht; simp only [List.mem_cons, List.not_mem_nil, or_false] at ht; rcases ht with rfl | rfl <;> kernel_rfl
  · intro t ht; simp only [List.mem_cons, List.not_mem_nil, or_false] at ht; rcases ht with rfl | rfl <;> exact ⟨by kernel_rfl, of_decide_eq_true (by kernel_rfl)⟩
  · intro ds hd
    match ds, hd with
    | [a, b], _ => rfl
  · intro xs hxs
    match xs, hxs with
    | [x, y], h =>
      obtain ⟨h1, h2, _⟩ := h
      obtain ⟨b, rfl, b1, b2, _⟩ := bk_ofN h1
      obtain ⟨c, rfl, c1, c2⟩ := cfg_ofN h2
      exact mkC_at (α := Blk × Cfg) (b, c) ⟨Nat.le_trans b1 (by decide), Nat.le_trans b2 (by decide), Nat.le_trans c1 (by decide), Nat.le_trans c2 (by decide)⟩ (fun _ _ _ _ => rfl)
    | [], h => exact h.elim
    | [_], h => exact h.2.elim
    | _ :: _ :: _ :: _, h => exact h.2.2.elim


end Go.Proofs.YtenmlgalcjkdbaaGreat.AM

namespace Go.Proofs.YtenmlgalcjkdbaaGreat
open Go

theorem blockValid_over : Rows.blockValidRow.holds Tryz.pinned (OpenSpec.ofChange Rows.blockValidSpec) :=
  OpenClaim.holds_of_wide 6 Tryz.f6 rfl rfl rfl rfl rfl rfl rfl ⟨rfl, rfl, rfl, rfl, rfl⟩ rfl rfl rfl rfl rfl (by kernel_rfl) Tryz.func6 (by kernel_rfl)
    (of_decide_eq_true (by kernel_rfl)) (by unfold Func.isWrapper; first | (rw [if_pos (by decide +kernel)]; kernel_rfl) | (rw [if_neg (by decide +kernel)]; exact ⟨rfl, rfl⟩))
    (fun os started H enc _ => AM.blockValid_lifted os started H enc)

/-- The row. -/
theorem blockValid_holds : Rows.BlockValidSaid := blockValid_over
#print axioms blockValid_holds
end Go.Proofs.YtenmlgalcjkdbaaGreat
