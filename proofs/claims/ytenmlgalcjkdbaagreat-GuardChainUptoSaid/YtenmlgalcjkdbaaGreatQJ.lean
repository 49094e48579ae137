/-
  QJ: Gz1 GzA.
-/
import Derived.Test.YtenmlgalcjkdbaaGreatQ9
import Derived.Test.YtenmlgalcjkdbaaGreatQB
import Derived.Test.YtenmlgalcjkdbaaGreatQD
import Derived.Test.YtenmlgalcjkdbaaGreatQG
import Derived.Test.YtenmlgalcjkdbaaGreatQF
import Derived.Test.YtenmlgalcjkdbaaGreatQI
set_option linter.unusedVariables false
set_option linter.unusedSimpArgs false
namespace Go.Proofs.YtenmlgalcjkdbaaGreat.AM
open Go

variable {Γ : FuncId → Contract}

noncomputable def K1 : FuncId → Contract := (ext (ext (ext (ext (ext (ext M10 104 faultC) 54 cloneC) 13 newC) 145 clientC) 132 repC) 10 txCkC)
theorem K1_sound : SoundG Tryz.prog K1 := (ext_sound (ext_sound (ext_sound (ext_sound (ext_sound (ext_sound M10_sound fault_sound) clone_sound) new_sound) client_sound) rep_sound) refTxCk_sound)
noncomputable def K2 : FuncId → Contract := (ext (ext (ext (ext (ext (ext K1 101 numC) 53 textC) 15 doneC) 93 txCkC) 81 cfirstC) 57 bkCkC)
theorem K2_sound : SoundG Tryz.prog K2 := (ext_sound (ext_sound (ext_sound (ext_sound (ext_sound (ext_sound K1_sound (num_sound K1_sound rfl rfl)) (text_sound K1_sound rfl rfl)) (done_sound K1_sound rfl)) (txCk_sound K1_sound rfl)) (cfirst_sound K1_sound rfl)) (refBkCk_sound K1_sound rfl))
noncomputable def K3 : FuncId → Contract := (ext (ext (ext K2 151 txtC) 92 oddTC) 42 genC)
theorem K3_sound : SoundG Tryz.prog K3 := (ext_sound (ext_sound (ext_sound K2_sound (txt_sound K2_sound rfl rfl)) (oddT_sound K2_sound rfl)) (gen_sound K2_sound rfl))
noncomputable def K4 : FuncId → Contract := (ext (ext K3 102 txPutC) 122 ckTIC)
theorem K4_sound : SoundG Tryz.prog K4 := (ext_sound (ext_sound K3_sound (txPut_sound K3_sound rfl rfl)) (ckTI_sound K3_sound rfl))
noncomputable def K5 : FuncId → Contract := (ext (ext K4 66 ckTFC) 51 bkTxC)
theorem K5_sound : SoundG Tryz.prog K5 := (ext_sound (ext_sound K4_sound (ckTF_sound K4_sound rfl)) (bkTx_sound K4_sound rfl rfl rfl))
noncomputable def K6 : FuncId → Contract := (ext K5 45 bkCkC)
theorem K6_sound : SoundG Tryz.prog K6 := (ext_sound K5_sound (bkCk_sound K5_sound rfl))
noncomputable def K7 : FuncId → Contract := (ext K6 56 bkTC)
theorem K7_sound : SoundG Tryz.prog K7 := (ext_sound K6_sound (bkT_sound K6_sound rfl rfl rfl rfl))
noncomputable def K8 : FuncId → Contract := (ext K7 16 bkNC)
theorem K8_sound : SoundG Tryz.prog K8 := (ext_sound K7_sound (bkN_sound K7_sound rfl rfl rfl))
noncomputable def N1 : FuncId → Contract := (ext (ext (ext (ext (ext (ext (ext (ext (ext (ext (ext K8 47 clnTC) 48 clnVC) 173 fitsC) 23 newTC) 172 lenTC) 138 atTC) 137 parC) 9 genC) 160 rNumC) 161 rTextC) 110 rDoneC)
theorem N1_sound : SoundG Tryz.prog N1 := (ext_sound (ext_sound (ext_sound (ext_sound (ext_sound (ext_sound (ext_sound (ext_sound (ext_sound (ext_sound (ext_sound K8_sound clnT_sound) clnV_sound) fits_sound) newT_sound) lenT_sound) atT_sound) par_sound) refGen_sound) (rNum_sound K8_sound rfl)) (rText_sound K8_sound rfl)) rDone_sound)
noncomputable def N2 : FuncId → Contract := (ext (ext (ext (ext N1 69 cpyC) 194 parIC) 198 rTxFC) 124 walkC)
theorem N2_sound : SoundG Tryz.prog N2 := (ext_sound (ext_sound (ext_sound (ext_sound N1_sound (cpy_sound N1_sound rfl rfl)) (parI_sound N1_sound rfl)) (rTxF_sound N1_sound rfl rfl)) (walk_sound N1_sound rfl rfl rfl rfl))
noncomputable def N3 : FuncId → Contract := (ext (ext (ext N2 136 parFC) 162 rTxPC) 24 putTC)
theorem N3_sound : SoundG Tryz.prog N3 := (ext_sound (ext_sound (ext_sound N2_sound (parF_sound N2_sound rfl)) (rTxP_sound N2_sound rfl rfl)) (putT_sound N2_sound rfl rfl))
noncomputable def N4 : FuncId → Contract := (ext (ext N3 85 exdC) 111 rBkFC)
theorem N4_sound : SoundG Tryz.prog N4 := (ext_sound (ext_sound N3_sound (exd_sound N3_sound rfl rfl rfl)) (rBkF_sound N3_sound rfl rfl rfl))
noncomputable def N5 : FuncId → Contract := (ext (ext N4 59 bkTC) 70 cflC)
theorem N5_sound : SoundG Tryz.prog N5 := (ext_sound (ext_sound N4_sound (rBkT_sound N4_sound rfl rfl rfl)) (cfl_sound N4_sound rfl rfl))
noncomputable def N6 : FuncId → Contract := (ext N5 17 bkNC)
theorem N6_sound : SoundG Tryz.prog N6 := (ext_sound N5_sound (rBkN_sound N5_sound rfl rfl rfl))
noncomputable def N7 : FuncId → Contract := (ext N6 127 at14C)
theorem N7_sound : SoundG Tryz.prog N7 := (ext_sound N6_sound (at14_sound N6_sound rfl))
noncomputable def N8 : FuncId → Contract := (ext (ext (ext N7 83 chnC) 86 getTC) 73 rchC)
theorem N8_sound : SoundG Tryz.prog N8 := (ext_sound (ext_sound (ext_sound N7_sound (chn_sound N7_sound rfl rfl)) (getT_sound N7_sound rfl rfl)) (rch_sound N7_sound rfl rfl))
noncomputable def N9 : FuncId → Contract := (ext N8 74 rexdC)
theorem N9_sound : SoundG Tryz.prog N9 := (ext_sound N8_sound (rexd_sound N8_sound rfl rfl rfl))
noncomputable def NA : FuncId → Contract := (ext N9 27 rcflC)
theorem NA_sound : SoundG Tryz.prog NA := (ext_sound N9_sound (rcfl_sound N9_sound rfl rfl))

end Go.Proofs.YtenmlgalcjkdbaaGreat.AM
set_option linter.unusedVariables false
set_option linter.unusedSimpArgs false
namespace Go.Proofs.YtenmlgalcjkdbaaGreat.AM
open Go

variable {Γ : FuncId → Contract}

noncomputable def V1 : FuncId → Contract := (ext (ext (ext (ext (ext (ext (ext (ext (ext (ext NA 192 nanC) 133 or2C) 84 mineC) 80 cmkC) 87 bmkC) 34 rmkC) 79 entC) 36 votC) 38 cmtC) 32 laid17C)
theorem V1_sound : SoundG Tryz.prog V1 := (ext_sound (ext_sound (ext_sound (ext_sound (ext_sound (ext_sound (ext_sound (ext_sound (ext_sound (ext_sound NA_sound nan_sound) or2_sound) mine_sound) cmk_sound) (bmk_sound NA_sound rfl)) (rmk_sound NA_sound rfl)) ent_sound) vot_sound) cmt_sound) (laid17_sound NA_sound rfl rfl))
noncomputable def V2 : FuncId → Contract := (ext (ext (ext V1 134 cmpC) 33 begC) 37 mcC)
theorem V2_sound : SoundG Tryz.prog V2 := (ext_sound (ext_sound (ext_sound V1_sound (cmp_sound V1_sound rfl)) (beg_sound V1_sound rfl rfl)) (mc_sound V1_sound rfl rfl rfl rfl rfl))
noncomputable def V3 : FuncId → Contract := (ext (ext V2 82 hiC) 31 alive17C)
theorem V3_sound : SoundG Tryz.prog V3 := (ext_sound (ext_sound V2_sound (hi_sound V2_sound rfl rfl)) (alive17_sound V2_sound rfl rfl))
noncomputable def V4 : FuncId → Contract := (ext (ext V3 35 mvC) 39 lckC)
theorem V4_sound : SoundG Tryz.prog V4 := (ext_sound (ext_sound V3_sound (mv_sound V3_sound rfl rfl rfl rfl rfl rfl)) (lck_sound V3_sound rfl))
set_option maxRecDepth 100000 in
theorem mk_cells {N n : Nat} {cs : List PC} (hp : PTn Tryz.prog N n 74 cs) : ∃ t : Mk, cs = t.pcs ∧ t.bl.length ≤ N := by
  obtain ⟨fs0, f0, h01, h02, h03, h04, h05⟩ := tyField_run fd_74_0
  obtain ⟨fs1, f1, h11, h12, h13, h14, h15⟩ := tyField_run fd_74_1
  obtain ⟨fs2, f2, h21, h22, h23, h24, h25⟩ := tyField_run fd_74_2
  rw [h01] at h11 h21
  cases h11
  cases h21
  have hct : Tryz.prog.cellsOf 74 = 3 := by kernel_rfl
  have hk0 : Tryz.prog.cellsOf 3 = 1 := by kernel_rfl
  have hk1 : Tryz.prog.cellsOf 9 = 1 := by kernel_rfl
  cases n with
  | zero => exact hp.elim
  | succ n =>
    simp only [PTn, h01, hct] at hp
    obtain ⟨hl, hf⟩ := hp
    have q0 := hf f0 (List.mem_of_getElem? (i := 0) (by simpa using h02))
    rw [h03, h04, hk0] at q0
    have q1 := hf f1 (List.mem_of_getElem? (i := 1) (by simpa using h12))
    rw [h13, h14, hk0] at q1
    have q2 := hf f2 (List.mem_of_getElem? (i := 2) (by simpa using h22))
    rw [h23, h24, hk1] at q2
    match cs, hl with
    | [c0, c1, c2], _ =>
      obtain ⟨a, rfl⟩ := int_cellN (c := c0) q0
      obtain ⟨b, rfl⟩ := int_cellN (c := c1) q1
      obtain ⟨s, rfl, hs⟩ := str_cellN (c := c2) q2
      exact ⟨⟨a, b, s⟩, rfl, hs⟩
set_option maxRecDepth 100000 in
theorem mk_ofN {N : Nat} {x : AV} (h : AVTn Tryz.prog N 74 x) : ∃ t : Mk, x = t.av ∧ t.bl.length ≤ N := by
  obtain ⟨n, cs, hp, hx⟩ := h
  obtain ⟨fs, f0, h1, _⟩ := tyField_run fd_74_0
  rw [h1] at hx
  obtain ⟨t, rfl, ht⟩ := mk_cells hp
  exact ⟨t, hx, ht⟩
set_option maxRecDepth 100000 in
theorem bks_ofN {N : Nat} {x : AV} (h : AVTn Tryz.prog N 57 x) : ∃ l : List Blk, x = .c (.sl (brows l)) ∧ l.length ≤ N ∧ ∀ b ∈ l, b.txs.length ≤ N ∧ b.ju.vs.length ≤ N := by
  obtain ⟨n, cs, hp, hx⟩ := h
  have u3 : Tryz.prog.underlying 57 = some (.slice 33) := by kernel_rfl
  rw [u3] at hx
  obtain ⟨c, rfl, rfl⟩ := hx
  cases n with
  | zero => exact hp.elim
  | succ n =>
    simp only [PTn, u3] at hp
    obtain ⟨rows, hv, hl, hr⟩ := hp
    cases hv
    have key : ∀ rows : List (List PC), (∀ r ∈ rows, PTn Tryz.prog N n 33 r) → ∃ l : List Blk, rows = brows l ∧ ∀ b ∈ l, b.txs.length ≤ N ∧ b.ju.vs.length ≤ N := by
      intro rows
      induction rows with
      | nil => intro _; exact ⟨[], rfl, by simp⟩
      | cons r rows ih =>
        intro h
        obtain ⟨l, hl1, hl2⟩ := ih fun r hr => h r (by simp [hr])
        obtain ⟨b, rfl, hb1, hb2, _⟩ := bk_cells (h r (by simp))
        refine ⟨b :: l, by rw [hl1]; rfl, fun y hy => ?_⟩
        rcases List.mem_cons.1 hy with rfl | hy
        · exact ⟨hb1, hb2⟩
        · exact hl2 y hy
    obtain ⟨l, rfl, h2⟩ := key rows hr
    exact ⟨l, rfl, by rw [brows_length] at hl; exact hl, h2⟩

set_option maxRecDepth 100000 in
theorem zints_ofN {N : Nat} {x : AV} (h : AVTn Tryz.prog N 69 x) : ∃ l : List Int, x = .c (.sl (zints l)) ∧ l.length ≤ N := by
  obtain ⟨n, cs, hp, hx⟩ := h
  have u3 : Tryz.prog.underlying 69 = some (.slice 3) := by kernel_rfl
  rw [u3] at hx
  obtain ⟨c, rfl, rfl⟩ := hx
  cases n with
  | zero => exact hp.elim
  | succ n =>
    simp only [PTn, u3] at hp
    obtain ⟨rows, hv, hl, hr⟩ := hp
    cases hv
    have key : ∀ rows : List (List PC), (∀ r ∈ rows, PTn Tryz.prog N n 3 r) → ∃ l : List Int, rows = zints l := by
      intro rows
      induction rows with
      | nil => intro _; exact ⟨[], rfl⟩
      | cons r rows ih =>
        intro h
        obtain ⟨l, hl1⟩ := ih fun r hr => h r (by simp [hr])
        have h0 := h r (by simp)
        have : ∃ c, r = [c] := by
          have u4 : Tryz.prog.underlying 3 = some (.int .i64) := by kernel_rfl
          cases n with
          | zero => exact h0.elim
          | succ n =>
            simp only [PTn, u4] at h0
            obtain ⟨v, hv, _⟩ := h0
            exact ⟨_, hv⟩
        obtain ⟨c, rfl⟩ := this
        obtain ⟨v, rfl⟩ := int_cellN h0
        exact ⟨v :: l, by rw [hl1]; rfl⟩
    obtain ⟨l, rfl⟩ := key rows hr
    exact ⟨l, rfl, by rw [zints_length] at hl; exact hl⟩

set_option maxRecDepth 100000 in
theorem guardChain_lifted (os : Os) (started : os.Started) (H : Type) (enc : TypeId × Value → H) (F : Stop.Interp) :
    ReturnsInHanded {} Tryz.checked os 5 .any ((Rows.OpenSpec.upto Rows.guardChainSpec).pre6 enc Tryz.prog Tryz.f5 Rows.guardChainUptoRow.domain false) (((Rows.OpenSpec.upto Rows.guardChainSpec).at F).post enc Tryz.prog Tryz.f5 false true false false) := by
  refine returnsInHanded_of_cond (C := Tryz.checked) (k := Rows.uptoSmall) rfl ownK started (by kernel_rfl) Tryz.func5
    (OpenSpec.witness (enc := enc) (C := Tryz.checked) (k := Rows.uptoSmall) rfl false ⟨#[], #[.slice none 0 0, .slice none 0 0, .agg #[.int .i64 0, .int .i64 0, .string ⟨#[]⟩]], []⟩ 8 (by kernel_rfl) (by kernel_rfl) (by kernel_rfl) (x := ([.nil, .nil, .agg [.lit (.int .i64 0), .lit (.int .i64 0), .lit (.string [])]], [], [])) (by kernel_rfl) (by kernel_rfl) (by kernel_rfl)) ?_
  intro W base args ds gs before hval hW hcnd hkk _
  refine law_doneN (N := 1048576) laid (chain17_sound V4_sound rfl rfl rfl rfl rfl rfl rfl rfl rfl rfl ) rfl (ts := [57, 69, 74]) (by kernel_rfl) (tb := 4) (by kernel_rfl) (by kernel_rfl) ?_ ?_ ?_ ?_ hval hW (.inr (bulk_le hkk))
  · intro t ht; simp only [List.mem_cons, List.not_mem_nil, or_false] at ht; rcases ht with rfl | rfl | rfl <;> kernel_rfl
  · intro t ht; simp only [List.mem_cons, List.not_mem_nil, or_false] at ht; rcases ht with rfl | rfl | rfl <;> exact ⟨by kernel_rfl, of_decide_eq_true (by kernel_rfl)⟩
  · intro ds hd
    match ds, hd with
    | [a, b, c], _ => rfl
  · intro xs hxs
    match xs, hxs with
    | [x, y, z], h =>
      obtain ⟨h1, h2, h3, _⟩ := h
      obtain ⟨l, rfl, l1, l2⟩ := bks_ofN h1
      obtain ⟨g, rfl, g1⟩ := zints_ofN h2
      obtain ⟨m, rfl, _⟩ := mk_ofN h3
      exact mkC_at (α := List Blk × List Int × Mk) (l, g, m) ⟨⟨l1, l2⟩, g1⟩ (fun _ _ _ _ => rfl)
    | [], h => exact h.elim
    | [_], h => exact h.2.elim
    | [_, _], h => exact h.2.2.elim
    | _ :: _ :: _ :: _ :: _, h => exact h.2.2.2.elim


end Go.Proofs.YtenmlgalcjkdbaaGreat.AM

namespace Go.Proofs.YtenmlgalcjkdbaaGreat
open Go

theorem guardChain_over : Rows.guardChainUptoRow.holds Tryz.pinned (Rows.OpenSpec.upto Rows.guardChainSpec) :=
  OpenClaim.holds_of_cond 5 Tryz.f5 rfl rfl rfl rfl rfl rfl rfl ⟨rfl, rfl, rfl, rfl, rfl⟩ rfl rfl rfl rfl rfl (by kernel_rfl) Tryz.func5 (by kernel_rfl)
    (of_decide_eq_true (by kernel_rfl)) (by unfold Func.isWrapper; first | (rw [if_pos (by decide +kernel)]; kernel_rfl) | (rw [if_neg (by decide +kernel)]; exact ⟨rfl, rfl⟩))
    (fun os started H enc _ F => by rw [OpenClaim.pre_of_none' rfl]; exact AM.guardChain_lifted os started H enc F)

/-- The row. -/
theorem guardChain_holds : Rows.GuardChainUptoSaid := guardChain_over
#print axioms guardChain_holds
end Go.Proofs.YtenmlgalcjkdbaaGreat
