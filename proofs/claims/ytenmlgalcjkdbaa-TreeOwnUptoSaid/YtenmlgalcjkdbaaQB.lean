/-
  QB: BnT.
-/
import Derived.Test.YtenmlgalcjkdbaaQA
import Derived.Test.YtenmlgalcjkdbaaQ6
import Derived.ProofKit
import Derived.SizedLaws
import Derived.JoinedCond
set_option linter.unusedVariables false
set_option linter.unusedSimpArgs false
namespace Go.Proofs.Ytenmlgalcjkdbaa.AM
open Go

theorem laid : laidOutB Try.prog = true := by kernel_rfl
theorem ownK : ownKnob Try.prog.godebug = none := by kernel_rfl

noncomputable def M1 : FuncId → Contract := ext (ext (ext (ext (ext (ext none0 118 putC) 121 growC) 132 rotC) 131 wordC) 101 wordsC) 98 kC
noncomputable def M2 : FuncId → Contract := ext (ext (ext M1 97 hC) 102 concatC) 120 rightC
set_option maxRecDepth 100000 in
theorem int_cellN {N n : Nat} {c : PC} (h : PTn Try.prog N n 3 [c]) : ∃ v : Int, c = .int .i64 v := by
  have u3 : Try.prog.underlying 3 = some (.int .i64) := by kernel_rfl
  cases n with
  | zero => exact h.elim
  | succ n =>
    simp only [PTn, u3] at h
    obtain ⟨v, hv, _⟩ := h
    cases hv
    exact ⟨v, rfl⟩
set_option maxRecDepth 100000 in
theorem str_cellN {N n : Nat} {c : PC} (h : PTn Try.prog N n 9 [c]) : ∃ s : List UInt8, c = .str s ∧ s.length ≤ N := by
  have u3 : Try.prog.underlying 9 = some .string := by kernel_rfl
  cases n with
  | zero => exact h.elim
  | succ n =>
    simp only [PTn, u3] at h
    obtain ⟨v, hv, hl⟩ := h
    cases hv
    exact ⟨v, rfl, hl⟩
set_option maxRecDepth 100000 in
theorem tx_cells {N n : Nat} {cs : List PC} (hp : PTn Try.prog N n 47 cs) : ∃ t : Txn, cs = t.pcs ∧ t.sig.length ≤ N := by
  obtain ⟨fs0, f0, h01, h02, h03, h04, h05⟩ := tyField_run fd_47_0
  obtain ⟨fs1, f1, h11, h12, h13, h14, h15⟩ := tyField_run fd_47_1
  obtain ⟨fs2, f2, h21, h22, h23, h24, h25⟩ := tyField_run fd_47_2
  obtain ⟨fs3, f3, h31, h32, h33, h34, h35⟩ := tyField_run fd_47_3
  obtain ⟨fs4, f4, h41, h42, h43, h44, h45⟩ := tyField_run fd_47_4
  rw [h01] at h11 h21 h31 h41
  cases h11
  cases h21
  cases h31
  cases h41
  have hct : Try.prog.cellsOf 47 = 5 := by kernel_rfl
  have hk0 : Try.prog.cellsOf 3 = 1 := by kernel_rfl
  have hk1 : Try.prog.cellsOf 9 = 1 := by kernel_rfl
  cases n with
  | zero => exact hp.elim
  | succ n =>
    simp only [PTn, h01, hct] at hp
    obtain ⟨hl, hf⟩ := hp
    have q0 := hf f0 (List.mem_of_getElem? (i := 0) (by simpa using h02))
    rw [h03, h04, hk0] at q0
    have q1 := hf f1 (List.mem_of_getElem? (i := 1) (by simpa using h12))
    rw [h13, h14, hk0] at q1
    have q2 := hf f2 (List.mem_of_getElem? (i := 2) (by simpa using h22))
    rw [h23, h24, hk0] at q2
    have q3 := hf f3 (List.mem_of_getElem? (i := 3) (by simpa using h32))
    rw [h33, h34, hk0] at q3
    have q4 := hf f4 (List.mem_of_getElem? (i := 4) (by simpa using h42))
    rw [h43, h44, hk1] at q4
    match cs, hl with
    | [c0, c1, c2, c3, c4], _ =>
      obtain ⟨a, rfl⟩ := int_cellN (c := c0) q0
      obtain ⟨b, rfl⟩ := int_cellN (c := c1) q1
      obtain ⟨c, rfl⟩ := int_cellN (c := c2) q2
      obtain ⟨d, rfl⟩ := int_cellN (c := c3) q3
      obtain ⟨s, rfl, hs⟩ := str_cellN (c := c4) q4
      exact ⟨⟨a, b, c, d, s⟩, rfl, hs⟩
set_option maxRecDepth 100000 in
theorem vo_cells {N n : Nat} {cs : List PC} (hp : PTn Try.prog N n 122 cs) : ∃ t : Vt, cs = t.pcs ∧ t.sig.length ≤ N := by
  obtain ⟨fs0, f0, h01, h02, h03, h04, h05⟩ := tyField_run fd_122_0
  obtain ⟨fs1, f1, h11, h12, h13, h14, h15⟩ := tyField_run fd_122_1
  obtain ⟨fs2, f2, h21, h22, h23, h24, h25⟩ := tyField_run fd_122_2
  obtain ⟨fs3, f3, h31, h32, h33, h34, h35⟩ := tyField_run fd_122_3
  obtain ⟨fs4, f4, h41, h42, h43, h44, h45⟩ := tyField_run fd_122_4
  obtain ⟨fs5, f5, h51, h52, h53, h54, h55⟩ := tyField_run fd_122_5
  obtain ⟨fs6, f6, h61, h62, h63, h64, h65⟩ := tyField_run fd_122_6
  rw [h01] at h11 h21 h31 h41 h51 h61
  cases h11
  cases h21
  cases h31
  cases h41
  cases h51
  cases h61
  have hct : Try.prog.cellsOf 122 = 7 := by kernel_rfl
  have hk0 : Try.prog.cellsOf 3 = 1 := by kernel_rfl
  have hk1 : Try.prog.cellsOf 9 = 1 := by kernel_rfl
  cases n with
  | zero => exact hp.elim
  | succ n =>
    simp only [PTn, h01, hct] at hp
    obtain ⟨hl, hf⟩ := hp
    have q0 := hf f0 (List.mem_of_getElem? (i := 0) (by simpa using h02))
    rw [h03, h04, hk0] at q0
    have q1 := hf f1 (List.mem_of_getElem? (i := 1) (by simpa using h12))
    rw [h13, h14, hk0] at q1
    have q2 := hf f2 (List.mem_of_getElem? (i := 2) (by simpa using h22))
    rw [h23, h24, hk0] at q2
    have q3 := hf f3 (List.mem_of_getElem? (i := 3) (by simpa using h32))
    rw [h33, h34, hk1] at q3
    have q4 := hf f4 (List.mem_of_getElem? (i := 4) (by simpa using h42))
    rw [h43, h44, hk0] at q4
    have q5 := hf f5 (List.mem_of_getElem? (i := 5) (by simpa using h52))
    rw [h53, h54, hk0] at q5
    have q6 := hf f6 (List.mem_of_getElem? (i := 6) (by simpa using h62))
    rw [h63, h64, hk1] at q6
    match cs, hl with
    | [c0, c1, c2, c3, c4, c5, c6], _ =>
      obtain ⟨a, rfl⟩ := int_cellN (c := c0) q0
      obtain ⟨b, rfl⟩ := int_cellN (c := c1) q1
      obtain ⟨c, rfl⟩ := int_cellN (c := c2) q2
      obtain ⟨s, rfl, hs⟩ := str_cellN (c := c3) q3
      obtain ⟨d, rfl⟩ := int_cellN (c := c4) q4
      obtain ⟨e, rfl⟩ := int_cellN (c := c5) q5
      obtain ⟨u, rfl, hu⟩ := str_cellN (c := c6) q6
      exact ⟨⟨a, b, c, s, d, e, u⟩, rfl, hu⟩
set_option maxRecDepth 100000 in
theorem txs_cellN {N n : Nat} {c : PC} (hp : PTn Try.prog N n 25 [c]) : ∃ l : List Txn, c = .sl (trows l) ∧ l.length ≤ N ∧ ∀ t ∈ l, t.sig.length ≤ N := by
  have u3 : Try.prog.underlying 25 = some (.slice 47) := by kernel_rfl
  cases n with
  | zero => exact hp.elim
  | succ n =>
    simp only [PTn, u3] at hp
    obtain ⟨rows, hv, hl, hr⟩ := hp
    cases hv
    have key : ∀ rows : List (List PC), (∀ r ∈ rows, PTn Try.prog N n 47 r) → ∃ l : List Txn, rows = trows l ∧ ∀ t ∈ l, t.sig.length ≤ N := by
      intro rows
      induction rows with
      | nil => intro _; exact ⟨[], rfl, by simp⟩
      | cons r rows ih =>
        intro h
        obtain ⟨l, hl1, hl2⟩ := ih fun r hr => h r (by simp [hr])
        obtain ⟨t, rfl, ht⟩ := tx_cells (h r (by simp))
        refine ⟨t :: l, by rw [hl1]; rfl, fun x hx => ?_⟩
        rcases List.mem_cons.1 hx with rfl | hx
        · exact ht
        · exact hl2 x hx
    obtain ⟨l, rfl, h2⟩ := key rows hr
    exact ⟨l, rfl, by rw [trows_length] at hl; exact hl, h2⟩
set_option maxRecDepth 100000 in
theorem vos_cellN {N n : Nat} {c : PC} (hp : PTn Try.prog N n 22 [c]) : ∃ l : List Vt, c = .sl (votes l) ∧ l.length ≤ N ∧ ∀ t ∈ l, t.sig.length ≤ N := by
  have u3 : Try.prog.underlying 22 = some (.slice 122) := by kernel_rfl
  cases n with
  | zero => exact hp.elim
  | succ n =>
    simp only [PTn, u3] at hp
    obtain ⟨rows, hv, hl, hr⟩ := hp
    cases hv
    have key : ∀ rows : List (List PC), (∀ r ∈ rows, PTn Try.prog N n 122 r) → ∃ l : List Vt, rows = votes l ∧ ∀ t ∈ l, t.sig.length ≤ N := by
      intro rows
      induction rows with
      | nil => intro _; exact ⟨[], rfl, by simp⟩
      | cons r rows ih =>
        intro h
        obtain ⟨l, hl1, hl2⟩ := ih fun r hr => h r (by simp [hr])
        obtain ⟨t, rfl, ht⟩ := vo_cells (h r (by simp))
        refine ⟨t :: l, by rw [hl1]; rfl, fun x hx => ?_⟩
        rcases List.mem_cons.1 hx with rfl | hx
        · exact ht
        · exact hl2 x hx
    obtain ⟨l, rfl, h2⟩ := key rows hr
    exact ⟨l, rfl, by rw [votes_length] at hl; exact hl, h2⟩
set_option maxRecDepth 100000 in
theorem ct_cells {N n : Nat} {cs : List PC} (hp : PTn Try.prog N n 24 cs) : ∃ t : Ct, cs = t.pcs ∧ t.vs.length ≤ N ∧ ∀ x ∈ t.vs, x.sig.length ≤ N := by
  obtain ⟨fs0, f0, h01, h02, h03, h04, h05⟩ := tyField_run fd_24_0
  obtain ⟨fs1, f1, h11, h12, h13, h14, h15⟩ := tyField_run fd_24_1
  obtain ⟨fs2, f2, h21, h22, h23, h24, h25⟩ := tyField_run fd_24_2
  obtain ⟨fs3, f3, h31, h32, h33, h34, h35⟩ := tyField_run fd_24_3
  rw [h01] at h11 h21 h31
  cases h11
  cases h21
  cases h31
  have hct : Try.prog.cellsOf 24 = 4 := by kernel_rfl
  have hk0 : Try.prog.cellsOf 3 = 1 := by kernel_rfl
  have hk1 : Try.prog.cellsOf 9 = 1 := by kernel_rfl
  have hk2 : Try.prog.cellsOf 22 = 1 := by kernel_rfl
  cases n with
  | zero => exact hp.elim
  | succ n =>
    simp only [PTn, h01, hct] at hp
    obtain ⟨hl, hf⟩ := hp
    have q0 := hf f0 (List.mem_of_getElem? (i := 0) (by simpa using h02))
    rw [h03, h04, hk0] at q0
    have q1 := hf f1 (List.mem_of_getElem? (i := 1) (by simpa using h12))
    rw [h13, h14, hk0] at q1
    have q2 := hf f2 (List.mem_of_getElem? (i := 2) (by simpa using h22))
    rw [h23, h24, hk1] at q2
    have q3 := hf f3 (List.mem_of_getElem? (i := 3) (by simpa using h32))
    rw [h33, h34, hk2] at q3
    match cs, hl with
    | [c0, c1, c2, c3], _ =>
      obtain ⟨a, rfl⟩ := int_cellN (c := c0) q0
      obtain ⟨b, rfl⟩ := int_cellN (c := c1) q1
      obtain ⟨s, rfl, hs⟩ := str_cellN (c := c2) q2
      obtain ⟨l, rfl, hl, hm⟩ := vos_cellN (c := c3) q3
      exact ⟨⟨a, b, s, l⟩, rfl, hl, hm⟩
set_option maxRecDepth 100000 in
theorem bk_cells {N n : Nat} {cs : List PC} (hp : PTn Try.prog N n 27 cs) : ∃ t : Blk, cs = t.pcs ∧ t.txs.length ≤ N ∧ t.ju.vs.length ≤ N ∧ t.sig.length ≤ N ∧ ∀ x ∈ t.txs, x.sig.length ≤ N := by
  obtain ⟨fs0, f0, h01, h02, h03, h04, h05⟩ := tyField_run fd_27_0
  obtain ⟨fs1, f1, h11, h12, h13, h14, h15⟩ := tyField_run fd_27_1
  obtain ⟨fs2, f2, h21, h22, h23, h24, h25⟩ := tyField_run fd_27_2
  obtain ⟨fs3, f3, h31, h32, h33, h34, h35⟩ := tyField_run fd_27_3
  obtain ⟨fs4, f4, h41, h42, h43, h44, h45⟩ := tyField_run fd_27_4
  obtain ⟨fs5, f5, h51, h52, h53, h54, h55⟩ := tyField_run fd_27_5
  rw [h01] at h11 h21 h31 h41 h51
  cases h11
  cases h21
  cases h31
  cases h41
  cases h51
  have hct : Try.prog.cellsOf 27 = 9 := by kernel_rfl
  have hk0 : Try.prog.cellsOf 3 = 1 := by kernel_rfl
  have hk1 : Try.prog.cellsOf 9 = 1 := by kernel_rfl
  have hk2 : Try.prog.cellsOf 24 = 4 := by kernel_rfl
  have hk3 : Try.prog.cellsOf 25 = 1 := by kernel_rfl
  cases n with
  | zero => exact hp.elim
  | succ n =>
    simp only [PTn, h01, hct] at hp
    obtain ⟨hl, hf⟩ := hp
    have q0 := hf f0 (List.mem_of_getElem? (i := 0) (by simpa using h02))
    rw [h03, h04, hk0] at q0
    have q1 := hf f1 (List.mem_of_getElem? (i := 1) (by simpa using h12))
    rw [h13, h14, hk0] at q1
    have q2 := hf f2 (List.mem_of_getElem? (i := 2) (by simpa using h22))
    rw [h23, h24, hk1] at q2
    have q3 := hf f3 (List.mem_of_getElem? (i := 3) (by simpa using h32))
    rw [h33, h34, hk2] at q3
    have q4 := hf f4 (List.mem_of_getElem? (i := 4) (by simpa using h42))
    rw [h43, h44, hk3] at q4
    have q5 := hf f5 (List.mem_of_getElem? (i := 5) (by simpa using h52))
    rw [h53, h54, hk1] at q5
    match cs, hl with
    | [c0, c1, c2, c3, c4, c5, c6, c7, c8], _ =>
      obtain ⟨a, rfl⟩ := int_cellN (c := c0) q0
      obtain ⟨b, rfl⟩ := int_cellN (c := c1) q1
      obtain ⟨p, rfl, hp1⟩ := str_cellN (c := c2) q2
      obtain ⟨j, hj, hj1, hj2⟩ := ct_cells (cs := [c3, c4, c5, c6]) q3
      obtain ⟨l, rfl, hl2, hm⟩ := txs_cellN (c := c7) q4
      obtain ⟨u, rfl, hu⟩ := str_cellN (c := c8) q5
      exact ⟨⟨a, b, p, j, l, u⟩, by obtain ⟨j1, j2, j3, j4⟩ := j; simp only [Ct.pcs, List.cons.injEq, and_true] at hj; obtain ⟨rfl, rfl, rfl, rfl⟩ := hj; rfl, hl2, hj1, hu, hm⟩
set_option maxRecDepth 100000 in
theorem bk_ofN {N : Nat} {x : AV} (h : AVTn Try.prog N 27 x) : ∃ t : Blk, x = t.av ∧ t.txs.length ≤ N ∧ t.ju.vs.length ≤ N ∧ t.sig.length ≤ N ∧ ∀ x ∈ t.txs, x.sig.length ≤ N := by
  obtain ⟨n, cs, hp, hx⟩ := h
  obtain ⟨fs, f0, h1, _⟩ := tyField_run fd_27_0
  rw [h1] at hx
  obtain ⟨t, rfl, ht⟩ := bk_cells hp
  exact ⟨t, hx, ht⟩
end Go.Proofs.Ytenmlgalcjkdbaa.AM
