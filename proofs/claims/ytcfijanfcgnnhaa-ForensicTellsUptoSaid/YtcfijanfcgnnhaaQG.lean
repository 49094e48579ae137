/-
  QG: Fo9.
-/
import Derived.Test.YtcfijanfcgnnhaaQF
import Derived.ProofKit
import Derived.SizedLaws
import Derived.JoinedCond
set_option linter.unusedVariables false
set_option linter.unusedSimpArgs false
namespace Go.Proofs.Ytcfijanfcgnnhaa.AM
open Go

variable {Γ : FuncId → Contract}

theorem laid : laidOutB Try.prog = true := by kernel_rfl
theorem ownK : ownKnob Try.prog.godebug = none := by kernel_rfl
set_option maxRecDepth 100000 in
theorem int_ofN {N : Nat} {x : AV} (h : AVTn Try.prog N 3 x) : ∃ n : Int, x = .c (.int .i64 n) ∧ -9223372036854775808 ≤ n ∧ n < 9223372036854775808 := by
  obtain ⟨n, cs, hp, hx⟩ := h
  have u3 : Try.prog.underlying 3 = some (.int .i64) := by kernel_rfl
  rw [u3] at hx
  obtain ⟨c, rfl, rfl⟩ := hx
  cases n with
  | zero => exact hp.elim
  | succ n =>
    simp only [PTn, u3] at hp
    obtain ⟨v, hv, hw⟩ := hp
    cases hv
    refine ⟨v, rfl, ?_⟩
    simp [Lit.wf, IntKind.min, IntKind.max, IntKind.bits, IntKind.signed] at hw
    omega
set_option maxRecDepth 100000 in
theorem int_cellN {N n : Nat} {c : PC} (h : PTn Try.prog N n 3 [c]) : ∃ v : Int, c = .int .i64 v := by
  have u3 : Try.prog.underlying 3 = some (.int .i64) := by kernel_rfl
  cases n with
  | zero => exact h.elim
  | succ n =>
    simp only [PTn, u3] at h
    obtain ⟨v, hv, _⟩ := h
    cases hv
    exact ⟨v, rfl⟩
set_option maxRecDepth 100000 in
theorem str_cellN {N n : Nat} {c : PC} (h : PTn Try.prog N n 9 [c]) : ∃ s : List UInt8, c = .str s ∧ s.length ≤ N := by
  have u3 : Try.prog.underlying 9 = some .string := by kernel_rfl
  cases n with
  | zero => exact h.elim
  | succ n =>
    simp only [PTn, u3] at h
    obtain ⟨v, hv, hl⟩ := h
    cases hv
    exact ⟨v, rfl, hl⟩
set_option maxRecDepth 100000 in
theorem vo_cells {N n : Nat} {cs : List PC} (hp : PTn Try.prog N n 47 cs) : ∃ t : Vt, cs = t.pcs ∧ t.sig.length ≤ N := by
  obtain ⟨fs0, f0, h01, h02, h03, h04, h05⟩ := tyField_run fd_47_0
  obtain ⟨fs1, f1, h11, h12, h13, h14, h15⟩ := tyField_run fd_47_1
  obtain ⟨fs2, f2, h21, h22, h23, h24, h25⟩ := tyField_run fd_47_2
  obtain ⟨fs3, f3, h31, h32, h33, h34, h35⟩ := tyField_run fd_47_3
  obtain ⟨fs4, f4, h41, h42, h43, h44, h45⟩ := tyField_run fd_47_4
  obtain ⟨fs5, f5, h51, h52, h53, h54, h55⟩ := tyField_run fd_47_5
  obtain ⟨fs6, f6, h61, h62, h63, h64, h65⟩ := tyField_run fd_47_6
  rw [h01] at h11 h21 h31 h41 h51 h61
  cases h11
  cases h21
  cases h31
  cases h41
  cases h51
  cases h61
  have hct : Try.prog.cellsOf 47 = 7 := by kernel_rfl
  have hk0 : Try.prog.cellsOf 3 = 1 := by kernel_rfl
  have hk1 : Try.prog.cellsOf 9 = 1 := by kernel_rfl
  cases n with
  | zero => exact hp.elim
  | succ n =>
    simp only [PTn, h01, hct] at hp
    obtain ⟨hl, hf⟩ := hp
    have q0 := hf f0 (List.mem_of_getElem? (i := 0) (by simpa using h02))
    rw [h03, h04, hk0] at q0
    have q1 := hf f1 (List.mem_of_getElem? (i := 1) (by simpa using h12))
    rw [h13, h14, hk0] at q1
    have q2 := hf f2 (List.mem_of_getElem? (i := 2) (by simpa using h22))
    rw [h23, h24, hk0] at q2
    have q3 := hf f3 (List.mem_of_getElem? (i := 3) (by simpa using h32))
    rw [h33, h34, hk1] at q3
    have q4 := hf f4 (List.mem_of_getElem? (i := 4) (by simpa using h42))
    rw [h43, h44, hk0] at q4
    have q5 := hf f5 (List.mem_of_getElem? (i := 5) (by simpa using h52))
    rw [h53, h54, hk0] at q5
    have q6 := hf f6 (List.mem_of_getElem? (i := 6) (by simpa using h62))
    rw [h63, h64, hk1] at q6
    match cs, hl with
    | [c0, c1, c2, c3, c4, c5, c6], _ =>
      obtain ⟨a, rfl⟩ := int_cellN (c := c0) q0
      obtain ⟨b, rfl⟩ := int_cellN (c := c1) q1
      obtain ⟨c, rfl⟩ := int_cellN (c := c2) q2
      obtain ⟨s, rfl, hs⟩ := str_cellN (c := c3) q3
      obtain ⟨d, rfl⟩ := int_cellN (c := c4) q4
      obtain ⟨e, rfl⟩ := int_cellN (c := c5) q5
      obtain ⟨u, rfl, hu⟩ := str_cellN (c := c6) q6
      exact ⟨⟨a, b, c, s, d, e, u⟩, rfl, hu⟩
set_option maxRecDepth 100000 in
theorem vos_cellN {N n : Nat} {c : PC} (hp : PTn Try.prog N n 79 [c]) : ∃ l : List Vt, c = .sl (votes l) ∧ l.length ≤ N ∧ ∀ t ∈ l, t.sig.length ≤ N := by
  have u3 : Try.prog.underlying 79 = some (.slice 47) := by kernel_rfl
  cases n with
  | zero => exact hp.elim
  | succ n =>
    simp only [PTn, u3] at hp
    obtain ⟨rows, hv, hl, hr⟩ := hp
    cases hv
    have key : ∀ rows : List (List PC), (∀ r ∈ rows, PTn Try.prog N n 47 r) → ∃ l : List Vt, rows = votes l ∧ ∀ t ∈ l, t.sig.length ≤ N := by
      intro rows
      induction rows with
      | nil => intro _; exact ⟨[], rfl, by simp⟩
      | cons r rows ih =>
        intro h
        obtain ⟨l, hl1, hl2⟩ := ih fun r hr => h r (by simp [hr])
        obtain ⟨t, rfl, ht⟩ := vo_cells (h r (by simp))
        refine ⟨t :: l, by rw [hl1]; rfl, fun x hx => ?_⟩
        rcases List.mem_cons.1 hx with rfl | hx
        · exact ht
        · exact hl2 x hx
    obtain ⟨l, rfl, h2⟩ := key rows hr
    exact ⟨l, rfl, by rw [votes_length] at hl; exact hl, h2⟩
set_option maxRecDepth 100000 in
theorem ct_cells {N n : Nat} {cs : List PC} (hp : PTn Try.prog N n 81 cs) : ∃ t : Ct, cs = t.pcs ∧ t.vs.length ≤ N ∧ ∀ x ∈ t.vs, x.sig.length ≤ N := by
  obtain ⟨fs0, f0, h01, h02, h03, h04, h05⟩ := tyField_run fd_81_0
  obtain ⟨fs1, f1, h11, h12, h13, h14, h15⟩ := tyField_run fd_81_1
  obtain ⟨fs2, f2, h21, h22, h23, h24, h25⟩ := tyField_run fd_81_2
  obtain ⟨fs3, f3, h31, h32, h33, h34, h35⟩ := tyField_run fd_81_3
  rw [h01] at h11 h21 h31
  cases h11
  cases h21
  cases h31
  have hct : Try.prog.cellsOf 81 = 4 := by kernel_rfl
  have hk0 : Try.prog.cellsOf 3 = 1 := by kernel_rfl
  have hk1 : Try.prog.cellsOf 9 = 1 := by kernel_rfl
  have hk2 : Try.prog.cellsOf 79 = 1 := by kernel_rfl
  cases n with
  | zero => exact hp.elim
  | succ n =>
    simp only [PTn, h01, hct] at hp
    obtain ⟨hl, hf⟩ := hp
    have q0 := hf f0 (List.mem_of_getElem? (i := 0) (by simpa using h02))
    rw [h03, h04, hk0] at q0
    have q1 := hf f1 (List.mem_of_getElem? (i := 1) (by simpa using h12))
    rw [h13, h14, hk0] at q1
    have q2 := hf f2 (List.mem_of_getElem? (i := 2) (by simpa using h22))
    rw [h23, h24, hk1] at q2
    have q3 := hf f3 (List.mem_of_getElem? (i := 3) (by simpa using h32))
    rw [h33, h34, hk2] at q3
    match cs, hl with
    | [c0, c1, c2, c3], _ =>
      obtain ⟨a, rfl⟩ := int_cellN (c := c0) q0
      obtain ⟨b, rfl⟩ := int_cellN (c := c1) q1
      obtain ⟨s, rfl, hs⟩ := str_cellN (c := c2) q2
      obtain ⟨l, rfl, hl, hm⟩ := vos_cellN (c := c3) q3
      exact ⟨⟨a, b, s, l⟩, rfl, hl, hm⟩
set_option maxRecDepth 100000 in
theorem fk_cells {N n : Nat} {cs : List PC} (hp : PTn Try.prog N n 83 cs) : ∃ p : Ct × Ct, cs = p.1.pcs ++ p.2.pcs ∧ p.1.vs.length ≤ N ∧ p.2.vs.length ≤ N := by
  obtain ⟨fs0, f0, h01, h02, h03, h04, h05⟩ := tyField_run fd_83_0
  obtain ⟨fs1, f1, h11, h12, h13, h14, h15⟩ := tyField_run fd_83_1
  rw [h01] at h11
  cases h11
  have hct : Try.prog.cellsOf 83 = 8 := by kernel_rfl
  have hk0 : Try.prog.cellsOf 81 = 4 := by kernel_rfl
  cases n with
  | zero => exact hp.elim
  | succ n =>
    simp only [PTn, h01, hct] at hp
    obtain ⟨hl, hf⟩ := hp
    have q0 := hf f0 (List.mem_of_getElem? (i := 0) (by simpa using h02))
    rw [h03, h04, hk0] at q0
    have q1 := hf f1 (List.mem_of_getElem? (i := 1) (by simpa using h12))
    rw [h13, h14, hk0] at q1
    match cs, hl with
    | [c0, c1, c2, c3, c4, c5, c6, c7], _ =>
      obtain ⟨c, hc, hc1, hc2⟩ := ct_cells (cs := [c0, c1, c2, c3]) q0
      obtain ⟨d, hd, hd1, hd2⟩ := ct_cells (cs := [c4, c5, c6, c7]) q1
      exact ⟨(c, d), by obtain ⟨c1', c2', c3', c4'⟩ := c; obtain ⟨d1', d2', d3', d4'⟩ := d; simp only [Ct.pcs, List.cons.injEq, and_true] at hc hd; obtain ⟨rfl, rfl, rfl, rfl⟩ := hc; obtain ⟨rfl, rfl, rfl, rfl⟩ := hd; rfl, hc1, hd1⟩
set_option maxRecDepth 100000 in
theorem fk_ofN {N : Nat} {x : AV} (h : AVTn Try.prog N 83 x) : ∃ p : Ct × Ct, x = forkAV p.1 p.2 ∧ p.1.vs.length ≤ N ∧ p.2.vs.length ≤ N := by
  obtain ⟨n, cs, hp, hx⟩ := h
  obtain ⟨fs, f0, h1, _⟩ := tyField_run fd_83_0
  rw [h1] at hx
  obtain ⟨p, rfl, hq⟩ := fk_cells hp
  exact ⟨p, hx, hq⟩
noncomputable def FZ1 : FuncId → Contract := (ext (ext (ext (ext none0 42 fewC) 39 suspC) 88 frIC) 41 sgnIC)
theorem FZ1_sound : SoundG Try.prog FZ1 := (ext_sound (ext_sound (ext_sound (ext_sound none0_sound few_sound) susp_sound) frI_sound) sgnI_sound)
noncomputable def FZ2 : FuncId → Contract := (ext (ext FZ1 43 alive42C) 87 frXC)
theorem FZ2_sound : SoundG Try.prog FZ2 := (ext_sound (ext_sound FZ1_sound (alive42_sound FZ1_sound rfl)) (frX_sound FZ1_sound rfl))
noncomputable def FZ3 : FuncId → Contract := (ext FZ2 69 firC)
theorem FZ3_sound : SoundG Try.prog FZ3 := (ext_sound FZ2_sound (fir_sound FZ2_sound rfl))
noncomputable def FZ4 : FuncId → Contract := (ext FZ3 40 blmC)
theorem FZ4_sound : SoundG Try.prog FZ4 := (ext_sound FZ3_sound (blm_sound FZ3_sound rfl rfl))

set_option maxRecDepth 100000 in
theorem forensicTells_lifted (os : Os) (started : os.Started) (H : Type) (enc : TypeId × Value → H) (F : Stop.Interp) :
    ReturnsInHanded {} Try.checked os 8 .any ((Rows.OpenSpec.upto Rows.forensicTellsSpec).pre6 enc Try.prog Try.f8 Rows.forensicTellsUptoRow.domain false) (((Rows.OpenSpec.upto Rows.forensicTellsSpec).at F).post enc Try.prog Try.f8 false true false false) := by
  refine returnsInHanded_of_cond (C := Try.checked) (k := Rows.uptoSmall) rfl ownK started (by kernel_rfl) Try.func8
    (OpenSpec.witness (enc := enc) (C := Try.checked) (k := Rows.uptoSmall) rfl false ⟨#[], #[.agg #[.int .i64 0, .int .i64 0, .string ⟨#[]⟩, .slice none 0 0, .int .i64 0, .int .i64 0, .string ⟨#[]⟩, .slice none 0 0], .int .i64 0, .int .i64 0], []⟩ 8 (by kernel_rfl) (by kernel_rfl) (by kernel_rfl) (x := ([.agg [.agg [.lit (.int .i64 0), .lit (.int .i64 0), .lit (.string []), .nil], .agg [.lit (.int .i64 0), .lit (.int .i64 0), .lit (.string []), .nil]], .lit (.int .i64 0), .lit (.int .i64 0)], [], [])) (by kernel_rfl) (by kernel_rfl) (by kernel_rfl)) ?_
  intro W base args ds gs before hval hW hcnd hkk _
  refine law_doneN (N := 1048576) laid (ftl_sound FZ4_sound rfl rfl rfl rfl rfl) rfl (ts := [83, 3, 3]) (by kernel_rfl) (tb := 4) (by kernel_rfl) (by kernel_rfl) ?_ ?_ ?_ ?_ hval hW (.inr (bulk_le hkk))
  · intro t ht; simp only [List.mem_cons, List.not_mem_nil, or_false] at ht; rcases ht with rfl | rfl | rfl <;> kernel_rfl
  · intro t ht; simp only [List.mem_cons, List.not_mem_nil, or_false] at ht; rcases ht with rfl | rfl | rfl <;> exact ⟨by kernel_rfl, of_decide_eq_true (by kernel_rfl)⟩
  · intro ds hd
    match ds, hd with
    | [a, b, c], _ => rfl
  · intro xs hxs
    match xs, hxs with
    | [x, y, z], h =>
      obtain ⟨h1, h2, h3, _⟩ := h
      obtain ⟨p, rfl, p1, p2⟩ := fk_ofN h1
      obtain ⟨r, rfl, _⟩ := int_ofN h2
      obtain ⟨q, rfl, _⟩ := int_ofN h3
      exact mkC_at (α := (Ct × Ct) × Int × Int) (p, r, q) ⟨Nat.le_trans p1 (by decide), Nat.le_trans p2 (by decide)⟩ (fun _ _ _ _ => rfl)
    | [], h => exact h.elim
    | [_], h => exact h.2.elim
    | [_, _], h => exact h.2.2.elim
    | _ :: _ :: _ :: _ :: _, h => exact h.2.2.2.elim


end Go.Proofs.Ytcfijanfcgnnhaa.AM

namespace Go.Proofs.Ytcfijanfcgnnhaa
open Go

theorem forensicTells_over : Rows.forensicTellsUptoRow.holds Try.pinned (Rows.OpenSpec.upto Rows.forensicTellsSpec) :=
  OpenClaim.holds_of_cond 8 Try.f8 rfl rfl rfl rfl rfl rfl rfl ⟨rfl, rfl, rfl, rfl, rfl⟩ rfl rfl rfl rfl rfl (by kernel_rfl) Try.func8 (by kernel_rfl)
    (of_decide_eq_true (by kernel_rfl)) (by unfold Func.isWrapper; first | (rw [if_pos (by decide +kernel)]; kernel_rfl) | (rw [if_neg (by decide +kernel)]; exact ⟨rfl, rfl⟩))
    (fun os started H enc _ F => by rw [OpenClaim.pre_of_none' rfl]; exact AM.forensicTells_lifted os started H enc F)

/-- The row. -/
theorem forensicTells_holds : Rows.ForensicTellsUptoSaid := forensicTells_over
#print axioms forensicTells_holds
end Go.Proofs.Ytcfijanfcgnnhaa
