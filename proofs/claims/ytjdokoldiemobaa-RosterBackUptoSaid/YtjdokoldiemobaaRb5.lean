/-
  RosterBack holds where what it reads is of bulk at most 1048576.
-/
import Derived.Test.YtjdokoldiemobaaRb4
import Derived.Test.YtjdokoldiemobaaAmF
import Derived.ProofKit
import Derived.SizedLaws
import Derived.JoinedCond
set_option linter.unusedVariables false
set_option linter.unusedSimpArgs false
namespace Go.Proofs.Ytjdokoldiemobaa.AM
open Go

theorem laid : laidOutB Try.prog = true := by kernel_rfl
theorem ownK : ownKnob Try.prog.godebug = none := by kernel_rfl
noncomputable def B1 : FuncId → Contract := ext (ext (ext (ext (ext (ext none0 122 putC) 125 getC) 121 faultC) 123 cloneC) 81 newC) 85 rcC
theorem B1_sound : SoundG Try.prog B1 := ext_sound (ext_sound (ext_sound (ext_sound (ext_sound (ext_sound none0_sound put_sound) get_sound) fault_sound) clone_sound) new_sound) rc_sound
noncomputable def B2 : FuncId → Contract := ext (ext (ext (ext (ext (ext B1 83 numC) 82 textC) 84 doneC) 124 readyC) 127 stopC) 86 openC
theorem B2_sound : SoundG Try.prog B2 := ext_sound (ext_sound (ext_sound (ext_sound (ext_sound (ext_sound B1_sound (num_sound B1_sound rfl rfl)) (text_sound B1_sound rfl rfl)) (done_sound B1_sound rfl)) ready_sound) stop_sound) (open_sound B1_sound rfl)
noncomputable def B3 : FuncId → Contract := ext (ext (ext B2 126 takeC) 89 errC) 90 leftC
theorem B3_sound : SoundG Try.prog B3 := ext_sound (ext_sound (ext_sound B2_sound (take_sound B2_sound rfl)) err_sound) (left_sound B2_sound rfl)
noncomputable def B4 : FuncId → Contract := ext (ext (ext (ext (ext B3 88 rdNumC) 87 rdTextC) 40 ckC) 80 allC) 42 smC
theorem B4_sound : SoundG Try.prog B4 := ext_sound (ext_sound (ext_sound (ext_sound (ext_sound B3_sound (rdNum_sound B3_sound rfl rfl rfl rfl)) (rdText_sound B3_sound rfl rfl rfl rfl)) (ck_sound B3_sound rfl)) (all_sound B3_sound)) (sm_sound B3_sound)
noncomputable def B5 : FuncId → Contract := ext (ext (ext B4 39 putSC) 41 readSC) 38 alive40C
theorem B5_sound : SoundG Try.prog B5 := ext_sound (ext_sound (ext_sound B4_sound (putS_sound B4_sound rfl rfl rfl rfl rfl)) (readS_sound B4_sound rfl rfl rfl rfl rfl rfl)) (alive40_sound B4_sound rfl rfl)

set_option maxRecDepth 100000 in
theorem bytes_ofN {N : Nat} {x : AV} (h : AVTn Try.prog N 49 x) : ∃ b : List UInt8, x = .c (.sl (bytes b)) ∧ b.length ≤ N := by
  obtain ⟨n, cs, hp, hx⟩ := h
  have u3 : Try.prog.underlying 49 = some (.slice 5) := by kernel_rfl
  have u4 : Try.prog.underlying 5 = some (.int .u8) := by kernel_rfl
  rw [u3] at hx
  obtain ⟨c, rfl, rfl⟩ := hx
  cases n with
  | zero => exact hp.elim
  | succ n =>
    simp only [PTn, u3] at hp
    obtain ⟨rows, hv, hl, hr⟩ := hp
    cases hv
    have key : ∀ rows : List (List PC), (∀ r ∈ rows, PTn Try.prog N n 5 r) → ∃ l : List UInt8, rows = bytes l := by
      intro rows
      induction rows with
      | nil => intro _; exact ⟨[], rfl⟩
      | cons r rows ih =>
        intro h
        obtain ⟨l, hl1⟩ := ih fun r hr => h r (by simp [hr])
        have h0 := h r (by simp)
        cases n with
        | zero => exact h0.elim
        | succ n =>
          simp only [PTn, u4] at h0
          obtain ⟨v, rfl, hw⟩ := h0
          simp [Lit.wf, IntKind.min, IntKind.max, IntKind.bits, IntKind.signed] at hw
          refine ⟨UInt8.ofNat v.toNat :: l, ?_⟩
          rw [hl1]
          show _ = [PC.int .u8 ((UInt8.ofNat v.toNat).toNat : Int)] :: bytes l
          rw [UInt8.toNat_ofNat_of_lt' (by show _ < 256; omega), show ((v.toNat : Nat) : Int) = v from by omega]
    obtain ⟨l, rfl⟩ := key rows hr
    exact ⟨l, rfl, by rw [bytes_length] at hl; exact hl⟩
set_option maxRecDepth 100000 in
theorem int_cellR {N n : Nat} {c : PC} (h : PTn Try.prog N n 3 [c]) : ∃ v : Int, c = .int .i64 v := by
  have u3 : Try.prog.underlying 3 = some (.int .i64) := by kernel_rfl
  cases n with
  | zero => exact h.elim
  | succ n =>
    simp only [PTn, u3] at h
    obtain ⟨v, hv, _⟩ := h
    cases hv
    exact ⟨v, rfl⟩
set_option maxRecDepth 100000 in
theorem rule_cells {N n : Nat} {cs : List PC} (h : PTn Try.prog N n 131 cs) : ∃ a : Rul, cs = [.int .i64 a.1, .int .i64 a.2] := by
  obtain ⟨fs, f0, h1, h2, h3, h4, h5⟩ := tyField_run fd_131_0
  obtain ⟨fs', f1, k1, k2, k3, k4, k5⟩ := tyField_run fd_131_1
  rw [h1] at k1
  cases k1
  have hc2 : Try.prog.cellsOf 131 = 2 := by kernel_rfl
  have hc1 : Try.prog.cellsOf 3 = 1 := by kernel_rfl
  cases n with
  | zero => exact h.elim
  | succ n =>
    simp only [PTn, h1, hc2] at h
    obtain ⟨hl, hf⟩ := h
    have q0 := hf f0 (List.mem_of_getElem? (i := 0) (by simpa using h2))
    have q1 := hf f1 (List.mem_of_getElem? (i := 1) (by simpa using k2))
    rw [h3, h4, hc1] at q0
    rw [k3, k4, hc1] at q1
    match cs, hl with
    | [c0, c1], _ =>
      obtain ⟨x, rfl⟩ := int_cellR (c := c0) q0
      obtain ⟨y, rfl⟩ := int_cellR (c := c1) q1
      exact ⟨(x, y), rfl⟩
set_option maxRecDepth 100000 in
theorem rules_cell {N n : Nat} {c : PC} (hp : PTn Try.prog N n 61 [c]) : ∃ l : List Rul, c = .sl (ruls l) ∧ l.length ≤ N := by
  have u3 : Try.prog.underlying 61 = some (.slice 131) := by kernel_rfl
  cases n with
  | zero => exact hp.elim
  | succ n =>
    simp only [PTn, u3] at hp
    obtain ⟨rows, hv, hl, hr⟩ := hp
    cases hv
    have key : ∀ rows : List (List PC), (∀ r ∈ rows, PTn Try.prog N n 131 r) → ∃ l : List Rul, rows = ruls l := by
      intro rows
      induction rows with
      | nil => intro _; exact ⟨[], rfl⟩
      | cons r rows ih =>
        intro h
        obtain ⟨l, hl1⟩ := ih fun r hr => h r (by simp [hr])
        obtain ⟨a, ha⟩ := rule_cells (h r (by simp))
        exact ⟨a :: l, by rw [hl1, ha]; rfl⟩
    obtain ⟨l, rfl⟩ := key rows hr
    exact ⟨l, rfl, by rw [ruls_length] at hl; exact hl⟩
set_option maxRecDepth 100000 in
theorem setup_ofN {N : Nat} {x : AV} (h : AVTn Try.prog N 63 x) : ∃ (r q c : Int) (l : List Rul), x = .agg [.c (.int .i64 r), .c (.int .i64 q), .c (.int .i64 c), .c (.sl (ruls l))] ∧ l.length ≤ N := by
  obtain ⟨n, cs, hp, hx⟩ := h
  obtain ⟨fs, f0, h1, h2, h3, h4, h5⟩ := tyField_run fd_63_0
  obtain ⟨fs', f1, k1, k2, k3, k4, k5⟩ := tyField_run fd_63_1
  obtain ⟨fs'', f2, i1, i2, i3, i4, i5⟩ := tyField_run fd_63_2
  obtain ⟨fs''', f3, j1, j2, j3, j4, j5⟩ := tyField_run fd_63_3
  rw [h1] at k1 i1 j1
  cases k1
  cases i1
  cases j1
  rw [h1] at hx
  have hc4 : Try.prog.cellsOf 63 = 4 := by kernel_rfl
  have hc1 : Try.prog.cellsOf 3 = 1 := by kernel_rfl
  have hcr : Try.prog.cellsOf 61 = 1 := by kernel_rfl
  cases n with
  | zero => exact hp.elim
  | succ n =>
    simp only [PTn, h1, hc4] at hp
    obtain ⟨hl, hf⟩ := hp
    have q0 := hf f0 (List.mem_of_getElem? (i := 0) (by simpa using h2))
    have q1 := hf f1 (List.mem_of_getElem? (i := 1) (by simpa using k2))
    have q2 := hf f2 (List.mem_of_getElem? (i := 2) (by simpa using i2))
    have q3 := hf f3 (List.mem_of_getElem? (i := 3) (by simpa using j2))
    rw [h3, h4, hc1] at q0
    rw [k3, k4, hc1] at q1
    rw [i3, i4, hc1] at q2
    rw [j3, j4, hcr] at q3
    match cs, hl with
    | [c0, c1, c2, c3], _ =>
      obtain ⟨x0, rfl⟩ := int_cellR (c := c0) q0
      obtain ⟨x1, rfl⟩ := int_cellR (c := c1) q1
      obtain ⟨x2, rfl⟩ := int_cellR (c := c2) q2
      obtain ⟨l, rfl, hl⟩ := rules_cell (c := c3) q3
      exact ⟨x0, x1, x2, l, hx, hl⟩

set_option maxRecDepth 100000 in
theorem rosterBack_lifted (os : Os) (started : os.Started) (H : Type) (enc : TypeId × Value → H) (F : Stop.Interp) :
    ReturnsInHanded {} Try.checked os 8 .any ((Rows.OpenSpec.upto Rows.rosterBackSpec).pre6 enc Try.prog Try.f8 Rows.rosterBackUptoRow.domain false) (((Rows.OpenSpec.upto Rows.rosterBackSpec).at F).post enc Try.prog Try.f8 false true false false) := by
  refine returnsInHanded_of_cond (C := Try.checked) (k := Rows.uptoSmall) rfl ownK started (by kernel_rfl) Try.func8
    (OpenSpec.witness (enc := enc) (C := Try.checked) (k := Rows.uptoSmall) rfl false ⟨#[], #[.agg #[.int .i64 0, .int .i64 0, .int .i64 0, .slice none 0 0], .slice none 0 0], []⟩ 8 (by kernel_rfl) (by kernel_rfl) (by kernel_rfl) (x := ([.agg [.lit (.int .i64 0), .lit (.int .i64 0), .lit (.int .i64 0), .nil], .nil], [], [])) (by kernel_rfl) (by kernel_rfl) (by kernel_rfl)) ?_
  intro W base args ds gs before hval hW hcnd hkk _
  refine law_doneN (N := 1048576) laid (rb_sound B5_sound rfl rfl rfl rfl rfl) rfl (ts := [63, 49]) (by kernel_rfl) (tb := 4) (by kernel_rfl) (by kernel_rfl) ?_ ?_ ?_ ?_ hval hW (.inr (bulk_le hkk))
  · intro t ht; simp only [List.mem_cons, List.not_mem_nil, or_false] at ht; rcases ht with rfl | rfl <;> kernel_rfl
  · intro t ht; simp only [List.mem_cons, List.not_mem_nil, or_false] at ht; rcases ht with rfl | rfl <;> exact ⟨by kernel_rfl, of_decide_eq_true (by kernel_rfl)⟩
  · intro ds hd
    match ds, hd with
    | [a, b], _ => rfl
  · intro xs hxs
    match xs, hxs with
    | [x, y], h =>
      obtain ⟨h1, h2, _⟩ := h
      obtain ⟨r, q, c, l, rfl, l1⟩ := setup_ofN h1
      obtain ⟨b, rfl, b1⟩ := bytes_ofN h2
      exact mkC_at (α := Setp × List UInt8) (⟨r, q, c, l⟩, b) ⟨by show l.length ≤ _; omega, by show b.length ≤ _; omega⟩ (fun _ _ _ _ => rfl)
    | [], h => exact h.elim
    | [_], h => exact h.2.elim
    | _ :: _ :: _ :: _, h => exact h.2.2.elim

end Go.Proofs.Ytjdokoldiemobaa.AM
namespace Go.Proofs.Ytjdokoldiemobaa
open Go

theorem rosterBack_over : Rows.rosterBackUptoRow.holds Try.pinned (Rows.OpenSpec.upto Rows.rosterBackSpec) :=
  OpenClaim.holds_of_cond 8 Try.f8 rfl rfl rfl rfl rfl rfl rfl ⟨rfl, rfl, rfl, rfl, rfl⟩ rfl rfl rfl rfl rfl (by kernel_rfl) Try.func8 (by kernel_rfl)
    (of_decide_eq_true (by kernel_rfl)) (by unfold Func.isWrapper; first | (rw [if_pos (by decide +kernel)]; kernel_rfl) | (rw [if_neg (by decide +kernel)]; exact ⟨rfl, rfl⟩))
    (fun os started H enc _ F => by rw [OpenClaim.pre_of_none' rfl]; exact AM.rosterBack_lifted os started H enc F)

/-- The row. -/
theorem rosterBack_holds : Rows.RosterBackUptoSaid := rosterBack_over
#print axioms rosterBack_holds
end Go.Proofs.Ytjdokoldiemobaa
