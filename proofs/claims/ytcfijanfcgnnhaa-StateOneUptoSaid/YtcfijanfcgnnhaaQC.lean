/-
  QC: St7.
-/
import Derived.Test.YtcfijanfcgnnhaaQA
import Derived.Test.YtcfijanfcgnnhaaQB
set_option linter.unusedVariables false
set_option linter.unusedSimpArgs false
namespace Go.Proofs.Ytcfijanfcgnnhaa.AM
open Go

variable {Γ : FuncId → Contract}

noncomputable def T1 : FuncId → Contract := (ext (ext (ext M13 47 newC) 74 faultC) 50 cloneC)
theorem T1_sound : SoundG Try.prog T1 := (ext_sound (ext_sound (ext_sound M13_sound new_sound) fault_sound) clone_sound)
noncomputable def T2 : FuncId → Contract := (ext (ext T1 48 numC) 49 doneC)
theorem T2_sound : SoundG Try.prog T2 := (ext_sound (ext_sound T1_sound (num_sound T1_sound rfl rfl)) (done_sound T1_sound rfl))
noncomputable def T3 : FuncId → Contract := (ext T2 67 lfC)
theorem T3_sound : SoundG Try.prog T3 := (ext_sound T2_sound (stLeaf_sound T2_sound rfl rfl rfl rfl))
noncomputable def T4 : FuncId → Contract := (ext (ext T3 65 lvC) 37 verC)
theorem T4_sound : SoundG Try.prog T4 := (ext_sound (ext_sound T3_sound (stLeaves_sound T3_sound rfl)) (ver_sound T3_sound rfl rfl))
noncomputable def T5 : FuncId → Contract := (ext (ext T4 38 stRootC) 35 proveC)
theorem T5_sound : SoundG Try.prog T5 := (ext_sound (ext_sound T4_sound (stRoot_sound T4_sound rfl rfl)) (prove_sound T4_sound rfl rfl))
noncomputable def T6 : FuncId → Contract := (ext T5 34 alive35C)
theorem T6_sound : SoundG Try.prog T6 := (ext_sound T5_sound (alive35_sound T5_sound rfl rfl))

set_option maxRecDepth 100000 in
theorem int_cell {N n : Nat} {c : PC} (h : PTn Try.prog N n 3 [c]) : ∃ v : Int, c = .int .i64 v := by
  have u3 : Try.prog.underlying 3 = some (.int .i64) := by kernel_rfl
  cases n with
  | zero => exact h.elim
  | succ n =>
    simp only [PTn, u3] at h
    obtain ⟨v, hv, _⟩ := h
    cases hv
    exact ⟨v, rfl⟩
set_option maxRecDepth 100000 in
theorem acc_cells {N n : Nat} {cs : List PC} (h : PTn Try.prog N n 71 cs) : ∃ a : Acc, cs = accP a := by
  obtain ⟨fs, f0, h1, h2, h3, h4, h5⟩ := tyField_run fd_71_0
  obtain ⟨fs', f1, k1, k2, k3, k4, k5⟩ := tyField_run fd_71_1
  rw [h1] at k1
  cases k1
  have hc2 : Try.prog.cellsOf 71 = 2 := by kernel_rfl
  have hc1 : Try.prog.cellsOf 3 = 1 := by kernel_rfl
  cases n with
  | zero => exact h.elim
  | succ n =>
    simp only [PTn, h1, hc2] at h
    obtain ⟨hl, hf⟩ := h
    have q0 := hf f0 (List.mem_of_getElem? (i := 0) (by simpa using h2))
    have q1 := hf f1 (List.mem_of_getElem? (i := 1) (by simpa using k2))
    rw [h3, h4, hc1] at q0
    rw [k3, k4, hc1] at q1
    match cs, hl with
    | [c0, c1], _ =>
      obtain ⟨x, rfl⟩ := int_cell (c := c0) q0
      obtain ⟨y, rfl⟩ := int_cell (c := c1) q1
      exact ⟨(x, y), rfl⟩
set_option maxRecDepth 100000 in
theorem acc_ofN {N : Nat} {x : AV} (h : AVTn Try.prog N 71 x) : ∃ a b : Int, x = .agg [.c (.int .i64 a), .c (.int .i64 b)] := by
  obtain ⟨n, cs, hp, hx⟩ := h
  obtain ⟨fs, f0, h1, _⟩ := tyField_run fd_71_0
  rw [h1] at hx
  obtain ⟨a, rfl⟩ := acc_cells hp
  exact ⟨a.1, a.2, hx⟩
set_option maxRecDepth 100000 in
theorem accs_ofN {N : Nat} {x : AV} (h : AVTn Try.prog N 69 x) : ∃ l : List Acc, x = .c (.sl (accs l)) ∧ l.length ≤ N := by
  obtain ⟨n, cs, hp, hx⟩ := h
  have u3 : Try.prog.underlying 69 = some (.slice 71) := by kernel_rfl
  rw [u3] at hx
  obtain ⟨c, rfl, rfl⟩ := hx
  cases n with
  | zero => exact hp.elim
  | succ n =>
    simp only [PTn, u3] at hp
    obtain ⟨rows, hv, hl, hr⟩ := hp
    cases hv
    have key : ∀ rows : List (List PC), (∀ r ∈ rows, PTn Try.prog N n 71 r) → ∃ l : List Acc, rows = accs l := by
      intro rows
      induction rows with
      | nil => intro _; exact ⟨[], rfl⟩
      | cons r rows ih =>
        intro h
        obtain ⟨l, hl1⟩ := ih fun r hr => h r (by simp [hr])
        obtain ⟨a, ha⟩ := acc_cells (h r (by simp))
        exact ⟨a :: l, by rw [hl1, ha]; rfl⟩
    obtain ⟨l, rfl⟩ := key rows hr
    exact ⟨l, rfl, by rw [accs_length] at hl; exact hl⟩

set_option maxRecDepth 100000 in
theorem stateOne_lifted (os : Os) (started : os.Started) (H : Type) (enc : TypeId × Value → H) (F : Stop.Interp) :
    ReturnsInHanded {} Try.checked os 7 .any ((Rows.OpenSpec.upto Rows.stateOneSpec).pre6 enc Try.prog Try.f7 Rows.stateOneUptoRow.domain false) (((Rows.OpenSpec.upto Rows.stateOneSpec).at F).post enc Try.prog Try.f7 false true false false) := by
  refine returnsInHanded_of_cond (C := Try.checked) (k := Rows.uptoSmall) rfl ownK started (by kernel_rfl) Try.func7
    (OpenSpec.witness (enc := enc) (C := Try.checked) (k := Rows.uptoSmall) rfl false ⟨#[], #[.slice none 0 0, .int .i64 0, .agg #[.int .i64 0, .int .i64 0]], []⟩ 8 (by kernel_rfl) (by kernel_rfl) (by kernel_rfl) (x := ([.nil, .lit (.int .i64 0), .agg [.lit (.int .i64 0), .lit (.int .i64 0)]], [], [])) (by kernel_rfl) (by kernel_rfl) (by kernel_rfl)) ?_
  intro W base args ds gs before hval hW hcnd hkk _
  refine law_doneN (N := 1048576) laid (stOne_sound T6_sound rfl rfl rfl rfl rfl) rfl (ts := [69, 3, 71]) (by kernel_rfl) (tb := 4) (by kernel_rfl) (by kernel_rfl) ?_ ?_ ?_ ?_ hval hW (.inr (bulk_le hkk))
  · intro t ht; simp only [List.mem_cons, List.not_mem_nil, or_false] at ht; rcases ht with rfl | rfl | rfl <;> kernel_rfl
  · intro t ht; simp only [List.mem_cons, List.not_mem_nil, or_false] at ht; rcases ht with rfl | rfl | rfl <;> exact ⟨by kernel_rfl, of_decide_eq_true (by kernel_rfl)⟩
  · intro ds hd
    match ds, hd with
    | [a, b, c], _ => rfl
  · intro xs hxs
    match xs, hxs with
    | [x, y, z], h =>
      obtain ⟨h1, h2, h3, _⟩ := h
      obtain ⟨l, rfl, l1⟩ := accs_ofN h1
      obtain ⟨c, rfl, c1, c2⟩ := int_ofN h2
      obtain ⟨a, b, rfl⟩ := acc_ofN h3
      exact mkC_at (α := St) ⟨l, c, (a, b)⟩ (by show l.length ≤ _; omega) (fun _ _ _ _ => rfl)
    | [], h => exact h.elim
    | [_], h => exact h.2.elim
    | [_, _], h => exact h.2.2.elim
    | _ :: _ :: _ :: _ :: _, h => exact h.2.2.2.elim


end Go.Proofs.Ytcfijanfcgnnhaa.AM

namespace Go.Proofs.Ytcfijanfcgnnhaa
open Go

theorem stateOne_over : Rows.stateOneUptoRow.holds Try.pinned (Rows.OpenSpec.upto Rows.stateOneSpec) :=
  OpenClaim.holds_of_cond 7 Try.f7 rfl rfl rfl rfl rfl rfl rfl ⟨rfl, rfl, rfl, rfl, rfl⟩ rfl rfl rfl rfl rfl (by kernel_rfl) Try.func7 (by kernel_rfl)
    (of_decide_eq_true (by kernel_rfl)) (by unfold Func.isWrapper; first | (rw [if_pos (by decide +kernel)]; kernel_rfl) | (rw [if_neg (by decide +kernel)]; exact ⟨rfl, rfl⟩))
    (fun os started H enc _ F => by rw [OpenClaim.pre_of_none' rfl]; exact AM.stateOne_lifted os started H enc F)

/-- The row. -/
theorem stateOne_holds : Rows.StateOneUptoSaid := stateOne_over
#print axioms stateOne_holds
end Go.Proofs.Ytcfijanfcgnnhaa
