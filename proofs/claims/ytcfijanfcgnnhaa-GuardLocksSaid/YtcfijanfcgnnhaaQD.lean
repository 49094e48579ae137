/-
  QD: Ge9.
-/
import Derived.Test.YtcfijanfcgnnhaaQC
import Derived.Test.YtcfijanfcgnnhaaQ4
import Derived.ProofKit
import Derived.SizedLaws
import Derived.JoinedCond
set_option linter.unusedVariables false
set_option linter.unusedSimpArgs false
namespace Go.Proofs.Ytcfijanfcgnnhaa.AM
open Go

variable {Γ : FuncId → Contract}

theorem laid : laidOutB Try.prog = true := by kernel_rfl
theorem ownK : ownKnob Try.prog.godebug = none := by kernel_rfl

set_option maxRecDepth 100000 in
theorem int_cellN {N n : Nat} {c : PC} (h : PTn Try.prog N n 3 [c]) : ∃ v : Int, c = .int .i64 v := by
  have u3 : Try.prog.underlying 3 = some (.int .i64) := by kernel_rfl
  cases n with
  | zero => exact h.elim
  | succ n =>
    simp only [PTn, u3] at h
    obtain ⟨v, hv, _⟩ := h
    cases hv
    exact ⟨v, rfl⟩
set_option maxRecDepth 100000 in
theorem str_cellN {N n : Nat} {c : PC} (h : PTn Try.prog N n 9 [c]) : ∃ s : List UInt8, c = .str s ∧ s.length ≤ N := by
  have u3 : Try.prog.underlying 9 = some .string := by kernel_rfl
  cases n with
  | zero => exact h.elim
  | succ n =>
    simp only [PTn, u3] at h
    obtain ⟨v, hv, hl⟩ := h
    cases hv
    exact ⟨v, rfl, hl⟩
noncomputable def G1 : FuncId → Contract := (ext (ext (ext (ext (ext (ext none0 99 nanC) 83 or2C) 61 cmkC) 82 repC) 32 rhiC) 33 entC)
theorem G1_sound : SoundG Try.prog G1 := (ext_sound (ext_sound (ext_sound (ext_sound (ext_sound (ext_sound none0_sound nan_sound) or2_sound) cmk_sound) rep_sound) rhi_sound) ent_sound)
noncomputable def G2 : FuncId → Contract := (ext (ext G1 84 cmpC) 62 cfirstC)
theorem G2_sound : SoundG Try.prog G2 := (ext_sound (ext_sound G1_sound (cmp_sound G1_sound rfl)) (cfirst_sound G1_sound rfl))
noncomputable def G3 : FuncId → Contract := (ext (ext G2 63 hiC) 30 begC)
theorem G3_sound : SoundG Try.prog G3 := (ext_sound (ext_sound G2_sound (hi_sound G2_sound rfl rfl)) (beg_sound G2_sound rfl rfl))
noncomputable def G4 : FuncId → Contract := (ext (ext G3 31 lckC) 29 alive17C)
theorem G4_sound : SoundG Try.prog G4 := (ext_sound (ext_sound G3_sound (lck_sound G3_sound rfl)) (alive17_sound G3_sound rfl rfl))
set_option maxRecDepth 100000 in
theorem mk_cells {N n : Nat} {cs : List PC} (hp : PTn Try.prog N n 51 cs) : ∃ t : Mk, cs = t.pcs ∧ t.bl.length ≤ N := by
  obtain ⟨fs0, f0, h01, h02, h03, h04, h05⟩ := tyField_run fd_51_0
  obtain ⟨fs1, f1, h11, h12, h13, h14, h15⟩ := tyField_run fd_51_1
  obtain ⟨fs2, f2, h21, h22, h23, h24, h25⟩ := tyField_run fd_51_2
  rw [h01] at h11 h21
  cases h11
  cases h21
  have hct : Try.prog.cellsOf 51 = 3 := by kernel_rfl
  have hk0 : Try.prog.cellsOf 3 = 1 := by kernel_rfl
  have hk1 : Try.prog.cellsOf 9 = 1 := by kernel_rfl
  cases n with
  | zero => exact hp.elim
  | succ n =>
    simp only [PTn, h01, hct] at hp
    obtain ⟨hl, hf⟩ := hp
    have q0 := hf f0 (List.mem_of_getElem? (i := 0) (by simpa using h02))
    rw [h03, h04, hk0] at q0
    have q1 := hf f1 (List.mem_of_getElem? (i := 1) (by simpa using h12))
    rw [h13, h14, hk0] at q1
    have q2 := hf f2 (List.mem_of_getElem? (i := 2) (by simpa using h22))
    rw [h23, h24, hk1] at q2
    match cs, hl with
    | [c0, c1, c2], _ =>
      obtain ⟨a, rfl⟩ := int_cellN (c := c0) q0
      obtain ⟨b, rfl⟩ := int_cellN (c := c1) q1
      obtain ⟨s, rfl, hs⟩ := str_cellN (c := c2) q2
      exact ⟨⟨a, b, s⟩, rfl, hs⟩
set_option maxRecDepth 100000 in
theorem mrows_ofN {N : Nat} {x : AV} (h : AVTn Try.prog N 59 x) : ∃ l : List Mk, x = .c (.sl (mrows l)) ∧ l.length ≤ N := by
  obtain ⟨n, cs, hp, hx⟩ := h
  have u3 : Try.prog.underlying 59 = some (.slice 51) := by kernel_rfl
  rw [u3] at hx
  obtain ⟨c, rfl, rfl⟩ := hx
  cases n with
  | zero => exact hp.elim
  | succ n =>
    simp only [PTn, u3] at hp
    obtain ⟨rows, hv, hl, hr⟩ := hp
    cases hv
    have key : ∀ rows : List (List PC), (∀ r ∈ rows, PTn Try.prog N n 51 r) → ∃ l : List Mk, rows = mrows l := by
      intro rows
      induction rows with
      | nil => intro _; exact ⟨[], rfl⟩
      | cons r rows ih =>
        intro h
        obtain ⟨l, hl1⟩ := ih fun r hr => h r (by simp [hr])
        obtain ⟨b, rfl, _⟩ := mk_cells (h r (by simp))
        exact ⟨b :: l, by rw [hl1]; rfl⟩
    obtain ⟨l, rfl⟩ := key rows hr
    exact ⟨l, rfl, by rw [mrows_length] at hl; exact hl⟩
set_option maxRecDepth 100000 in
theorem zints_ofN {N : Nat} {x : AV} (h : AVTn Try.prog N 60 x) : ∃ l : List Int, x = .c (.sl (zints l)) ∧ l.length ≤ N := by
  obtain ⟨n, cs, hp, hx⟩ := h
  have u3 : Try.prog.underlying 60 = some (.slice 3) := by kernel_rfl
  rw [u3] at hx
  obtain ⟨c, rfl, rfl⟩ := hx
  cases n with
  | zero => exact hp.elim
  | succ n =>
    simp only [PTn, u3] at hp
    obtain ⟨rows, hv, hl, hr⟩ := hp
    cases hv
    have key : ∀ rows : List (List PC), (∀ r ∈ rows, PTn Try.prog N n 3 r) → ∃ l : List Int, rows = zints l := by
      intro rows
      induction rows with
      | nil => intro _; exact ⟨[], rfl⟩
      | cons r rows ih =>
        intro h
        obtain ⟨l, hl1⟩ := ih fun r hr => h r (by simp [hr])
        have h0 := h r (by simp)
        have : ∃ c, r = [c] := by
          have u4 : Try.prog.underlying 3 = some (.int .i64) := by kernel_rfl
          cases n with
          | zero => exact h0.elim
          | succ n =>
            simp only [PTn, u4] at h0
            obtain ⟨v, hv, _⟩ := h0
            exact ⟨_, hv⟩
        obtain ⟨c, rfl⟩ := this
        obtain ⟨v, rfl⟩ := int_cellN h0
        exact ⟨v :: l, by rw [hl1]; rfl⟩
    obtain ⟨l, rfl⟩ := key rows hr
    exact ⟨l, rfl, by rw [zints_length] at hl; exact hl⟩

set_option maxRecDepth 100000 in
theorem guardLocks_lifted (os : Os) (started : os.Started) (H : Type) (enc : TypeId × Value → H) :
    ReturnsInHanded {} Try.checked os 6 .any (Rows.guardLocksSpec.pre6 enc Try.prog Try.f6 Rows.guardLocksRow.domain false) (Rows.guardLocksSpec.post enc Try.prog Try.f6 false true false false) := by
  refine returnsInHanded_of_change_sized (C := Try.checked) ownK started (by kernel_rfl) Try.func6
    (ChangeSpec.witness6 (enc := enc) (C := Try.checked) false ⟨#[], #[.slice none 0 0, .slice none 0 0], []⟩ 8 (by kernel_rfl) (by kernel_rfl) (by kernel_rfl) (by kernel_rfl)) ?_
  intro W base args ds gs before hval hW hcnd hsz _
  refine law_doneN (N := maxLen) laid (locks17_sound G4_sound rfl rfl rfl rfl rfl) rfl (ts := [59, 60]) (by kernel_rfl) (tb := 4) (by kernel_rfl) (by kernel_rfl) ?_ ?_ ?_ ?_ hval hW (.inl (Nat.le_refl _))
  · intro t ht; simp only [List.mem_cons, List.not_mem_nil, or_false] at ht; rcases ht with rfl | rfl <;> kernel_rfl
  · intro t ht; simp only [List.mem_cons, List.not_mem_nil, or_false] at ht; rcases ht with rfl | rfl <;> exact ⟨by kernel_rfl, of_decide_eq_true (by kernel_rfl)⟩
  · intro ds hd
    match ds, hd with
    | [a, b], _ => rfl
  · intro xs hxs
    match xs, hxs with
    | [x, y], h =>
      obtain ⟨h1, h2, _⟩ := h
      obtain ⟨l, rfl, l1⟩ := mrows_ofN h1
      obtain ⟨g, rfl, g1⟩ := zints_ofN h2
      exact mkC_at (α := List Mk × List Int) (l, g) ⟨Nat.le_trans l1 (by decide), Nat.le_trans g1 (by decide)⟩ (fun _ _ _ _ => rfl)
    | [], h => exact h.elim
    | [_], h => exact h.2.elim
    | _ :: _ :: _ :: _, h => exact h.2.2.elim


end Go.Proofs.Ytcfijanfcgnnhaa.AM

namespace Go.Proofs.Ytcfijanfcgnnhaa
open Go

theorem guardLocks_over : Rows.guardLocksRow.holds Try.pinned (OpenSpec.ofChange Rows.guardLocksSpec) :=
  OpenClaim.holds_of_wide 6 Try.f6 rfl rfl rfl rfl rfl rfl rfl ⟨rfl, rfl, rfl, rfl, rfl⟩ rfl rfl rfl rfl rfl (by kernel_rfl) Try.func6 (by kernel_rfl)
    (of_decide_eq_true (by kernel_rfl)) (by unfold Func.isWrapper; first | (rw [if_pos (by decide +kernel)]; kernel_rfl) | (rw [if_neg (by decide +kernel)]; exact ⟨rfl, rfl⟩))
    (fun os started H enc _ => AM.guardLocks_lifted os started H enc)

/-- The row. -/
theorem guardLocks_holds : Rows.GuardLocksSaid := guardLocks_over
#print axioms guardLocks_holds
end Go.Proofs.Ytcfijanfcgnnhaa
