/-
  QQ: Wl8.
-/
import Derived.Test.YtofkehedjcinhaaQJ
import Derived.Test.YtofkehedjcinhaaQ5
import Derived.ProofKit
import Derived.SizedLaws
set_option linter.unusedVariables false
set_option linter.unusedSimpArgs false
namespace Go.Proofs.Ytofkehedjcinhaa.AM
open Go

variable {Γ : FuncId → Contract}

theorem laid : laidOutB Try.prog = true := by kernel_rfl
theorem ownK : ownKnob Try.prog.godebug = none := by kernel_rfl
set_option maxRecDepth 100000 in
theorem int_cellR {N n : Nat} {c : PC} (h : PTn Try.prog N n 3 [c]) : ∃ v : Int, c = .int .i64 v := by
  have u3 : Try.prog.underlying 3 = some (.int .i64) := by kernel_rfl
  cases n with
  | zero => exact h.elim
  | succ n =>
    simp only [PTn, u3] at h
    obtain ⟨v, hv, _⟩ := h
    cases hv
    exact ⟨v, rfl⟩
set_option maxRecDepth 100000 in
theorem rule_cells {N n : Nat} {cs : List PC} (h : PTn Try.prog N n 36 cs) : ∃ a : Rul, cs = [.int .i64 a.1, .int .i64 a.2] := by
  obtain ⟨fs, f0, h1, h2, h3, h4, h5⟩ := tyField_run fd_36_0
  obtain ⟨fs', f1, k1, k2, k3, k4, k5⟩ := tyField_run fd_36_1
  rw [h1] at k1
  cases k1
  have hc2 : Try.prog.cellsOf 36 = 2 := by kernel_rfl
  have hc1 : Try.prog.cellsOf 3 = 1 := by kernel_rfl
  cases n with
  | zero => exact h.elim
  | succ n =>
    simp only [PTn, h1, hc2] at h
    obtain ⟨hl, hf⟩ := h
    have q0 := hf f0 (List.mem_of_getElem? (i := 0) (by simpa using h2))
    have q1 := hf f1 (List.mem_of_getElem? (i := 1) (by simpa using k2))
    rw [h3, h4, hc1] at q0
    rw [k3, k4, hc1] at q1
    match cs, hl with
    | [c0, c1], _ =>
      obtain ⟨x, rfl⟩ := int_cellR (c := c0) q0
      obtain ⟨y, rfl⟩ := int_cellR (c := c1) q1
      exact ⟨(x, y), rfl⟩
set_option maxRecDepth 100000 in
theorem rules_cell {N n : Nat} {c : PC} (hp : PTn Try.prog N n 22 [c]) : ∃ l : List Rul, c = .sl (ruls l) ∧ l.length ≤ N := by
  have u3 : Try.prog.underlying 22 = some (.slice 36) := by kernel_rfl
  cases n with
  | zero => exact hp.elim
  | succ n =>
    simp only [PTn, u3] at hp
    obtain ⟨rows, hv, hl, hr⟩ := hp
    cases hv
    have key : ∀ rows : List (List PC), (∀ r ∈ rows, PTn Try.prog N n 36 r) → ∃ l : List Rul, rows = ruls l := by
      intro rows
      induction rows with
      | nil => intro _; exact ⟨[], rfl⟩
      | cons r rows ih =>
        intro h
        obtain ⟨l, hl1⟩ := ih fun r hr => h r (by simp [hr])
        obtain ⟨a, ha⟩ := rule_cells (h r (by simp))
        exact ⟨a :: l, by rw [hl1, ha]; rfl⟩
    obtain ⟨l, rfl⟩ := key rows hr
    exact ⟨l, rfl, by rw [ruls_length] at hl; exact hl⟩
set_option maxRecDepth 100000 in
theorem setup_ofN {N : Nat} {x : AV} (h : AVTn Try.prog N 24 x) : ∃ (r q c : Int) (l : List Rul), x = .agg [.c (.int .i64 r), .c (.int .i64 q), .c (.int .i64 c), .c (.sl (ruls l))] ∧ l.length ≤ N := by
  obtain ⟨n, cs, hp, hx⟩ := h
  obtain ⟨fs, f0, h1, h2, h3, h4, h5⟩ := tyField_run fd_24_0
  obtain ⟨fs', f1, k1, k2, k3, k4, k5⟩ := tyField_run fd_24_1
  obtain ⟨fs'', f2, i1, i2, i3, i4, i5⟩ := tyField_run fd_24_2
  obtain ⟨fs''', f3, j1, j2, j3, j4, j5⟩ := tyField_run fd_24_3
  rw [h1] at k1 i1 j1
  cases k1
  cases i1
  cases j1
  rw [h1] at hx
  have hc4 : Try.prog.cellsOf 24 = 4 := by kernel_rfl
  have hc1 : Try.prog.cellsOf 3 = 1 := by kernel_rfl
  have hcr : Try.prog.cellsOf 22 = 1 := by kernel_rfl
  cases n with
  | zero => exact hp.elim
  | succ n =>
    simp only [PTn, h1, hc4] at hp
    obtain ⟨hl, hf⟩ := hp
    have q0 := hf f0 (List.mem_of_getElem? (i := 0) (by simpa using h2))
    have q1 := hf f1 (List.mem_of_getElem? (i := 1) (by simpa using k2))
    have q2 := hf f2 (List.mem_of_getElem? (i := 2) (by simpa using i2))
    have q3 := hf f3 (List.mem_of_getElem? (i := 3) (by simpa using j2))
    rw [h3, h4, hc1] at q0
    rw [k3, k4, hc1] at q1
    rw [i3, i4, hc1] at q2
    rw [j3, j4, hcr] at q3
    match cs, hl with
    | [c0, c1, c2, c3], _ =>
      obtain ⟨x0, rfl⟩ := int_cellR (c := c0) q0
      obtain ⟨x1, rfl⟩ := int_cellR (c := c1) q1
      obtain ⟨x2, rfl⟩ := int_cellR (c := c2) q2
      obtain ⟨l, rfl, hl⟩ := rules_cell (c := c3) q3
      exact ⟨x0, x1, x2, l, hx, hl⟩

noncomputable def RT1 : FuncId → Contract := (ext (ext (ext (ext (ext (ext (ext (ext (ext (ext (ext (ext (ext (ext (ext (ext (ext (ext (ext (ext none0 23 corC) 64 wthC) 78 rotC) 55 cm0C) 40 dskC) 60 putC) 77 wordC) 72 wordsC) 7 allC) 15 rcC) 69 kC) 68 hC) 34 oddC) 54 trJC) 22 clientC) 18 replC) 9 clnRC) 37 clnSC) 76 growC) 17 repC)
theorem RT1_sound : SoundG Try.prog RT1 := (ext_sound (ext_sound (ext_sound (ext_sound (ext_sound (ext_sound (ext_sound (ext_sound (ext_sound (ext_sound (ext_sound (ext_sound (ext_sound (ext_sound (ext_sound (ext_sound (ext_sound (ext_sound (ext_sound (ext_sound none0_sound cor_sound) wth_sound) rot_sound) cm0_sound) dsk_sound) put_sound) word_sound) words_sound) (all_sound none0_sound)) rc_sound) constants_sound) first_sound) odd_sound) trJ_sound) client_sound) repl_sound) clnR_sound) clnS_sound) grow_sound) rep_sound)
noncomputable def RT2 : FuncId → Contract := (ext (ext (ext (ext (ext (ext (ext (ext RT1 10 cfirstC) 42 lnNC) 61 waitC) 6 ckLC) 75 rightC) 8 ckLC) 73 concatC) 51 idxFC)
theorem RT2_sound : SoundG Try.prog RT2 := (ext_sound (ext_sound (ext_sound (ext_sound (ext_sound (ext_sound (ext_sound (ext_sound RT1_sound (cfirst_sound RT1_sound rfl)) (lnN_sound RT1_sound rfl rfl rfl)) (wait_sound RT1_sound rfl)) (ckL_sound RT1_sound rfl)) (right_sound RT1_sound rfl)) (wr_sound RT1_sound rfl)) (concat_sound RT1_sound rfl)) (idxF_sound RT1_sound rfl))
noncomputable def RT3 : FuncId → Contract := (ext (ext (ext (ext (ext (ext (ext (ext RT2 39 begC) 4 alive40LC) 66 concatC) 56 dueC) 38 bgnC) 74 schedC) 25 stNC) 35 conFC)
theorem RT3_sound : SoundG Try.prog RT3 := (ext_sound (ext_sound (ext_sound (ext_sound (ext_sound (ext_sound (ext_sound (ext_sound RT2_sound (beg_sound RT2_sound rfl rfl)) (alive40L_sound RT2_sound rfl rfl)) (join_sound RT2_sound rfl)) (due_sound RT2_sound rfl)) (bgn_sound RT2_sound rfl rfl)) (sched_sound RT2_sound rfl rfl)) (stN_sound RT2_sound rfl rfl rfl)) (conF_sound RT2_sound rfl))
noncomputable def RT4 : FuncId → Contract := (ext (ext (ext (ext RT3 41 restC) 71 blockC) 70 padC) 20 keyC)
theorem RT4_sound : SoundG Try.prog RT4 := (ext_sound (ext_sound (ext_sound (ext_sound RT3_sound (rest_sound RT3_sound rfl)) (block_sound RT3_sound rfl rfl)) (pad_sound RT3_sound rfl rfl)) (key_sound RT3_sound rfl))
noncomputable def RT5 : FuncId → Contract := (ext RT4 65 sumC)
theorem RT5_sound : SoundG Try.prog RT5 := (ext_sound RT4_sound (sum_sound RT4_sound rfl rfl rfl rfl rfl))
noncomputable def RT6 : FuncId → Contract := (ext RT5 62 longC)
theorem RT6_sound : SoundG Try.prog RT6 := (ext_sound RT5_sound (long_sound RT5_sound rfl rfl))
noncomputable def RT7 : FuncId → Contract := (ext RT6 59 shortC)
theorem RT7_sound : SoundG Try.prog RT7 := (ext_sound RT6_sound (short_sound RT6_sound rfl))
noncomputable def RT8 : FuncId → Contract := (ext (ext (ext (ext RT7 53 upC) 48 chainC) 49 secC) 50 endedC)
theorem RT8_sound : SoundG Try.prog RT8 := (ext_sound (ext_sound (ext_sound (ext_sound RT7_sound (up_sound RT7_sound rfl)) (chain_sound RT7_sound rfl)) (sec_sound RT7_sound rfl rfl)) (ended_sound RT7_sound rfl))
noncomputable def RT9 : FuncId → Contract := (ext (ext RT8 21 rootC) 33 leafC)
theorem RT9_sound : SoundG Try.prog RT9 := (ext_sound (ext_sound RT8_sound (root_sound RT8_sound rfl (up_sound RT7_sound rfl))) (leaf_sound RT8_sound rfl rfl rfl))
noncomputable def RT10 : FuncId → Contract := (ext (ext RT9 19 newGC) 12 rootKC)
theorem RT10_sound : SoundG Try.prog RT10 := (ext_sound (ext_sound RT9_sound (newG_sound RT9_sound rfl)) (rootK_sound RT9_sound rfl rfl))
noncomputable def RT11 : FuncId → Contract := (ext (ext RT10 13 txKeyC) 11 voKeyC)
theorem RT11_sound : SoundG Try.prog RT11 := (ext_sound (ext_sound RT10_sound (txKey_sound RT10_sound rfl rfl)) (voKey_sound RT10_sound rfl rfl))
noncomputable def RT12 : FuncId → Contract := (ext RT11 24 rpNC)
theorem RT12_sound : SoundG Try.prog RT12 := (ext_sound RT11_sound (rpN_sound RT11_sound rfl rfl rfl rfl rfl rfl))
noncomputable def RT13 : FuncId → Contract := (ext RT12 14 pplC)
theorem RT13_sound : SoundG Try.prog RT13 := (ext_sound RT12_sound (ppl_sound RT12_sound rfl rfl rfl))
noncomputable def RT14 : FuncId → Contract := (ext RT13 5 wNC)
theorem RT14_sound : SoundG Try.prog RT14 := (ext_sound RT13_sound (wN_sound RT13_sound rfl rfl rfl rfl rfl rfl rfl))

set_option maxRecDepth 100000 in
theorem rosterTells_lifted (os : Os) (started : os.Started) (H : Type) (enc : TypeId × Value → H) :
    ReturnsInHanded {} Try.checked os 3 .any (Rows.rosterTellsSpec.pre6 enc Try.prog Try.f3 Rows.rosterTellsRow.domain false) (Rows.rosterTellsSpec.post enc Try.prog Try.f3 false true false false) := by
  refine returnsInHanded_of_change_sized (C := Try.checked) ownK started (by kernel_rfl) Try.func3
    (ChangeSpec.witness6 (enc := enc) (C := Try.checked) false ⟨#[], #[.agg #[.int .i64 0, .int .i64 0, .int .i64 0, .slice none 0 0]], []⟩ 8 (by kernel_rfl) (by kernel_rfl) (by kernel_rfl) (by kernel_rfl)) ?_
  intro W base args ds gs before hval hW hcnd hsz _
  refine law_doneN (N := maxLen) laid (rt_sound RT14_sound rfl rfl rfl) rfl (ts := [24]) (by kernel_rfl) (tb := 4) (by kernel_rfl) (by kernel_rfl) ?_ ?_ ?_ ?_ hval hW (.inl (Nat.le_refl _))
  · intro t ht; simp only [List.mem_cons, List.not_mem_nil, or_false] at ht; rcases ht with rfl <;> kernel_rfl
  · intro t ht; simp only [List.mem_cons, List.not_mem_nil, or_false] at ht; rcases ht with rfl <;> exact ⟨by kernel_rfl, of_decide_eq_true (by kernel_rfl)⟩
  · intro ds hd
    match ds, hd with
    | [a], _ => rfl
  · intro xs hxs
    match xs, hxs with
    | [x], h =>
      obtain ⟨r, q, c, l, rfl, l1⟩ := setup_ofN h.1
      exact mkC_at (α := Setp) ⟨r, q, c, l⟩ (Nat.le_trans l1 (by decide)) (fun _ _ _ _ => rfl)
    | [], h => exact h.elim
    | _ :: _ :: _, h => exact h.2.elim


end Go.Proofs.Ytofkehedjcinhaa.AM

namespace Go.Proofs.Ytofkehedjcinhaa
open Go

theorem rosterTells_over : Rows.rosterTellsRow.holds Try.pinned (OpenSpec.ofChange Rows.rosterTellsSpec) :=
  OpenClaim.holds_of_wide 3 Try.f3 rfl rfl rfl rfl rfl rfl rfl ⟨rfl, rfl, rfl, rfl, rfl⟩ rfl rfl rfl rfl rfl (by kernel_rfl) Try.func3 (by kernel_rfl)
    (of_decide_eq_true (by kernel_rfl)) (by unfold Func.isWrapper; first | (rw [if_pos (by decide +kernel)]; kernel_rfl) | (rw [if_neg (by decide +kernel)]; exact ⟨rfl, rfl⟩))
    (fun os started H enc _ => AM.rosterTells_lifted os started H enc)

/-- The row. -/
theorem rosterTells_holds : Rows.RosterTellsSaid := rosterTells_over
#print axioms rosterTells_holds
end Go.Proofs.Ytofkehedjcinhaa
