/-
  QE: TrA.
-/
import Derived.Test.YtenmlgalcjkdbaaQD
import Derived.Test.YtenmlgalcjkdbaaQB
set_option linter.unusedVariables false
set_option linter.unusedSimpArgs false
namespace Go.Proofs.Ytenmlgalcjkdbaa.AM
open Go

variable {Γ : FuncId → Contract}

noncomputable def F1 : FuncId → Contract := (ext (ext (ext (ext (ext (ext (ext (ext (ext (ext (ext E8 82 clnTC) 83 clnVC) 80 fitsC) 19 newTC) 23 lenTC) 57 atTC) 54 parC) 27 genC) 108 rNumC) 109 rTextC) 88 rDoneC)
theorem F1_sound : SoundG Try.prog F1 := (ext_sound (ext_sound (ext_sound (ext_sound (ext_sound (ext_sound (ext_sound (ext_sound (ext_sound (ext_sound (ext_sound E8_sound clnT_sound) clnV_sound) fits_sound) newT_sound) lenT_sound) atT_sound) par_sound) refGen_sound) (rNum_sound E8_sound rfl)) (rText_sound E8_sound rfl)) rDone_sound)
noncomputable def F2 : FuncId → Contract := (ext (ext (ext (ext F1 55 cpyC) 81 parIC) 124 rTxFC) 52 walkC)
theorem F2_sound : SoundG Try.prog F2 := (ext_sound (ext_sound (ext_sound (ext_sound F1_sound (cpy_sound F1_sound rfl rfl)) (parI_sound F1_sound rfl)) (rTxF_sound F1_sound rfl rfl)) (walk_sound F1_sound rfl rfl rfl rfl))
noncomputable def F3 : FuncId → Contract := (ext (ext (ext F2 53 parFC) 110 rTxPC) 20 putTC)
theorem F3_sound : SoundG Try.prog F3 := (ext_sound (ext_sound (ext_sound F2_sound (parF_sound F2_sound rfl)) (rTxP_sound F2_sound rfl rfl)) (putT_sound F2_sound rfl rfl))
noncomputable def F4 : FuncId → Contract := (ext (ext F3 17 exdC) 89 rBkFC)
theorem F4_sound : SoundG Try.prog F4 := (ext_sound (ext_sound F3_sound (exd_sound F3_sound rfl rfl rfl)) (rBkF_sound F3_sound rfl rfl rfl))
noncomputable def F5 : FuncId → Contract := (ext (ext (ext F4 18 cflC) 59 bkTC) 14 alive14C)
theorem F5_sound : SoundG Try.prog F5 := (ext_sound (ext_sound (ext_sound F4_sound (cfl_sound F4_sound rfl rfl)) (rBkT_sound F4_sound rfl rfl rfl)) (alive14_sound F4_sound rfl rfl rfl))
noncomputable def F6 : FuncId → Contract := (ext F5 25 bkNC)
theorem F6_sound : SoundG Try.prog F6 := (ext_sound F5_sound (rBkN_sound F5_sound rfl rfl rfl))
noncomputable def F7 : FuncId → Contract := (ext (ext F6 29 at14C) 16 name14C)
theorem F7_sound : SoundG Try.prog F7 := (ext_sound (ext_sound F6_sound (at14_sound F6_sound rfl)) (name14_sound F6_sound rfl rfl))
noncomputable def F8 : FuncId → Contract := (ext F7 15 put14C)
theorem F8_sound : SoundG Try.prog F8 := (ext_sound F7_sound (put14_sound F7_sound rfl rfl rfl rfl rfl rfl))
set_option maxRecDepth 100000 in
theorem bks_ofN {N : Nat} {x : AV} (h : AVTn Try.prog N 32 x) : ∃ l : List Blk, x = .c (.sl (brows l)) ∧ l.length ≤ N ∧ ∀ b ∈ l, b.txs.length ≤ N ∧ b.ju.vs.length ≤ N := by
  obtain ⟨n, cs, hp, hx⟩ := h
  have u3 : Try.prog.underlying 32 = some (.slice 27) := by kernel_rfl
  rw [u3] at hx
  obtain ⟨c, rfl, rfl⟩ := hx
  cases n with
  | zero => exact hp.elim
  | succ n =>
    simp only [PTn, u3] at hp
    obtain ⟨rows, hv, hl, hr⟩ := hp
    cases hv
    have key : ∀ rows : List (List PC), (∀ r ∈ rows, PTn Try.prog N n 27 r) → ∃ l : List Blk, rows = brows l ∧ ∀ b ∈ l, b.txs.length ≤ N ∧ b.ju.vs.length ≤ N := by
      intro rows
      induction rows with
      | nil => intro _; exact ⟨[], rfl, by simp⟩
      | cons r rows ih =>
        intro h
        obtain ⟨l, hl1, hl2⟩ := ih fun r hr => h r (by simp [hr])
        obtain ⟨b, rfl, hb1, hb2, _⟩ := bk_cells (h r (by simp))
        refine ⟨b :: l, by rw [hl1]; rfl, fun y hy => ?_⟩
        rcases List.mem_cons.1 hy with rfl | hy
        · exact ⟨hb1, hb2⟩
        · exact hl2 y hy
    obtain ⟨l, rfl, h2⟩ := key rows hr
    exact ⟨l, rfl, by rw [brows_length] at hl; exact hl, h2⟩

set_option maxRecDepth 100000 in
theorem treeThree_lifted (os : Os) (started : os.Started) (H : Type) (enc : TypeId × Value → H) (F : Stop.Interp) :
    ReturnsInHanded {} Try.checked os 4 .any ((Rows.OpenSpec.upto Rows.treeThreeSpec).pre6 enc Try.prog Try.f4 Rows.treeThreeUptoRow.domain false) (((Rows.OpenSpec.upto Rows.treeThreeSpec).at F).post enc Try.prog Try.f4 false true false false) := by
  refine returnsInHanded_of_cond (C := Try.checked) (k := Rows.uptoSmall) rfl ownK started (by kernel_rfl) Try.func4
    (OpenSpec.witness (enc := enc) (C := Try.checked) (k := Rows.uptoSmall) rfl false ⟨#[], #[.slice none 0 0, .int .i64 0, .int .i64 0, .int .i64 0], []⟩ 8 (by kernel_rfl) (by kernel_rfl) (by kernel_rfl) (x := ([.nil, .lit (.int .i64 0), .lit (.int .i64 0), .lit (.int .i64 0)], [], [])) (by kernel_rfl) (by kernel_rfl) (by kernel_rfl)) ?_
  intro W base args ds gs before hval hW hcnd hkk _
  refine law_doneN (N := 1048576) laid (three14_sound F8_sound rfl rfl rfl rfl rfl) rfl (ts := [32, 3, 3, 3]) (by kernel_rfl) (tb := 4) (by kernel_rfl) (by kernel_rfl) ?_ ?_ ?_ ?_ hval hW (.inr (bulk_le hkk))
  · intro t ht; simp only [List.mem_cons, List.not_mem_nil, or_false] at ht; rcases ht with rfl | rfl | rfl | rfl <;> kernel_rfl
  · intro t ht; simp only [List.mem_cons, List.not_mem_nil, or_false] at ht; rcases ht with rfl | rfl | rfl | rfl <;> exact ⟨by kernel_rfl, of_decide_eq_true (by kernel_rfl)⟩
  · intro ds hd
    match ds, hd with
    | [a, b, c, d], _ => rfl
  · intro xs hxs
    match xs, hxs with
    | [u, v, w, z], h =>
      obtain ⟨h1, h2, h3, h4, _⟩ := h
      obtain ⟨l, rfl, l1, l2⟩ := bks_ofN h1
      obtain ⟨a, rfl, _⟩ := int_ofN h2
      obtain ⟨b, rfl, _⟩ := int_ofN h3
      obtain ⟨c, rfl, _⟩ := int_ofN h4
      exact mkC_at (α := List Blk × Int × Int × Int) (l, a, b, c) ⟨l1, l2⟩ (fun _ _ _ _ => rfl)
    | [], h => exact h.elim
    | [_], h => exact h.2.elim
    | [_, _], h => exact h.2.2.elim
    | [_, _, _], h => exact h.2.2.2.elim
    | _ :: _ :: _ :: _ :: _ :: _, h => exact h.2.2.2.2.elim


end Go.Proofs.Ytenmlgalcjkdbaa.AM

namespace Go.Proofs.Ytenmlgalcjkdbaa
open Go

theorem treeThree_over : Rows.treeThreeUptoRow.holds Try.pinned (Rows.OpenSpec.upto Rows.treeThreeSpec) :=
  OpenClaim.holds_of_cond 4 Try.f4 rfl rfl rfl rfl rfl rfl rfl ⟨rfl, rfl, rfl, rfl, rfl⟩ rfl rfl rfl rfl rfl (by kernel_rfl) Try.func4 (by kernel_rfl)
    (of_decide_eq_true (by kernel_rfl)) (by unfold Func.isWrapper; first | (rw [if_pos (by decide +kernel)]; kernel_rfl) | (rw [if_neg (by decide +kernel)]; exact ⟨rfl, rfl⟩))
    (fun os started H enc _ F => by rw [OpenClaim.pre_of_none' rfl]; exact AM.treeThree_lifted os started H enc F)

/-- The row. -/
theorem treeThree_holds : Rows.TreeThreeUptoSaid := treeThree_over
#print axioms treeThree_holds
end Go.Proofs.Ytenmlgalcjkdbaa
