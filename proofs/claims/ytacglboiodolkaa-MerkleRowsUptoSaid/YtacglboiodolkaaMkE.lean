/-
  The laws of merkle trees hold: MerkleTells, MerkleBack, MerkleRows (each where what it reads is of bulk at most 1048576), MerkleWidths.
-/
import Derived.Test.YtacglboiodolkaaMkD
set_option linter.unusedVariables false
set_option linter.unusedSimpArgs false
namespace Go.Proofs.Ytacglboiodolkaa.AM
open Go

noncomputable def M14 : FuncId → Contract := ext (ext M13 45 num4C) 37 alive4C
theorem M14_sound : SoundG Try.prog M14 := ext_sound (ext_sound M13_sound (num4_sound M13_sound)) (alive4_sound M13_sound rfl rfl)

set_option maxRecDepth 100000 in
theorem merkleTells_lifted (os : Os) (started : os.Started) (H : Type) (enc : TypeId × Value → H) (F : Stop.Interp) :
    ReturnsInHanded {} Try.checked os 11 .any ((Rows.OpenSpec.upto Rows.merkleTellsSpec).pre6 enc Try.prog Try.f11 Rows.merkleTellsUptoRow.domain false) (((Rows.OpenSpec.upto Rows.merkleTellsSpec).at F).post enc Try.prog Try.f11 false true false false) := by
  refine returnsInHanded_of_cond (C := Try.checked) (k := Rows.uptoSmall) rfl ownK started (by kernel_rfl) Try.func11
    (OpenSpec.witness (enc := enc) (C := Try.checked) (k := Rows.uptoSmall) rfl false ⟨#[], #[.slice none 0 0, .int .i64 0, .string ⟨#[]⟩, .slice none 0 0], []⟩ 8 (by kernel_rfl) (by kernel_rfl) (by kernel_rfl) (x := ([.nil, .lit (.int .i64 0), .lit (.string []), .nil], [], [])) (by kernel_rfl) (by kernel_rfl) (by kernel_rfl)) ?_
  intro W base args ds gs before hval hW hcnd hkk _
  refine law_doneN (N := 1048576) laid (tells_sound M14_sound rfl rfl rfl rfl rfl rfl rfl rfl rfl rfl rfl) rfl (ts := [75, 3, 9, 75]) (by kernel_rfl) (tb := 4) (by kernel_rfl) (by kernel_rfl) ?_ ?_ ?_ ?_ hval hW (.inr (bulk_le hkk))
  · intro t ht; simp at ht; rcases ht with rfl | rfl | rfl | rfl <;> kernel_rfl
  · intro t ht; simp at ht; rcases ht with rfl | rfl | rfl | rfl <;> exact ⟨by kernel_rfl, of_decide_eq_true (by kernel_rfl)⟩
  · intro ds hd
    match ds, hd with
    | [a, b, c, d], _ => rfl
  · intro xs hxs
    match xs, hxs with
    | [x, y, z, u], h =>
      obtain ⟨h1, h2, h3, h4, _⟩ := h
      obtain ⟨l, rfl, l1, l2⟩ := texts_ofN h1
      obtain ⟨a, rfl, a1, a2⟩ := int_ofN h2
      obtain ⟨s, rfl, s1⟩ := str_ofN h3
      obtain ⟨p, rfl, p1, p2⟩ := texts_ofN h4
      exact mkC_at (α := Te) ⟨l, a, s, p⟩ ⟨okl_of l1 l2, a2, by show s.length ≤ _; omega, okl_of p1 p2⟩ (fun _ _ _ _ => rfl)
    | [], h => exact h.elim
    | [_], h => exact h.2.elim
    | [_, _], h => exact h.2.2.elim
    | [_, _, _], h => exact h.2.2.2.elim
    | _ :: _ :: _ :: _ :: _ :: _, h => exact h.2.2.2.2.elim

set_option maxRecDepth 100000 in
theorem merkleBack_lifted (os : Os) (started : os.Started) (H : Type) (enc : TypeId × Value → H) (F : Stop.Interp) :
    ReturnsInHanded {} Try.checked os 12 .any ((Rows.OpenSpec.upto Rows.merkleBackSpec).pre6 enc Try.prog Try.f12 Rows.merkleBackUptoRow.domain false) (((Rows.OpenSpec.upto Rows.merkleBackSpec).at F).post enc Try.prog Try.f12 false true false false) := by
  refine returnsInHanded_of_cond (C := Try.checked) (k := Rows.uptoSmall) rfl ownK started (by kernel_rfl) Try.func12
    (OpenSpec.witness (enc := enc) (C := Try.checked) (k := Rows.uptoSmall) rfl false ⟨#[], #[.slice none 0 0, .int .i64 0], []⟩ 8 (by kernel_rfl) (by kernel_rfl) (by kernel_rfl) (x := ([.nil, .lit (.int .i64 0)], [], [])) (by kernel_rfl) (by kernel_rfl) (by kernel_rfl)) ?_
  intro W base args ds gs before hval hW hcnd hkk _
  refine law_doneN (N := 1048576) laid (back4_sound M14_sound rfl rfl rfl rfl rfl) rfl (ts := [75, 3]) (by kernel_rfl) (tb := 4) (by kernel_rfl) (by kernel_rfl) ?_ ?_ ?_ ?_ hval hW (.inr (bulk_le hkk))
  · intro t ht; simp at ht; rcases ht with rfl | rfl <;> kernel_rfl
  · intro t ht; simp at ht; rcases ht with rfl | rfl <;> exact ⟨by kernel_rfl, of_decide_eq_true (by kernel_rfl)⟩
  · intro ds hd
    match ds, hd with
    | [a, b], _ => rfl
  · intro xs hxs
    match xs, hxs with
    | [x, y], h =>
      obtain ⟨h1, h2, _⟩ := h
      obtain ⟨l, rfl, l1, l2⟩ := texts_ofN h1
      obtain ⟨a, rfl, a1, a2⟩ := int_ofN h2
      exact mkC_at (α := Ba) ⟨l, a⟩ (okl_of l1 l2) (fun _ _ _ _ => rfl)
    | [], h => exact h.elim
    | [_], h => exact h.2.elim
    | _ :: _ :: _ :: _, h => exact h.2.2.elim

set_option maxRecDepth 100000 in
theorem merkleRows_lifted (os : Os) (started : os.Started) (H : Type) (enc : TypeId × Value → H) (F : Stop.Interp) :
    ReturnsInHanded {} Try.checked os 9 .any ((Rows.OpenSpec.upto Rows.merkleRowsSpec).pre6 enc Try.prog Try.f9 Rows.merkleRowsUptoRow.domain false) (((Rows.OpenSpec.upto Rows.merkleRowsSpec).at F).post enc Try.prog Try.f9 false true false false) := by
  refine returnsInHanded_of_cond (C := Try.checked) (k := Rows.uptoSmall) rfl ownK started (by kernel_rfl) Try.func9
    (OpenSpec.witness (enc := enc) (C := Try.checked) (k := Rows.uptoSmall) rfl false ⟨#[], #[.slice none 0 0], []⟩ 8 (by kernel_rfl) (by kernel_rfl) (by kernel_rfl) (x := ([.nil], [], [])) (by kernel_rfl) (by kernel_rfl) (by kernel_rfl)) ?_
  intro W base args ds gs before hval hW hcnd hkk _
  refine law_doneN (N := 1048576) laid (rows4_sound M14_sound rfl rfl rfl) rfl (ts := [75]) (by kernel_rfl) (tb := 4) (by kernel_rfl) (by kernel_rfl) ?_ ?_ ?_ ?_ hval hW (.inr (bulk_le hkk))
  · intro t ht; simp at ht; rcases ht with rfl <;> kernel_rfl
  · intro t ht; simp at ht; rcases ht with rfl <;> exact ⟨by kernel_rfl, of_decide_eq_true (by kernel_rfl)⟩
  · intro ds hd
    match ds, hd with
    | [a], _ => rfl
  · intro xs hxs
    match xs, hxs with
    | [x], h =>
      obtain ⟨l, rfl, l1, l2⟩ := texts_ofN h.1
      exact mkC_at (α := List (List UInt8)) l (okl_of l1 l2) (fun _ _ _ _ => rfl)
    | [], h => exact h.elim
    | _ :: _ :: _, h => exact h.2.elim

set_option maxRecDepth 100000 in
theorem merkleWidths_lifted (os : Os) (started : os.Started) (H : Type) (enc : TypeId × Value → H) :
    ReturnsInHanded {} Try.checked os 10 .any (Rows.merkleWidthsSpec.pre6 enc Try.prog Try.f10 Rows.merkleWidthsRow.domain false) (Rows.merkleWidthsSpec.post enc Try.prog Try.f10 false true false false) := by
  refine returnsInHanded_of_change_sized (C := Try.checked) ownK started (by kernel_rfl) Try.func10
    (ChangeSpec.witness6 (enc := enc) (C := Try.checked) false ⟨#[], #[.int .u8 0, .int .i64 0], []⟩ 8 (by kernel_rfl) (by kernel_rfl) (by kernel_rfl) (by kernel_rfl)) ?_
  intro W base args ds gs before hval hW hcnd hsz _
  refine law_done laid (widths_sound M14_sound rfl rfl) rfl (ts := [5, 3]) (by kernel_rfl) (tb := 4) (by kernel_rfl) (by kernel_rfl) ?_ ?_ ?_ ?_ hval hW
  · intro t ht; simp at ht; rcases ht with rfl | rfl <;> kernel_rfl
  · intro t ht; simp at ht; rcases ht with rfl | rfl <;> exact ⟨by kernel_rfl, of_decide_eq_true (by kernel_rfl)⟩
  · intro ds hd
    match ds, hd with
    | [a, b], _ => rfl
  · intro xs hxs
    match xs, hxs with
    | [x, y], h =>
      obtain ⟨h1, h2, _⟩ := h
      obtain ⟨n, rfl, n1⟩ := u8_ofN h1
      obtain ⟨a, rfl, a1, a2⟩ := int_ofN h2
      exact mkC_at (α := Wi) ⟨n, a⟩ n1 (fun _ _ _ _ => rfl)
    | [], h => exact h.elim
    | [_], h => exact h.2.elim
    | _ :: _ :: _ :: _, h => exact h.2.2.elim

end Go.Proofs.Ytacglboiodolkaa.AM
namespace Go.Proofs.Ytacglboiodolkaa
open Go

theorem merkleTells_over : Rows.merkleTellsUptoRow.holds Try.pinned (Rows.OpenSpec.upto Rows.merkleTellsSpec) :=
  OpenClaim.holds_of_cond 11 Try.f11 rfl rfl rfl rfl rfl rfl rfl ⟨rfl, rfl, rfl, rfl, rfl⟩ rfl rfl rfl rfl rfl (by kernel_rfl) Try.func11 (by kernel_rfl)
    (of_decide_eq_true (by kernel_rfl)) (by unfold Func.isWrapper; first | (rw [if_pos (by decide +kernel)]; kernel_rfl) | (rw [if_neg (by decide +kernel)]; exact ⟨rfl, rfl⟩))
    (fun os started H enc _ F => by rw [OpenClaim.pre_of_none' rfl]; exact AM.merkleTells_lifted os started H enc F)

theorem merkleBack_over : Rows.merkleBackUptoRow.holds Try.pinned (Rows.OpenSpec.upto Rows.merkleBackSpec) :=
  OpenClaim.holds_of_cond 12 Try.f12 rfl rfl rfl rfl rfl rfl rfl ⟨rfl, rfl, rfl, rfl, rfl⟩ rfl rfl rfl rfl rfl (by kernel_rfl) Try.func12 (by kernel_rfl)
    (of_decide_eq_true (by kernel_rfl)) (by unfold Func.isWrapper; first | (rw [if_pos (by decide +kernel)]; kernel_rfl) | (rw [if_neg (by decide +kernel)]; exact ⟨rfl, rfl⟩))
    (fun os started H enc _ F => by rw [OpenClaim.pre_of_none' rfl]; exact AM.merkleBack_lifted os started H enc F)
theorem merkleRows_over : Rows.merkleRowsUptoRow.holds Try.pinned (Rows.OpenSpec.upto Rows.merkleRowsSpec) :=
  OpenClaim.holds_of_cond 9 Try.f9 rfl rfl rfl rfl rfl rfl rfl ⟨rfl, rfl, rfl, rfl, rfl⟩ rfl rfl rfl rfl rfl (by kernel_rfl) Try.func9 (by kernel_rfl)
    (of_decide_eq_true (by kernel_rfl)) (by unfold Func.isWrapper; first | (rw [if_pos (by decide +kernel)]; kernel_rfl) | (rw [if_neg (by decide +kernel)]; exact ⟨rfl, rfl⟩))
    (fun os started H enc _ F => by rw [OpenClaim.pre_of_none' rfl]; exact AM.merkleRows_lifted os started H enc F)
theorem merkleWidths_over : Rows.merkleWidthsRow.holds Try.pinned (OpenSpec.ofChange Rows.merkleWidthsSpec) :=
  OpenClaim.holds_of_wide 10 Try.f10 rfl rfl rfl rfl rfl rfl rfl ⟨rfl, rfl, rfl, rfl, rfl⟩ rfl rfl rfl rfl rfl (by kernel_rfl) Try.func10 (by kernel_rfl)
    (of_decide_eq_true (by kernel_rfl)) (by unfold Func.isWrapper; first | (rw [if_pos (by decide +kernel)]; kernel_rfl) | (rw [if_neg (by decide +kernel)]; exact ⟨rfl, rfl⟩))
    (fun os started H enc _ => AM.merkleWidths_lifted os started H enc)

/-- The rows. -/
theorem merkleTells_holds : Rows.MerkleTellsUptoSaid := merkleTells_over
theorem merkleBack_holds : Rows.MerkleBackUptoSaid := merkleBack_over
theorem merkleRows_holds : Rows.MerkleRowsUptoSaid := merkleRows_over
theorem merkleWidths_holds : Rows.MerkleWidthsSaid := merkleWidths_over
#print axioms merkleTells_holds
#print axioms merkleBack_holds
#print axioms merkleRows_holds
#print axioms merkleWidths_holds
end Go.Proofs.Ytacglboiodolkaa
