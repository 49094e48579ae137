/-
  The law PackNobody holds: of writers and readers that nobody made there is nothing.
-/
import Derived.Test.YtacglboiodolkaaPkG
import Derived.Test.YtacglboiodolkaaPkV
set_option linter.unusedVariables false
set_option linter.unusedSimpArgs false
namespace Go.Proofs.Ytacglboiodolkaa.AM
open Go

set_option maxRecDepth 100000 in
theorem int_of {x : AV} (h : AVT Try.prog 3 x) : ∃ n : Int, x = .c (.int .i64 n) := by
  obtain ⟨n, cs, hp, hx⟩ := h
  have u3 : Try.prog.underlying 3 = some (.int .i64) := by kernel_rfl
  rw [u3] at hx
  obtain ⟨c, rfl, rfl⟩ := hx
  cases n with
  | zero => exact hp.elim
  | succ n =>
    simp only [PT, u3] at hp
    obtain ⟨v, hv, _⟩ := hp
    cases hv
    exact ⟨v, rfl⟩
set_option maxRecDepth 100000 in
theorem str_of {x : AV} (h : AVT Try.prog 9 x) : ∃ s : List UInt8, x = .c (.str s) ∧ s.length ≤ 9223372036854775807 := by
  obtain ⟨n, cs, hp, hx⟩ := h
  have u3 : Try.prog.underlying 9 = some .string := by kernel_rfl
  rw [u3] at hx
  obtain ⟨c, rfl, rfl⟩ := hx
  cases n with
  | zero => exact hp.elim
  | succ n =>
    simp only [PT, u3] at hp
    obtain ⟨v, hv, hl⟩ := hp
    cases hv
    exact ⟨v, rfl, by simp [maxLen] at hl; omega⟩

def N1 : FuncId → Contract := ext (ext (ext R5 22 (orC numC numN)) 24 (orC textC textN)) 26 (orC doneC doneN)
theorem N1_sound : SoundG Try.prog N1 :=
  ext_sound (ext_sound (ext_sound R5_sound (orC_sound (num_sound G1_sound rfl rfl) (numN_sound none0_sound))) (orC_sound (text_sound G1_sound rfl rfl) (textN_sound none0_sound))) (orC_sound (done_sound G1_sound rfl) (doneN_sound none0_sound))

set_option maxRecDepth 100000 in
theorem nobody_lifted (os : Os) (started : os.Started) (H : Type) (enc : TypeId × Value → H) :
    ReturnsInHanded {} Try.checked os 7 .any (Rows.packNobodySpec.pre6 enc Try.prog Try.f7 Rows.packNobodyRow.domain false) (Rows.packNobodySpec.post enc Try.prog Try.f7 false true false false) := by
  refine returnsInHanded_of_change_sized (C := Try.checked) ownK started (by kernel_rfl) Try.func7
    (ChangeSpec.witness6 (enc := enc) (C := Try.checked) false ⟨#[], #[.int .i64 0, .string ⟨#[]⟩], []⟩ 8 (by kernel_rfl) (by kernel_rfl) (by kernel_rfl) (by kernel_rfl)) ?_
  intro W base args ds gs before hval hW hcnd hsz _
  refine law_done laid (nobody_sound N1_sound rfl rfl rfl rfl rfl rfl rfl rfl) rfl (ts := [3, 9]) (by kernel_rfl) (tb := 4) (by kernel_rfl) (by kernel_rfl) ?_ ?_ ?_ ?_ hval hW
  · intro t ht; simp at ht; rcases ht with rfl | rfl <;> kernel_rfl
  · intro t ht; simp at ht; rcases ht with rfl | rfl <;> exact ⟨by kernel_rfl, of_decide_eq_true (by kernel_rfl)⟩
  · intro ds hd
    match ds, hd with
    | [d, e], _ => rfl
  · intro xs hxs
    match xs, hxs with
    | [x, y], h =>
      obtain ⟨h1, h2, _⟩ := h
      obtain ⟨n, rfl⟩ := int_of h1
      obtain ⟨s, rfl, hs⟩ := str_of h2
      simp [nobodyC, hs]
    | [], h => exact h.elim
    | [_], h => exact h.2.elim
    | _ :: _ :: _ :: _, h => exact h.2.2.elim

end Go.Proofs.Ytacglboiodolkaa.AM
namespace Go.Proofs.Ytacglboiodolkaa
open Go

theorem packNobody_over : Rows.packNobodyRow.holds Try.pinned (OpenSpec.ofChange Rows.packNobodySpec) :=
  OpenClaim.holds_of_wide 7 Try.f7 rfl rfl rfl rfl rfl rfl rfl ⟨rfl, rfl, rfl, rfl, rfl⟩ rfl rfl rfl rfl rfl (by kernel_rfl) Try.func7 (by kernel_rfl)
    (of_decide_eq_true (by kernel_rfl)) (by unfold Func.isWrapper; first | (rw [if_pos (by decide +kernel)]; kernel_rfl) | (rw [if_neg (by decide +kernel)]; exact ⟨rfl, rfl⟩))
    (fun os started H enc _ => AM.nobody_lifted os started H enc)

/-- The law's row. -/
theorem packNobody_holds : Rows.PackNobodySaid := packNobody_over
#print axioms packNobody_holds
end Go.Proofs.Ytacglboiodolkaa
