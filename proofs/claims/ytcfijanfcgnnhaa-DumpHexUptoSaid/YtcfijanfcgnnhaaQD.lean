/-
  QD: Dw5.
-/
import Derived.Test.YtcfijanfcgnnhaaQC
import Derived.ProofKit
import Derived.SizedLaws
import Derived.JoinedCond
set_option linter.unusedVariables false
set_option linter.unusedSimpArgs false
namespace Go.Proofs.Ytcfijanfcgnnhaa.AM
open Go

variable {Γ : FuncId → Contract}

theorem laid : laidOutB Try.prog = true := by kernel_rfl
theorem ownK : ownKnob Try.prog.godebug = none := by kernel_rfl
set_option maxRecDepth 100000 in
theorem str_ofN {N : Nat} {x : AV} (h : AVTn Try.prog N 9 x) : ∃ s : List UInt8, x = .c (.str s) ∧ s.length ≤ N := by
  obtain ⟨n, cs, hp, hx⟩ := h
  have u3 : Try.prog.underlying 9 = some .string := by kernel_rfl
  rw [u3] at hx
  obtain ⟨c, rfl, rfl⟩ := hx
  cases n with
  | zero => exact hp.elim
  | succ n =>
    simp only [PTn, u3] at hp
    obtain ⟨v, hv, hl⟩ := hp
    cases hv
    exact ⟨v, rfl, hl⟩
noncomputable def DH1 : FuncId → Contract := (ext (ext none0 11 hexC) 10 unhexC)
theorem DH1_sound : SoundG Try.prog DH1 := (ext_sound (ext_sound none0_sound hex_sound) unhex_sound)
noncomputable def DH2 : FuncId → Contract := (ext DH1 9 alive39C)
theorem DH2_sound : SoundG Try.prog DH2 := (ext_sound DH1_sound (alive39_sound DH1_sound rfl rfl))

set_option maxRecDepth 100000 in
theorem dumpHex_lifted (os : Os) (started : os.Started) (H : Type) (enc : TypeId × Value → H) (F : Stop.Interp) :
    ReturnsInHanded {} Try.checked os 3 .any ((Rows.OpenSpec.upto Rows.dumpHexSpec).pre6 enc Try.prog Try.f3 Rows.dumpHexUptoRow.domain false) (((Rows.OpenSpec.upto Rows.dumpHexSpec).at F).post enc Try.prog Try.f3 false true false false) := by
  refine returnsInHanded_of_cond (C := Try.checked) (k := Rows.uptoSmall) rfl ownK started (by kernel_rfl) Try.func3
    (OpenSpec.witness (enc := enc) (C := Try.checked) (k := Rows.uptoSmall) rfl false ⟨#[], #[.string ⟨#[]⟩, .string ⟨#[]⟩], []⟩ 8 (by kernel_rfl) (by kernel_rfl) (by kernel_rfl) (x := ([.lit (.string []), .lit (.string [])], [], [])) (by kernel_rfl) (by kernel_rfl) (by kernel_rfl)) ?_
  intro W base args ds gs before hval hW hcnd hkk _
  refine law_doneN (N := 1048576) laid (dh_sound DH2_sound rfl rfl rfl) rfl (ts := [9, 9]) (by kernel_rfl) (tb := 4) (by kernel_rfl) (by kernel_rfl) ?_ ?_ ?_ ?_ hval hW (.inr (bulk_le hkk))
  · intro t ht; simp only [List.mem_cons, List.not_mem_nil, or_false] at ht; rcases ht with rfl | rfl <;> kernel_rfl
  · intro t ht; simp only [List.mem_cons, List.not_mem_nil, or_false] at ht; rcases ht with rfl | rfl <;> exact ⟨by kernel_rfl, of_decide_eq_true (by kernel_rfl)⟩
  · intro ds hd
    match ds, hd with
    | [a, b], _ => rfl
  · intro xs hxs
    match xs, hxs with
    | [x, y], h =>
      obtain ⟨h1, h2, _⟩ := h
      obtain ⟨s, rfl, s1⟩ := str_ofN h1
      obtain ⟨u, rfl, u1⟩ := str_ofN h2
      exact mkC_at (α := List UInt8 × List UInt8) (s, u) ⟨Nat.le_trans s1 (by decide), Nat.le_trans u1 (by decide)⟩ (fun _ _ _ _ => rfl)
    | [], h => exact h.elim
    | [_], h => exact h.2.elim
    | _ :: _ :: _ :: _, h => exact h.2.2.elim


end Go.Proofs.Ytcfijanfcgnnhaa.AM

namespace Go.Proofs.Ytcfijanfcgnnhaa
open Go

theorem dumpHex_over : Rows.dumpHexUptoRow.holds Try.pinned (Rows.OpenSpec.upto Rows.dumpHexSpec) :=
  OpenClaim.holds_of_cond 3 Try.f3 rfl rfl rfl rfl rfl rfl rfl ⟨rfl, rfl, rfl, rfl, rfl⟩ rfl rfl rfl rfl rfl (by kernel_rfl) Try.func3 (by kernel_rfl)
    (of_decide_eq_true (by kernel_rfl)) (by unfold Func.isWrapper; first | (rw [if_pos (by decide +kernel)]; kernel_rfl) | (rw [if_neg (by decide +kernel)]; exact ⟨rfl, rfl⟩))
    (fun os started H enc _ F => by rw [OpenClaim.pre_of_none' rfl]; exact AM.dumpHex_lifted os started H enc F)

/-- The row. -/
theorem dumpHex_holds : Rows.DumpHexUptoSaid := dumpHex_over
#print axioms dumpHex_holds
end Go.Proofs.Ytcfijanfcgnnhaa
