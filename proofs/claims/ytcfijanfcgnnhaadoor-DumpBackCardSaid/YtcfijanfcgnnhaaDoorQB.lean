/-
  QB: Dv2.
-/
import Derived.Test.YtcfijanfcgnnhaaDoorQ8
import Derived.Test.YtcfijanfcgnnhaaDoorQA
set_option linter.unusedVariables false
set_option linter.unusedSimpArgs false
namespace Go.Proofs
open Go.RowKit
open Go.Proofs.YtcfijanfcgnnhaaDoor.AM

def TxtR (p bk : Nat) (rest : List (List UInt8)) : Option (List UInt8) → Ending → World → Prop
  | some s, e, w' => e = .returned (.string ⟨s.toArray⟩) ∧ WdsAt w' p bk rest
  | none, e, w' => e = .panicked [faultV 51]

set_option maxHeartbeats 4000000 in
set_option maxRecDepth 1000000 in
theorem Tryd.text_none (p bk : Nat) (w : World) (h : WdsAt w p bk []) :
    Calls Tryd.prog 32 #[.pointer (some ⟨p, 0, none⟩)] w fun e w' => e = .panicked [faultV 51] ∧ Bes p w w' := by
  go_enter Tryd.func32, Tryd.ntmps32
  go_wp2_with (go_at_call 30; refine (Tryd.next_none p bk _ h).mono ?_; rintro e w1 ⟨rfl, b1⟩)
  exact ⟨rfl, rfl, b1⟩

set_option maxHeartbeats 4000000 in
set_option maxRecDepth 1000000 in
theorem Tryd.text_some (p bk : Nat) (s : List UInt8) (rest : List (List UInt8)) (w : World) (h : WdsAt w p bk (s :: rest)) (hs : s.length ≤ 16384) :
    Calls Tryd.prog 32 #[.pointer (some ⟨p, 0, none⟩)] w fun e w' => Bes p w w' ∧ TxtR p bk rest (unS s) e w' := by
  have hp := h.sz
  go_enter Tryd.func32, Tryd.ntmps32
  go_wp2_with (go_at_call 30; refine (Tryd.next_some p bk s rest _ h).mono ?_; rintro e w1 ⟨rfl, hW, b1⟩)
  have hu := Tryd.unhex_walk ⟨s.toArray⟩ w1 (by show s.toArray.size ≤ _; simp; omega)
  rw [show (⟨s.toArray⟩ : ByteArray).data.toList = s from rfl] at hu
  have hsz : p < w1.heap.size := hW.sz
  cases hq : unS s with
  | none =>
    rw [hq] at hu
    go_wp2_with (go_at_call 9; refine hu.mono ?_; rintro e w2 ⟨rfl, b2⟩)
    refine ⟨rfl, b1.trans (Bes.of b2), ?_⟩
    rw [hq]
    rfl
  | some m =>
    rw [hq] at hu
    go_wp2_with (go_at_call 9; refine hu.mono ?_; rintro e w2 ⟨rfl, b2⟩)
    go_ret
    refine ⟨b1.trans (Bes.of b2), ?_⟩
    rw [hq]
    exact ⟨rfl, hW.below b2 hsz⟩

end Go.Proofs
