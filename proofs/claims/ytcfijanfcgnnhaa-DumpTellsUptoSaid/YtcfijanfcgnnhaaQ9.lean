/-
  Q9: Dm1.
-/
import Derived.Lib.Bytealg
set_option linter.unusedVariables false
set_option linter.unusedSimpArgs false
namespace Go.Proofs.Ytcfijanfcgnnhaa.AM
open Go


def letters : List UInt8 := [48, 49, 50, 51, 52, 53, 54, 55, 56, 57, 97, 98, 99, 100, 101, 102]
def hx (n : Nat) : UInt8 := letters.getD n 0
def hexL : List UInt8 → List UInt8
  | [] => []
  | b :: l => hx (b.toNat / 16) :: hx (b.toNat % 16) :: hexL l
def hexS (s : List UInt8) : List UInt8 := if s = [] then [46] else hexL s
def unL : List UInt8 → Option (List UInt8)
  | [] => some []
  | [_] => none
  | x :: y :: r => if Lib.indexByte letters x < 0 ∨ Lib.indexByte letters y < 0 then none else (unL r).map (UInt8.ofNat ((Lib.indexByte letters x).toNat * 16 + (Lib.indexByte letters y).toNat) :: ·)
def unS (s : List UInt8) : Option (List UInt8) := if s = [46] then some [] else if s = [] then none else unL s
theorem hexL_length : ∀ l : List UInt8, (hexL l).length = 2 * l.length
  | [] => rfl
  | b :: l => by simp [hexL, hexL_length l]; omega
theorem hexL_append : ∀ a b : List UInt8, hexL (a ++ b) = hexL a ++ hexL b
  | [], b => rfl
  | x :: a, b => by simp [hexL, hexL_append a b]
theorem hexS_length (s : List UInt8) : (hexS s).length ≤ 2 * s.length + 1 := by
  unfold hexS
  split
  · simp
  · rw [hexL_length]; omega
theorem hx_ix : ∀ c : Fin 256, Lib.indexByte letters (UInt8.ofNat c.1) < 0 ∨ ((Lib.indexByte letters (UInt8.ofNat c.1)).toNat < 16 ∧ hx (Lib.indexByte letters (UInt8.ofNat c.1)).toNat = UInt8.ofNat c.1) := by decide +kernel
theorem hx_ix' (c : UInt8) (h : ¬ Lib.indexByte letters c < 0) : (Lib.indexByte letters c).toNat < 16 ∧ hx (Lib.indexByte letters c).toNat = c := by
  have := hx_ix ⟨c.toNat, c.toNat_lt⟩
  rw [show UInt8.ofNat (⟨c.toNat, c.toNat_lt⟩ : Fin 256).1 = c from by simp] at this
  exact this.resolve_left h
theorem unL_even : ∀ (l m : List UInt8), unL l = some m → l.length = 2 * m.length ∧ hexL m = l
  | [], m, h => by cases h; exact ⟨rfl, rfl⟩
  | [_], m, h => by cases h
  | x :: y :: r, m, h => by
    unfold unL at h
    split at h
    · cases h
    · rename_i hn
      have hn' : ¬ Lib.indexByte letters x < 0 ∧ ¬ Lib.indexByte letters y < 0 := not_or.1 hn
      cases hu : unL r with
      | none => rw [hu] at h; cases h
      | some k =>
        rw [hu] at h
        cases h
        obtain ⟨e1, e2⟩ := unL_even r k hu
        obtain ⟨a1, a2⟩ := hx_ix' x hn'.1
        obtain ⟨b1, b2⟩ := hx_ix' y hn'.2
        refine ⟨by simp [e1]; omega, ?_⟩
        unfold hexL
        have en : (UInt8.ofNat ((Lib.indexByte letters x).toNat * 16 + (Lib.indexByte letters y).toNat)).toNat = (Lib.indexByte letters x).toNat * 16 + (Lib.indexByte letters y).toNat := by
          rw [UInt8.toNat_ofNat']; omega
        rw [en, show ((Lib.indexByte letters x).toNat * 16 + (Lib.indexByte letters y).toNat) / 16 = (Lib.indexByte letters x).toNat by omega, show ((Lib.indexByte letters x).toNat * 16 + (Lib.indexByte letters y).toNat) % 16 = (Lib.indexByte letters y).toNat by omega, a2, b2, e2]
end Go.Proofs.Ytcfijanfcgnnhaa.AM
