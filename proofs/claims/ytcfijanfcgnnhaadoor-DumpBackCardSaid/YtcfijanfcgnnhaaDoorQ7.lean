/-
  Q7: Db0.
-/
import Derived.Test.YtcfijanfcgnnhaaDoorQ5
import Derived.Lib.SplitLaws
import Derived.Lib.Join
set_option linter.unusedVariables false
set_option linter.unusedSimpArgs false
namespace Go.Proofs.YtcfijanfcgnnhaaDoor.AM
open Go

def sp32 : List UInt8 → List (List UInt8)
  | [] => [[]]
  | c :: l => if c = 32 then [] :: sp32 l else match sp32 l with
    | w :: ws => (c :: w) :: ws
    | [] => [[c]]
theorem sp32_ne (s : List UInt8) : sp32 s ≠ [] := by
  cases s with
  | nil => simp [sp32]
  | cons c l =>
    unfold sp32
    split
    · simp
    · split <;> simp
theorem join_cons2 (w v : List UInt8) (ws : List (List UInt8)) : Lib.join (w :: v :: ws) [32] = w ++ 32 :: Lib.join (v :: ws) [32] := by
  simp [Lib.join, List.intercalate, List.intersperse]
theorem sp32_join : ∀ s : List UInt8, Lib.join (sp32 s) [32] = s
  | [] => rfl
  | c :: l => by
    have ih := sp32_join l
    unfold sp32
    split
    · rename_i h
      subst h
      cases h2 : sp32 l with
      | nil => exact absurd h2 (sp32_ne l)
      | cons v ws =>
        rw [h2] at ih
        rw [join_cons2, ih]
        rfl
    · cases h2 : sp32 l with
      | nil => exact absurd h2 (sp32_ne l)
      | cons v ws =>
        rw [h2] at ih
        dsimp only
        cases ws with
        | nil =>
          rw [Lib.join_one] at ih ⊢
          rw [ih]
        | cons x xs =>
          rw [join_cons2] at ih ⊢
          rw [← ih]
          rfl
theorem sp32_word {w : List UInt8} (h : (32 : UInt8) ∉ w) : sp32 w = [w] := by
  induction w with
  | nil => rfl
  | cons c l ih =>
    simp only [List.mem_cons, not_or] at h
    unfold sp32
    rw [if_neg (Ne.symm h.1), ih h.2]
theorem sp32_front {w : List UInt8} (h : (32 : UInt8) ∉ w) (s : List UInt8) : sp32 (w ++ 32 :: s) = w :: sp32 s := by
  induction w with
  | nil => simp [sp32]
  | cons c l ih =>
    simp only [List.mem_cons, not_or] at h
    rw [List.cons_append]
    conv => lhs; unfold sp32
    rw [if_neg (Ne.symm h.1), ih h.2]
theorem sp32_of_join : ∀ {ws : List (List UInt8)}, ws ≠ [] → (∀ w ∈ ws, (32 : UInt8) ∉ w) → sp32 (Lib.join ws [32]) = ws
  | [], h, _ => absurd rfl h
  | [w], _, h => by rw [Lib.join_one]; exact sp32_word (h w (by simp))
  | w :: v :: ws, _, h => by
    rw [join_cons2, sp32_front (h w (by simp)), sp32_of_join (ws := v :: ws) (by simp) (fun x hx => h x (by simp [hx]))]
theorem sp32_len : ∀ s : List UInt8, (sp32 s).length ≤ s.length + 1
  | [] => by simp [sp32]
  | c :: l => by
    have ih := sp32_len l
    unfold sp32
    split
    · simpa using ih
    · split
      · rename_i w ws h; rw [h] at ih; simp at ih ⊢; omega
      · simp
theorem sp32_mem : ∀ (s w : List UInt8), w ∈ sp32 s → w.length ≤ s.length
  | [], w, h => by simp [sp32] at h; subst h; simp
  | c :: l, w, h => by
    have ih := sp32_mem l
    unfold sp32 at h
    split at h
    · rcases List.mem_cons.1 h with h | h
      · subst h; simp
      · have := ih w h; simp; omega
    · split at h
      · rename_i v ws h2
        rcases List.mem_cons.1 h with h | h
        · subst h
          have := ih v (by rw [h2]; simp)
          simp; omega
        · have := ih w (by rw [h2]; simp [h])
          simp; omega
      · simp at h; subst h; simp

def numL : Nat → List UInt8 → Option Nat
  | n, [] => some n
  | n, c :: l => if c.toNat < 48 ∨ 57 < c.toNat then none else numL (n * 10 + (c.toNat - 48)) l
def numP (s : List UInt8) : Option Nat :=
  if s = [] ∨ 13 < s.length ∨ (s.headD 0 = 48 ∧ 1 < s.length) then none else match numL 0 s with
  | some n => if 1099511627776 < n then none else some n
  | none => none
theorem numL_append : ∀ (a b : List UInt8) (n : Nat), numL n (a ++ b) = (numL n a).bind fun m => numL m b
  | [], b, n => rfl
  | c :: a, b, n => by
    rw [List.cons_append, numL, numL]
    split
    · rfl
    · exact numL_append a b _
/-- The library's own cut. -/
theorem index_cons32 (b : UInt8) (l : List UInt8) : Lib.index (b :: l) [32] = if b = 32 then 0 else if Lib.index l [32] == -1 then -1 else Lib.index l [32] + 1 := by
  have h : List.isPrefixOf [(32 : UInt8)] (b :: l) = ((32 : UInt8) == b) := by simp [List.isPrefixOf]
  rw [Lib.index, h]
  by_cases hb : b = 32
  · subst hb; simp
  · rw [if_neg hb, if_neg (by simpa using Ne.symm hb)]
theorem split_sp32 : ∀ s : List UInt8, Lib.split s [32] = sp32 s
  | [] => by
    unfold Lib.split
    cases h : Lib.count [] [(32 : UInt8)] with
    | zero => rfl
    | succ k => rfl
  | b :: l => by
    have ih := split_sp32 l
    unfold Lib.split at ih ⊢
    by_cases hb : b = 32
    · subst hb
      rw [Lib.count_cons_eq, Nat.add_comm, Lib.splitK, index_cons32, if_pos rfl, if_neg (by decide)]
      rw [sp32, if_pos rfl, ← ih]
      rfl
    · rw [Lib.count_cons_ne b 32 l hb]
      conv => rhs; rw [sp32, if_neg hb, ← ih]
      cases Lib.count l [(32 : UInt8)] with
      | zero => rfl
      | succ k =>
        rw [Lib.splitK, Lib.splitK, index_cons32, if_neg hb]
        rcases Lib.index_spec l [32] with ⟨h, _⟩ | ⟨i, h, _⟩
        · rw [h]; rfl
        · rw [h]
          have e1 : ((i : Int) == -1) = false := beq_eq_false_iff_ne.2 (by omega)
          have e2 : ((i : Int) + 1 == -1) = false := beq_eq_false_iff_ne.2 (by omega)
          have e3 : ((i : Int) + 1).toNat = i + 1 := by omega
          have e4 : ((i : Int)).toNat = i := by omega
          simp only [e1, Bool.false_eq_true, if_false, e2, e3, e4]
          rw [show i + 1 + [(32 : UInt8)].length = (i + [(32 : UInt8)].length) + 1 by simp, List.drop_succ_cons, Nat.add_zero, List.take_succ_cons, Nat.add_zero]

end Go.Proofs.YtcfijanfcgnnhaaDoor.AM
