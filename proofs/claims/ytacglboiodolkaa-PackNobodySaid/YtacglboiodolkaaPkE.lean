/-
  PACK: what a good writer has written, the reader gives back.
-/
import Derived.Test.YtacglboiodolkaaPkD
import Derived.Test.YtacglboiodolkaaPk7
set_option linter.unusedVariables false
set_option linter.unusedSimpArgs false
namespace Go.Proofs.Ytacglboiodolkaa.AM
open Go

/-- One field's octets. -/
def encF : List PC → List UInt8
  | [.int .i64 k, .int .i64 n, .str s] => if k = 0 then putB n 6 else putB s.length 2 ++ s
  | _ => []
def goodF : List PC → Prop
  | [.int .i64 k, .int .i64 n, .str s] => if k = 0 then 0 ≤ n ∧ n ≤ 1099511627776 else s.length ≤ 4096
  | _ => False

/-- An error stays. -/
theorem stepW_err {w : WS} {r : List PC} (h : (stepW w r).e = 0) : w.e = 0 := by
  unfold stepW at h
  split at h
  · split at h
    · unfold wNum at h
      split at h
      · dsimp only at h
        split at h
        · assumption
        · exact h
      · split at h <;> exact h
    · unfold rText at h
      split at h
      · dsimp only at h
        split at h
        · assumption
        · exact h
      · split at h <;> exact h
  · exact h

theorem stepW_good {w : WS} {r : List PC} (hf : fieldB r = true) (h : (stepW w r).e = 0) (hl : (stepW w r).b.length ≤ 16384) (h16 : w.b.length ≤ 16384) : goodF r ∧ stepW w r = ⟨w.b ++ encF r, 0⟩ := by
  have he := stepW_err h
  unfold fieldB at hf
  split at hf
  · rename_i k n s
    unfold stepW goodF encF at *
    dsimp only at *
    split at h
    · rename_i hk
      simp only [hk, if_true] at *
      unfold wNum at *
      split at h
      · dsimp only at h
        first | (rw [if_pos he] at h; cases h; done) | (cases h; done) | (exact absurd h (by decide))
      · rename_i hn
        rw [if_neg hn, if_pos h16]
        rw [he]
        exact ⟨by omega, rfl⟩
    · rename_i hk
      simp only [hk, if_false] at *
      unfold rText at *
      split at h
      · dsimp only at h
        first | (rw [if_pos he] at h; cases h; done) | (cases h; done) | (exact absurd h (by decide))
      · rename_i hn
        rw [if_neg hn, if_pos h16]
        rw [he, List.append_assoc]
        exact ⟨by omega, rfl⟩
  · cases hf

theorem stepW_mono (w : WS) (r : List PC) : w.b.length ≤ (stepW w r).b.length := by
  unfold stepW
  split
  · split
    · unfold wNum
      split
      · exact Nat.le_refl _
      · split
        · simp
        · exact Nat.le_refl _
    · unfold rText
      split
      · exact Nat.le_refl _
      · split
        · simp only [List.length_append]; omega
        · exact Nat.le_refl _
  · exact Nat.le_refl _

/-- What is good at the end was good all along. -/
theorem fold_good : ∀ (l : List (List PC)) (w : WS), l.all fieldB = true → w.e = 0 → (l.foldl stepW w).e = 0 → (l.foldl stepW w).b.length ≤ 16384 → (∀ r ∈ l, goodF r) ∧ l.foldl stepW w = ⟨w.b ++ l.flatMap encF, 0⟩ := by
  intro l
  induction l with
  | nil => intro w _ h0 _ _; exact ⟨fun r h => (by cases h), (by cases w; simp only [List.foldl_nil, List.flatMap_nil, List.append_nil] at *; rw [h0])⟩
  | cons r l ih =>
    intro w hf h0 he hl
    rw [List.foldl_cons] at he hl ⊢
    rw [List.all_cons, Bool.and_eq_true] at hf
    have herr : ∀ (l : List (List PC)) (w : WS), (l.foldl stepW w).e = 0 → w.e = 0 := by
      intro l
      induction l with
      | nil => intro w h; exact h
      | cons r l ih => intro w h; exact stepW_err (ih _ h)
    have hmono : ∀ (l : List (List PC)) (w : WS), w.b.length ≤ (l.foldl stepW w).b.length := by
      intro l
      induction l with
      | nil => intro w; exact Nat.le_refl _
      | cons r l ih => intro w; exact Nat.le_trans (stepW_mono w r) (ih _)
    have h1 := herr l _ he
    have h2 := Nat.le_trans (hmono l _) hl
    obtain ⟨g1, g2⟩ := stepW_good hf.1 h1 h2 (Nat.le_trans (stepW_mono w r) h2)
    obtain ⟨g3, g4⟩ := ih (stepW w r) hf.2 h1 he hl
    refine ⟨fun q hq => ?_, ?_⟩
    · rcases List.mem_cons.1 hq with rfl | hq
      · exact g1
      · exact g3 q hq
    · rw [g4, g2, List.flatMap_cons, List.append_assoc]

theorem nextN_enc (n : Int) (h0 : 0 ≤ n) (h1 : n ≤ 1099511627776) (rest : List UInt8) : nextN ⟨putB n 6 ++ rest, 0⟩ 1099511627776 = (n, ⟨rest, 0⟩) := by
  have hl : (putB n 6).length = 6 := putB_length n 6
  have ht : (putB n 6 ++ rest).take 6 = putB n 6 := by rw [List.take_append_of_le_length (by omega), ← hl, List.take_length]
  have hd : (putB n 6 ++ rest).drop 6 = rest := by rw [List.drop_append_of_le_length (by omega), List.drop_of_length_le (by omega), List.nil_append]
  unfold nextN
  rw [ht, hd, getB_putB6 n h0 h1, if_neg (by simp only [List.length_append]; omega), if_neg (by omega)]

theorem nextT_enc (s : List UInt8) (h : s.length ≤ 4096) (rest : List UInt8) : nextT ⟨putB s.length 2 ++ (s ++ rest), 0⟩ 4096 = (s, ⟨rest, 0⟩) := by
  have hl : (putB (s.length : Int) 2).length = 2 := putB_length _ 2
  have ht : (putB (s.length : Int) 2 ++ (s ++ rest)).take 2 = putB s.length 2 := by rw [List.take_append_of_le_length (by omega), ← hl, List.take_length]
  have hd : (putB (s.length : Int) 2 ++ (s ++ rest)).drop 2 = s ++ rest := by rw [List.drop_append_of_le_length (by omega), List.drop_of_length_le (by omega), List.nil_append]
  unfold nextT
  rw [ht, hd, getB_putB2 _ h, if_neg (by simp only [List.length_append]; omega), if_neg (by omega)]
  unfold tookR
  rw [if_neg (by simp only [List.length_append]; omega)]
  simp

end Go.Proofs.Ytacglboiodolkaa.AM
