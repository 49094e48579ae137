/-
  Merkle, the plain part: rows of texts, the row above, the root, paths, climbing.
-/
import Derived.Test.YtjdokoldiemobaaShT
set_option linter.unusedVariables false
set_option linter.unusedSimpArgs false
namespace Go.Proofs.Ytjdokoldiemobaa.AM
open Go

theorem texts_get (l : List (List UInt8)) (i : Nat) (h : i < l.length) : (texts l)[i]? = some [.str (l[i]'h)] := by simp [texts, h]

noncomputable def upS : List (List UInt8) → List (List UInt8)
  | a :: b :: l => shortS (a ++ b) :: upS l
  | l => l
theorem upS_nil : upS [] = [] := by rw [upS]; intro a b l h; cases h
theorem upS_one (x : List UInt8) : upS [x] = [x] := by rw [upS]; intro a b l h; cases h
theorem upS_length : ∀ (l : List (List UInt8)), (upS l).length = (l.length + 1) / 2
  | [] => by rw [upS_nil]; rfl
  | [x] => by rw [upS_one]; simp
  | a :: b :: l => by
    rw [upS, List.length_cons, upS_length l]
    simp only [List.length_cons]; omega
/-- All texts are short enough. -/
def Okl (l : List (List UInt8)) : Prop := l.length ≤ 1099511627 ∧ ∀ s ∈ l, s.length ≤ 10995116277
theorem upS_mem : ∀ (l : List (List UInt8)), (∀ s ∈ l, s.length ≤ 10995116277) → ∀ s ∈ upS l, s.length ≤ 10995116277
  | [], _, s, hs => by rw [upS_nil] at hs; cases hs
  | [x], h, s, hs => by rw [upS_one] at hs; exact h s hs
  | a :: b :: l, h, s, hs => by
    rw [upS] at hs
    rcases List.mem_cons.1 hs with rfl | hs
    · rw [shortS_length]; decide
    · exact upS_mem l (fun x hx => h x (by simp [hx])) s hs
theorem upS_ok {l : List (List UInt8)} (h : Okl l) : Okl (upS l) := by
  refine ⟨?_, upS_mem l h.2⟩
  rw [upS_length]
  have := h.1
  omega

noncomputable def rootF : Nat → List (List UInt8) → List UInt8
  | 0, l => l.headD []
  | n + 1, l => if l.length ≤ 1 then l.headD [] else rootF n (upS l)
noncomputable def rootS (l : List (List UInt8)) : List UInt8 := rootF l.length l
theorem rootF_eq : ∀ (n m : Nat) (l : List (List UInt8)), l.length ≤ n + 1 → l.length ≤ m + 1 → rootF n l = rootF m l
  | 0, 0, l, _, _ => rfl
  | 0, m + 1, l, h, _ => by rw [rootF, rootF, if_pos (by omega)]
  | n + 1, 0, l, _, h => by rw [rootF, rootF, if_pos (by omega)]
  | n + 1, m + 1, l, h1, h2 => by
    rw [rootF, rootF]
    split
    · rfl
    · exact rootF_eq n m _ (by rw [upS_length]; omega) (by rw [upS_length]; omega)
theorem rootS_le {l : List (List UInt8)} (h : l.length ≤ 1) : rootS l = l.headD [] := by
  unfold rootS
  rw [rootF_eq l.length 0 l (by omega) (by omega), rootF]
theorem rootS_gt {l : List (List UInt8)} (h : ¬ l.length ≤ 1) : rootS l = rootS (upS l) := by
  unfold rootS
  have hl := upS_length l
  obtain ⟨n, hn⟩ : ∃ n, l.length = n + 1 := ⟨l.length - 1, by omega⟩
  rw [hn, rootF, if_neg h]
  exact rootF_eq _ _ _ (by omega) (by omega)

/-- A number of leaves that is a power of two. -/
def powB : Nat → Nat → Bool
  | 0, _ => false
  | f + 1, n => if n ≤ 1 then n == 1 else n % 2 == 0 && powB f (n / 2)
/-- The neighbours on the way up. -/
noncomputable def pathF : Nat → List (List UInt8) → Nat → List (List UInt8)
  | 0, _, _ => []
  | n + 1, l, at_ => if l.length ≤ 1 then [] else l.getD (if at_ % 2 = 1 then at_ - 1 else at_ + 1) [] :: pathF n (upS l) (at_ / 2)
/-- To the root. -/
noncomputable def climbS : List UInt8 → Nat → List (List UInt8) → List UInt8
  | leaf, _, [] => leaf
  | leaf, at_, s :: path => climbS (if at_ % 2 = 1 then shortS (s ++ leaf) else shortS (leaf ++ s)) (at_ / 2) path

theorem powB_even {f n : Nat} (h : powB (f + 1) n = true) (h1 : 1 < n) : n % 2 = 0 ∧ powB f (n / 2) = true := by
  rw [powB, if_neg (by omega), Bool.and_eq_true, beq_iff_eq] at h
  exact h
theorem powB_of : ∀ (f j : Nat), j < f → powB f (2 ^ j) = true
  | 0, j, h => by omega
  | f + 1, 0, _ => rfl
  | f + 1, j + 1, h => by
    have h2 : 2 ^ (j + 1) = 2 * 2 ^ j := by rw [Nat.pow_succ]; omega
    have hp : 1 ≤ 2 ^ j := Nat.one_le_two_pow
    rw [powB, if_neg (by omega), h2, Nat.mul_mod_right, Nat.mul_div_cancel_left _ (by decide), powB_of f j (by omega)]
    rfl
theorem powB_to : ∀ (f n : Nat), powB f n = true → ∃ j, n = 2 ^ j
  | 0, n, h => by simp [powB] at h
  | f + 1, n, h => by
    by_cases h1 : n ≤ 1
    · rw [powB, if_pos h1, beq_iff_eq] at h; exact ⟨0, h⟩
    · obtain ⟨h2, h3⟩ := powB_even h (by omega)
      obtain ⟨j, hj⟩ := powB_to f _ h3
      exact ⟨j + 1, by rw [Nat.pow_succ]; omega⟩
theorem pow_lt (n : Nat) : n < 2 ^ n := Nat.lt_two_pow_self
theorem powB_fuel {f g n : Nat} (hf : n ≤ f) (hg : n ≤ g) (hn : 1 ≤ n) : powB f n = powB g n := by
  have key : ∀ f g, n ≤ f → n ≤ g → powB f n = true → powB g n = true := by
    intro f g _ hg h
    obtain ⟨j, rfl⟩ := powB_to f n h
    exact powB_of g j (by have := pow_lt j; omega)
  cases h1 : powB f n <;> cases h2 : powB g n <;> try rfl
  · rw [key g f hg hf h2] at h1; cases h1
  · rw [key f g hf hg h1] at h2; cases h2
/-- Is it a power of two? -/
def powN (n : Nat) : Bool := powB n n
theorem powN_half {n : Nat} (h : powN n = true) (h1 : 1 < n) : n % 2 = 0 ∧ powN (n / 2) = true := by
  unfold powN at h ⊢
  obtain ⟨f, rfl⟩ : ∃ f, n = f + 1 := ⟨n - 1, by omega⟩
  obtain ⟨h2, h3⟩ := powB_even h h1
  exact ⟨h2, by rw [powB_fuel (g := f) (Nat.le_refl _) (by omega) (by omega)]; exact h3⟩
theorem powN_of (j : Nat) : powN (2 ^ j) = true := powB_of _ _ (pow_lt j)
theorem powN_to {n : Nat} (h : powN n = true) : ∃ j, n = 2 ^ j := powB_to n n h

theorem pathF_eq : ∀ (n m : Nat) (l : List (List UInt8)) (a : Nat), l.length ≤ n + 1 → l.length ≤ m + 1 → pathF n l a = pathF m l a
  | 0, 0, l, a, _, _ => rfl
  | 0, m + 1, l, a, h, _ => by rw [pathF, pathF, if_pos (by omega)]
  | n + 1, 0, l, a, _, h => by rw [pathF, pathF, if_pos (by omega)]
  | n + 1, m + 1, l, a, h1, h2 => by
    rw [pathF, pathF]
    split
    · rfl
    · rw [pathF_eq n m _ _ (by rw [upS_length]; omega) (by rw [upS_length]; omega)]
noncomputable def pathP (l : List (List UInt8)) (a : Nat) : List (List UInt8) := pathF l.length l a
def nb (a : Nat) : Nat := if a % 2 = 1 then a - 1 else a + 1
theorem pathP_le {l : List (List UInt8)} (h : l.length ≤ 1) (a : Nat) : pathP l a = [] := by
  unfold pathP
  rw [pathF_eq l.length 0 l a (by omega) (by omega), pathF]
theorem pathP_gt {l : List (List UInt8)} (h : ¬ l.length ≤ 1) (a : Nat) : pathP l a = l.getD (nb a) [] :: pathP (upS l) (a / 2) := by
  unfold pathP
  have hl := upS_length l
  obtain ⟨n, hn⟩ : ∃ n, l.length = n + 1 := ⟨l.length - 1, by omega⟩
  rw [hn, pathF, if_neg h, pathF_eq n (upS l).length _ _ (by omega) (by omega)]
  rfl
/-- The path, or why there is none. -/
noncomputable def pathS (l : List (List UInt8)) (a : Int) : List (List UInt8) × Int :=
  if a < 0 ∨ (l.length : Int) ≤ a then ([], 4) else if powN l.length = true then (pathP l a.toNat, 0) else ([], 3)
theorem land_pred : ∀ (f n : Nat), n ≤ f → 1 ≤ n → (n &&& (n - 1) = 0 ↔ powB f n = true)
  | 0, n, h, h1 => by omega
  | f + 1, n, h, h1 => by
    have hd := @Nat.and_div_two n (n - 1)
    have hm := @Nat.and_mod_two_eq_one n (n - 1)
    by_cases e : n ≤ 1
    · have : n = 1 := by omega
      subst this
      simp [powB]
    · rw [powB, if_neg e, Bool.and_eq_true, beq_iff_eq]
      by_cases e2 : n % 2 = 0
      · have ih := land_pred f (n / 2) (by omega) (by omega)
        rw [show (n - 1) / 2 = n / 2 - 1 from by omega] at hd
        constructor
        · intro h0
          refine ⟨e2, ih.1 ?_⟩
          rw [← hd, h0]
        · rintro ⟨_, h3⟩
          have := ih.2 h3
          omega
      · constructor
        · intro h0
          rw [show (n - 1) / 2 = n / 2 from by omega, Nat.and_self] at hd
          omega
        · rintro ⟨h3, _⟩; omega

theorem upS_get : ∀ (l : List (List UInt8)) (i : Nat), 2 * i + 1 < l.length → (upS l)[i]? = some (shortS (l.getD (2 * i) [] ++ l.getD (2 * i + 1) []))
  | [], i, h => by simp at h
  | [_], i, h => by simp at h
  | a :: b :: l, i, h => by
    rw [upS]
    cases i with
    | zero => simp
    | succ i =>
      have := upS_get l i (by simp at h; omega)
      rw [List.getElem?_cons_succ, this]
      have e1 : 2 * (i + 1) = 2 * i + 1 + 1 := by omega
      rw [e1]
      rfl
theorem upS_last : ∀ (l : List (List UInt8)) (i : Nat), 2 * i + 1 = l.length → (upS l)[i]? = l[2 * i]?
  | [], i, h => by simp at h
  | [x], i, h => by
    have : i = 0 := by simp at h; omega
    subst this; rw [upS_one]
  | a :: b :: l, i, h => by
    rw [upS]
    cases i with
    | zero => simp at h
    | succ i =>
      have := upS_last l i (by simp at h; omega)
      rw [List.getElem?_cons_succ, this]
      have e1 : 2 * (i + 1) = 2 * i + 1 + 1 := by omega
      rw [e1]
      rfl
/-- Climbed, a leaf's path leads to the root. -/
theorem climb_path : ∀ (n : Nat) (l : List (List UInt8)) (i : Nat), i < l.length → l.length ≤ n → powN l.length = true → climbS (l.getD i []) i (pathP l i) = rootS l
  | 0, l, i, h, hn, _ => by omega
  | n + 1, l, i, h, hn, hp => by
    by_cases h1 : l.length ≤ 1
    · rw [pathP_le h1, climbS, rootS_le h1]
      obtain rfl : i = 0 := by omega
      cases l <;> rfl
    · rw [pathP_gt h1]
      obtain ⟨hp1, hp2⟩ := powN_half hp (by omega)
      have hl := upS_length l
      have hl2 : (upS l).length = l.length / 2 := by omega
      rw [rootS_gt h1, ← climb_path n (upS l) (i / 2) (by omega) (by omega) (by rw [hl2]; exact hp2), climbS]
      have hu := upS_get l (i / 2) (by omega)
      have hg : (upS l).getD (i / 2) [] = shortS (l.getD (2 * (i / 2)) [] ++ l.getD (2 * (i / 2) + 1) []) := by simp [List.getD, hu]
      rw [hg]
      congr 1
      unfold nb
      by_cases ho : i % 2 = 1
      · rw [if_pos ho, if_pos ho, show 2 * (i / 2) = i - 1 from by omega, show i - 1 + 1 = i from by omega]
      · rw [if_neg ho, if_neg ho, show 2 * (i / 2) = i from by omega]

end Go.Proofs.Ytjdokoldiemobaa.AM
