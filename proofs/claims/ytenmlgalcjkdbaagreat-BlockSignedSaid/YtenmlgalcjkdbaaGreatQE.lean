/-
  QE: Mk1 Mk2 Mk3 Mk4 Mk5 Mk6 Mk7 Mk8 Mk9.
-/
import Derived.Test.YtenmlgalcjkdbaaGreatQ7
import Derived.Test.YtenmlgalcjkdbaaGreatQ3
import Derived.RangeFuncNested
import Derived.RangeFuncCalls
import Derived.RangeFuncBox
import Derived.Shelf.Abstract
import Derived.Shelf.RegionOpen
import Derived.WalkKit
import Derived.OwnWalkIn
import Derived.TacticsInMore
import Derived.LoopNIn
import Derived.LoopIn
set_option linter.unusedVariables false
set_option linter.unusedSimpArgs false
namespace Go.Proofs.YtenmlgalcjkdbaaGreat.AM
open Go

noncomputable def upS : List (List UInt8) → List (List UInt8)
  | a :: b :: l => shortS (a ++ b) :: upS l
  | l => l
theorem upS_nil : upS [] = [] := by rw [upS]; intro a b l h; cases h
theorem upS_one (x : List UInt8) : upS [x] = [x] := by rw [upS]; intro a b l h; cases h
theorem upS_length : ∀ (l : List (List UInt8)), (upS l).length = (l.length + 1) / 2
  | [] => by rw [upS_nil]; rfl
  | [x] => by rw [upS_one]; simp
  | a :: b :: l => by
    rw [upS, List.length_cons, upS_length l]
    simp only [List.length_cons]; omega
/-- All texts are short enough. -/
def Okl (l : List (List UInt8)) : Prop := l.length ≤ 1099511627 ∧ ∀ s ∈ l, s.length ≤ 10995116277
theorem upS_mem : ∀ (l : List (List UInt8)), (∀ s ∈ l, s.length ≤ 10995116277) → ∀ s ∈ upS l, s.length ≤ 10995116277
  | [], _, s, hs => by rw [upS_nil] at hs; cases hs
  | [x], h, s, hs => by rw [upS_one] at hs; exact h s hs
  | a :: b :: l, h, s, hs => by
    rw [upS] at hs
    rcases List.mem_cons.1 hs with rfl | hs
    · rw [shortS_length]; decide
    · exact upS_mem l (fun x hx => h x (by simp [hx])) s hs
theorem upS_ok {l : List (List UInt8)} (h : Okl l) : Okl (upS l) := by
  refine ⟨?_, upS_mem l h.2⟩
  rw [upS_length]
  have := h.1
  omega

noncomputable def rootF : Nat → List (List UInt8) → List UInt8
  | 0, l => l.headD []
  | n + 1, l => if l.length ≤ 1 then l.headD [] else rootF n (upS l)
noncomputable def rootS (l : List (List UInt8)) : List UInt8 := rootF l.length l
theorem rootF_eq : ∀ (n m : Nat) (l : List (List UInt8)), l.length ≤ n + 1 → l.length ≤ m + 1 → rootF n l = rootF m l
  | 0, 0, l, _, _ => rfl
  | 0, m + 1, l, h, _ => by rw [rootF, rootF, if_pos (by omega)]
  | n + 1, 0, l, _, h => by rw [rootF, rootF, if_pos (by omega)]
  | n + 1, m + 1, l, h1, h2 => by
    rw [rootF, rootF]
    split
    · rfl
    · exact rootF_eq n m _ (by rw [upS_length]; omega) (by rw [upS_length]; omega)
theorem rootS_le {l : List (List UInt8)} (h : l.length ≤ 1) : rootS l = l.headD [] := by
  unfold rootS
  rw [rootF_eq l.length 0 l (by omega) (by omega), rootF]
theorem rootS_gt {l : List (List UInt8)} (h : ¬ l.length ≤ 1) : rootS l = rootS (upS l) := by
  unfold rootS
  have hl := upS_length l
  obtain ⟨n, hn⟩ : ∃ n, l.length = n + 1 := ⟨l.length - 1, by omega⟩
  rw [hn, rootF, if_neg h]
  exact rootF_eq _ _ _ (by omega) (by omega)

/-- A number of leaves that is a power of two. -/
def powB : Nat → Nat → Bool
  | 0, _ => false
  | f + 1, n => if n ≤ 1 then n == 1 else n % 2 == 0 && powB f (n / 2)
/-- The neighbours on the way up. -/
noncomputable def pathF : Nat → List (List UInt8) → Nat → List (List UInt8)
  | 0, _, _ => []
  | n + 1, l, at_ => if l.length ≤ 1 then [] else l.getD (if at_ % 2 = 1 then at_ - 1 else at_ + 1) [] :: pathF n (upS l) (at_ / 2)
/-- To the root. -/
noncomputable def climbS : List UInt8 → Nat → List (List UInt8) → List UInt8
  | leaf, _, [] => leaf
  | leaf, at_, s :: path => climbS (if at_ % 2 = 1 then shortS (s ++ leaf) else shortS (leaf ++ s)) (at_ / 2) path

theorem powB_even {f n : Nat} (h : powB (f + 1) n = true) (h1 : 1 < n) : n % 2 = 0 ∧ powB f (n / 2) = true := by
  rw [powB, if_neg (by omega), Bool.and_eq_true, beq_iff_eq] at h
  exact h
theorem powB_of : ∀ (f j : Nat), j < f → powB f (2 ^ j) = true
  | 0, j, h => by omega
  | f + 1, 0, _ => rfl
  | f + 1, j + 1, h => by
    have h2 : 2 ^ (j + 1) = 2 * 2 ^ j := by rw [Nat.pow_succ]; omega
    have hp : 1 ≤ 2 ^ j := Nat.one_le_two_pow
    rw [powB, if_neg (by omega), h2, Nat.mul_mod_right, Nat.mul_div_cancel_left _ (by decide), powB_of f j (by omega)]
    rfl
theorem powB_to : ∀ (f n : Nat), powB f n = true → ∃ j, n = 2 ^ j
  | 0, n, h => by simp [powB] at h
  | f + 1, n, h => by
    by_cases h1 : n ≤ 1
    · rw [powB, if_pos h1, beq_iff_eq] at h; exact ⟨0, h⟩
    · obtain ⟨h2, h3⟩ := powB_even h (by omega)
      obtain ⟨j, hj⟩ := powB_to f _ h3
      exact ⟨j + 1, by rw [Nat.pow_succ]; omega⟩
theorem pow_lt (n : Nat) : n < 2 ^ n := Nat.lt_two_pow_self
theorem powB_fuel {f g n : Nat} (hf : n ≤ f) (hg : n ≤ g) (hn : 1 ≤ n) : powB f n = powB g n := by
  have key : ∀ f g, n ≤ f → n ≤ g → powB f n = true → powB g n = true := by
    intro f g _ hg h
    obtain ⟨j, rfl⟩ := powB_to f n h
    exact powB_of g j (by have := pow_lt j; omega)
  cases h1 : powB f n <;> cases h2 : powB g n <;> try rfl
  · rw [key g f hg hf h2] at h1; cases h1
  · rw [key f g hf hg h1] at h2; cases h2
/-- Is it a power of two? -/
def powN (n : Nat) : Bool := powB n n
theorem powN_half {n : Nat} (h : powN n = true) (h1 : 1 < n) : n % 2 = 0 ∧ powN (n / 2) = true := by
  unfold powN at h ⊢
  obtain ⟨f, rfl⟩ : ∃ f, n = f + 1 := ⟨n - 1, by omega⟩
  obtain ⟨h2, h3⟩ := powB_even h h1
  exact ⟨h2, by rw [powB_fuel (g := f) (Nat.le_refl _) (by omega) (by omega)]; exact h3⟩
theorem powN_of (j : Nat) : powN (2 ^ j) = true := powB_of _ _ (pow_lt j)
theorem pathF_eq : ∀ (n m : Nat) (l : List (List UInt8)) (a : Nat), l.length ≤ n + 1 → l.length ≤ m + 1 → pathF n l a = pathF m l a
  | 0, 0, l, a, _, _ => rfl
  | 0, m + 1, l, a, h, _ => by rw [pathF, pathF, if_pos (by omega)]
  | n + 1, 0, l, a, _, h => by rw [pathF, pathF, if_pos (by omega)]
  | n + 1, m + 1, l, a, h1, h2 => by
    rw [pathF, pathF]
    split
    · rfl
    · rw [pathF_eq n m _ _ (by rw [upS_length]; omega) (by rw [upS_length]; omega)]
noncomputable def pathP (l : List (List UInt8)) (a : Nat) : List (List UInt8) := pathF l.length l a
def nb (a : Nat) : Nat := if a % 2 = 1 then a - 1 else a + 1
theorem pathP_le {l : List (List UInt8)} (h : l.length ≤ 1) (a : Nat) : pathP l a = [] := by
  unfold pathP
  rw [pathF_eq l.length 0 l a (by omega) (by omega), pathF]
theorem pathP_gt {l : List (List UInt8)} (h : ¬ l.length ≤ 1) (a : Nat) : pathP l a = l.getD (nb a) [] :: pathP (upS l) (a / 2) := by
  unfold pathP
  have hl := upS_length l
  obtain ⟨n, hn⟩ : ∃ n, l.length = n + 1 := ⟨l.length - 1, by omega⟩
  rw [hn, pathF, if_neg h, pathF_eq n (upS l).length _ _ (by omega) (by omega)]
  rfl
/-- The path, or why there is none. -/
noncomputable def pathS (l : List (List UInt8)) (a : Int) : List (List UInt8) × Int :=
  if a < 0 ∨ (l.length : Int) ≤ a then ([], 4) else if powN l.length = true then (pathP l a.toNat, 0) else ([], 3)
theorem land_pred : ∀ (f n : Nat), n ≤ f → 1 ≤ n → (n &&& (n - 1) = 0 ↔ powB f n = true)
  | 0, n, h, h1 => by omega
  | f + 1, n, h, h1 => by
    have hd := @Nat.and_div_two n (n - 1)
    have hm := @Nat.and_mod_two_eq_one n (n - 1)
    by_cases e : n ≤ 1
    · have : n = 1 := by omega
      subst this
      simp [powB]
    · rw [powB, if_neg e, Bool.and_eq_true, beq_iff_eq]
      by_cases e2 : n % 2 = 0
      · have ih := land_pred f (n / 2) (by omega) (by omega)
        rw [show (n - 1) / 2 = n / 2 - 1 from by omega] at hd
        constructor
        · intro h0
          refine ⟨e2, ih.1 ?_⟩
          rw [← hd, h0]
        · rintro ⟨_, h3⟩
          have := ih.2 h3
          omega
      · constructor
        · intro h0
          rw [show (n - 1) / 2 = n / 2 from by omega, Nat.and_self] at hd
          omega
        · rintro ⟨h3, _⟩; omega

theorem upS_get : ∀ (l : List (List UInt8)) (i : Nat), 2 * i + 1 < l.length → (upS l)[i]? = some (shortS (l.getD (2 * i) [] ++ l.getD (2 * i + 1) []))
  | [], i, h => by simp at h
  | [_], i, h => by simp at h
  | a :: b :: l, i, h => by
    rw [upS]
    cases i with
    | zero => simp
    | succ i =>
      have := upS_get l i (by simp at h; omega)
      rw [List.getElem?_cons_succ, this]
      have e1 : 2 * (i + 1) = 2 * i + 1 + 1 := by omega
      rw [e1]
      rfl
theorem upS_last : ∀ (l : List (List UInt8)) (i : Nat), 2 * i + 1 = l.length → (upS l)[i]? = l[2 * i]?
  | [], i, h => by simp at h
  | [x], i, h => by
    have : i = 0 := by simp at h; omega
    subst this; rw [upS_one]
  | a :: b :: l, i, h => by
    rw [upS]
    cases i with
    | zero => simp at h
    | succ i =>
      have := upS_last l i (by simp at h; omega)
      rw [List.getElem?_cons_succ, this]
      have e1 : 2 * (i + 1) = 2 * i + 1 + 1 := by omega
      rw [e1]
      rfl
/-- Climbed, a leaf's path leads to the root. -/
theorem climb_path : ∀ (n : Nat) (l : List (List UInt8)) (i : Nat), i < l.length → l.length ≤ n → powN l.length = true → climbS (l.getD i []) i (pathP l i) = rootS l
  | 0, l, i, h, hn, _ => by omega
  | n + 1, l, i, h, hn, hp => by
    by_cases h1 : l.length ≤ 1
    · rw [pathP_le h1, climbS, rootS_le h1]
      obtain rfl : i = 0 := by omega
      cases l <;> rfl
    · rw [pathP_gt h1]
      obtain ⟨hp1, hp2⟩ := powN_half hp (by omega)
      have hl := upS_length l
      have hl2 : (upS l).length = l.length / 2 := by omega
      rw [rootS_gt h1, ← climb_path n (upS l) (i / 2) (by omega) (by omega) (by rw [hl2]; exact hp2), climbS]
      have hu := upS_get l (i / 2) (by omega)
      have hg : (upS l).getD (i / 2) [] = shortS (l.getD (2 * (i / 2)) [] ++ l.getD (2 * (i / 2) + 1) []) := by simp [List.getD, hu]
      rw [hg]
      congr 1
      unfold nb
      by_cases ho : i % 2 = 1
      · rw [if_pos ho, if_pos ho, show 2 * (i / 2) = i - 1 from by omega, show i - 1 + 1 = i from by omega]
      · rw [if_neg ho, if_neg ho, show 2 * (i / 2) = i from by omega]


variable {Γ : FuncId → Contract}

noncomputable def upC : Contract := mkC (α := List (List UInt8)) Okl (fun l => [.c (.sl (texts l))]) (fun _ => []) (fun l => ⟨[.pv (.c (.sl (texts (upS l))))], []⟩)
theorem up_at (l : List (List UInt8)) (h : Okl l) : upC [.c (.sl (texts l))] [] = some ⟨[.pv (.c (.sl (texts (upS l))))], []⟩ :=
  mkC_at (α := List (List UInt8)) l h (fun y _ h1 _ => by
    simp at h1
    rw [texts_inj h1])

/-- The pairs' part of the row above. -/
noncomputable def upP (l : List (List UInt8)) (i : Nat) : List (List UInt8) := (upS l).take i
theorem upP_succ (l : List (List UInt8)) (i : Nat) (h : 2 * i + 1 < l.length) : upP l (i + 1) = upP l i ++ [shortS (l[2 * i]'(by omega) ++ l[2 * i + 1]'h)] := by
  unfold upP
  have := upS_get l i h
  rw [List.take_add_one, this]
  simp only [List.getD, List.getElem?_eq_getElem h, List.getElem?_eq_getElem (show 2 * i < l.length by omega), Option.getD_some, Option.toList_some]
theorem upP_length (l : List (List UInt8)) (i : Nat) (h : 2 * i ≤ l.length) : (upP l i).length = i := by
  unfold upP
  rw [List.length_take, upS_length]
  omega
theorem upP_done (l : List (List UInt8)) (i : Nat) (h : 2 * i ≤ l.length) (h2 : l.length ≤ 2 * i + 1) : upP l i ++ l.drop (2 * i) = upS l := by
  have hl := upS_length l
  have hp : (upP l i).length = i := upP_length l i h
  apply List.ext_getElem?
  intro j
  by_cases hj : j < i
  · rw [List.getElem?_append_left (by omega), upP, List.getElem?_take, if_pos hj]
  · rw [List.getElem?_append_right (by omega), hp, List.getElem?_drop]
    by_cases e : l.length = 2 * i
    · rw [List.getElem?_eq_none (by omega), List.getElem?_eq_none (by omega)]
    · by_cases e2 : j = i
      · subst e2
        rw [upS_last l j (by omega)]
        congr 1; omega
      · rw [List.getElem?_eq_none (by omega), List.getElem?_eq_none (by omega)]

set_option maxRecDepth 100000 in
set_option maxHeartbeats 1000000 in
theorem up_sound (hΓ : SoundG Tryz.prog Γ) (h2 : Γ 199 = shortC) : SoundC Tryz.prog 150 upC := by
  refine sound_fn Tryz.func150 (by kernel_rfl) rfl rfl ?_
  intro args objs r hr
  obtain ⟨l, hl, rfl, rfl, rfl⟩ := mkC_inv hr
  refine ⟨rfl, by show 1 ≤ _; decide, fun E hN hns hF => ?_⟩
  refine vc_sound hΓ mixed _ _ _ ?_
  have hN := hN.trans nt_150
  obtain ⟨hl1, hl2⟩ := hl
  simp only [runA, runB, runC, runD, runE, runF, fieldE, storeE, binE, ↓reduceIte, Nat.reduceLT, Nat.reduceLeDiff, Nat.reduceEqDiff, Nat.reduceAdd, Nat.reduceMul, Nat.reduceSub, reduceCtorEq, putAt, unE, Nat.reduceBEq, convE, buildE, List.replicate, Int.reduceLT, Int.reduceLE, Int.reduceToNat, mkE, mapSetE, hN, hF, ty_3, ty_5, ty_9, ty_24, ty_47, ty_159, notIf, isEq]
  refine AWP.loop (fun c st => ∃ i : Nat, 2 * i ≤ l.length ∧ c = l.length - 2 * i ∧ st = ⟨[(0, .c (.sl (texts (l.drop (2 * i))))), (3, .own 1217 1 (texts (upP l i)))], [(1217, .row 1 i)]⟩) ⟨l.length, _, ?w, 0, by omega, by omega, rfl⟩ ?r
  case w =>
    rw [hns]
    simp only [runB, finC, finD, AS.get, AS.mem, false_implies, implies_true, ↓reduceIte, Nat.reduceEqDiff, Option.isSome_some, Option.isSome_none, forall_eq_or_imp, forall_eq, reduceCtorEq, Nat.reduceAdd, Nat.reduceMul, List.zip_cons_cons, List.zip_nil_left, List.zip_nil_right, List.forall_mem_nil]
    simp [upP, texts]
  case r =>
    rintro c st ⟨i, hi, rfl, rfl⟩
    refine vc_sound hΓ mixed _ _ _ ?_
    have hpl := upP_length l i hi
    have hdl : (l.drop (2 * i)).length = l.length - 2 * i := by simp
    by_cases hlt : 2 * i + 1 < l.length
    · have hd : l.drop (2 * i) = l[2 * i]'(by omega) :: l[2 * i + 1] :: l.drop (2 * (i + 1)) := by
        rw [List.drop_eq_getElem_cons (by omega), List.drop_eq_getElem_cons (by omega)]; congr 3
      have hsucc := upP_succ l i hlt
      have hm1 := hl2 _ (List.getElem_mem (show 2 * i < l.length by omega))
      have hm2 := hl2 _ (List.getElem_mem hlt)
      generalize l[2 * i]'(by omega) = a at hd hsucc hm1
      generalize l[2 * i + 1]'hlt = b at hd hsucc hm2
      obtain ⟨tl, htl⟩ : ∃ tl, l.drop (2 * (i + 1)) = tl := ⟨_, rfl⟩
      have ht : texts (l.drop (2 * i)) = [.str a] :: [.str b] :: texts tl := by rw [hd, htl]; rfl
      have hll : tl.length = l.length - 2 * (i + 1) := by rw [← htl]; simp
      have g1 : decide (((tl.length + 1 + 1 : Nat) : Int) > (1 : Int)) = true := by simp; omega
      have g2 : (2 : Int) ≤ ((tl.length + 1 + 1 : Nat) : Int) := by omega
      have hz2 : rowsOK 1 ([PC.str a] :: [PC.str b] :: texts tl) := rowsOK_texts (a :: b :: tl)
      have htk : (texts tl).take tl.length = texts tl := by rw [← texts_length tl, List.take_length]
      have z0 : (0 : Int) ≤ 2 := by decide
      have hs := short_at [a, b] ⟨by simp; omega, by simp⟩
      have hf : [a, b].flatten = a ++ b := by simp
      rw [hf] at hs
      have hsl : [[PC.sl (bytes a)], [PC.sl (bytes b)]] = slices [a, b] := rfl
      have hz := rowsOK_texts
      have hL : (i + 1) * 16 ≤ 140737488355328 := by omega
      rw [ht]
      simp only [runA, runB, runC, runD, runE, runF, fieldE, storeE, binE, ↓reduceIte, Nat.reduceLT, Nat.reduceLeDiff, Nat.reduceEqDiff, Nat.reduceAdd, Nat.reduceMul, Nat.reduceSub, reduceCtorEq, putAt, unE, Nat.reduceBEq, convE, buildE, List.replicate, Int.reduceLT, Int.reduceLE, Int.reduceToNat, mkE, mapSetE, hN, hF, ty_3, ty_5, ty_9, ty_24, ty_47, ty_159, notIf, isEq, g1, h2, hsl, hs, texts1, texts_app, ← hsucc, hz, hL, texts_length, hpl]
      refine drawnP_intro (by kernel_rfl) (by kernel_rfl) ?_
      simp only [runA, runB, runC, runD, runE, runF, fieldE, storeE, binE, ↓reduceIte, Nat.reduceLT, Nat.reduceLeDiff, Nat.reduceEqDiff, Nat.reduceAdd, Nat.reduceMul, Nat.reduceSub, reduceCtorEq, putAt, unE, Nat.reduceBEq, convE, buildE, List.replicate, Int.reduceLT, Int.reduceLE, Int.reduceToNat, mkE, mapSetE, hN, hF, ty_3, ty_5, ty_9, ty_24, ty_47, ty_159, notIf, isEq, g2, hz2, htk, z0, sliceE, boundE, Int.le_refl, texts_length]
      refine ⟨l.length - 2 * (i + 1), _, by omega, ?_, i + 1, by omega, rfl, rfl⟩
      rw [hns, htl]
      simp only [runB, finC, finD, AS.get, AS.mem, false_implies, implies_true, ↓reduceIte, Nat.reduceEqDiff, Option.isSome_some, Option.isSome_none, forall_eq_or_imp, forall_eq, reduceCtorEq, Nat.reduceAdd, Nat.reduceMul, List.zip_cons_cons, List.zip_nil_left, List.zip_nil_right, List.forall_mem_nil]
      first | done | simp
    · obtain ⟨tl, htl⟩ : ∃ tl, l.drop (2 * i) = tl := ⟨_, rfl⟩
      have hdone := upP_done l i hi (by omega)
      have hll : tl.length ≤ 1 := by rw [← htl]; simp; omega
      have g1 : decide ((tl.length : Int) > (1 : Int)) = false := by simp; omega
      have hz := rowsOK_texts
      have hL : (i + tl.length) * 16 ≤ 140737488355328 := by omega
      rw [htl] at hdone ⊢
      simp only [runA, runB, runC, runD, runE, runF, fieldE, storeE, binE, ↓reduceIte, Nat.reduceLT, Nat.reduceLeDiff, Nat.reduceEqDiff, Nat.reduceAdd, Nat.reduceMul, Nat.reduceSub, reduceCtorEq, putAt, unE, Nat.reduceBEq, convE, buildE, List.replicate, Int.reduceLT, Int.reduceLE, Int.reduceToNat, mkE, mapSetE, hN, hF, ty_3, ty_5, ty_9, ty_24, ty_47, ty_159, notIf, isEq, g1, hz, hL, texts_length, texts_app, hdone, hpl]
      simp only [runB, finC, finD, Option.isSome_some, Option.isSome_none, ↓reduceIte, Nat.reduceEqDiff, Nat.reduceAdd, Nat.reduceMul, forall_eq_or_imp, forall_eq, implies_true, Nat.reduceBEq, reduceCtorEq, false_implies, List.zip_cons_cons, List.zip_nil_left, List.zip_nil_right, Nat.reduceLeDiff, List.forall_mem_nil, rs_150]


variable {Γ : FuncId → Contract}

noncomputable def rootC : Contract := mkC (α := List (List UInt8)) Okl (fun l => [.c (.sl (texts l))]) (fun _ => []) (fun l => ⟨[.pv (.c (.str (rootS l)))], []⟩)
theorem root_at (l : List (List UInt8)) (h : Okl l) : rootC [.c (.sl (texts l))] [] = some ⟨[.pv (.c (.str (rootS l)))], []⟩ :=
  mkC_at (α := List (List UInt8)) l h (fun y _ h1 _ => by
    simp at h1
    rw [texts_inj h1])


variable {Γ : FuncId → Contract}

theorem ofNat64 (n : Nat) : BitVec.ofInt 64 (n : Int) = BitVec.ofNat 64 n := by rw [BitVec.ofInt_natCast]
theorem and_one (n : Nat) (h : n < 9223372036854775808) : IntKind.i64.wrap (((BitVec.ofInt IntKind.i64.bits (n : Int) &&& BitVec.ofInt IntKind.i64.bits 1).toNat : Nat) : Int) = ((n % 2 : Nat) : Int) := by
  have e : (BitVec.ofInt 64 (n : Int) &&& BitVec.ofInt 64 1).toNat = n % 2 := by
    rw [ofNat64, show (1 : Int) = ((1 : Nat) : Int) from rfl, ofNat64, BitVec.toNat_and, BitVec.toNat_ofNat, BitVec.toNat_ofNat, Nat.mod_eq_of_lt (by omega), Nat.mod_eq_of_lt (by omega), Nat.and_one_is_mod]
  show IntKind.i64.wrap (((BitVec.ofInt 64 (n : Int) &&& BitVec.ofInt 64 1).toNat : Nat) : Int) = _
  rw [e, wrapI (by omega)]
theorem xor_one_nat (n : Nat) : n ^^^ 1 = if n % 2 = 1 then n - 1 else n + 1 := by
  have h1 : (n ^^^ 1) / 2 = n / 2 := by rw [Nat.xor_div_two]; simp
  have h2 : (n ^^^ 1) % 2 = (n + 1) % 2 := by have := @Nat.xor_mod_two_eq_one n 1; omega
  split <;> omega
theorem xor_one (n : Nat) (h : n < 9223372036854775807) : IntKind.i64.wrap (((BitVec.ofInt IntKind.i64.bits (n : Int) ^^^ BitVec.ofInt IntKind.i64.bits 1).toNat : Nat) : Int) = ((if n % 2 = 1 then n - 1 else n + 1 : Nat) : Int) := by
  have e : (BitVec.ofInt 64 (n : Int) ^^^ BitVec.ofInt 64 1).toNat = if n % 2 = 1 then n - 1 else n + 1 := by
    rw [ofNat64, show (1 : Int) = ((1 : Nat) : Int) from rfl, ofNat64, BitVec.toNat_xor, BitVec.toNat_ofNat, BitVec.toNat_ofNat, Nat.mod_eq_of_lt (by omega), Nat.mod_eq_of_lt (by omega), xor_one_nat]
  show IntKind.i64.wrap (((BitVec.ofInt 64 (n : Int) ^^^ BitVec.ofInt 64 1).toNat : Nat) : Int) = _
  rw [e, wrapI (by split <;> omega)]
theorem shr_one (n : Nat) : ((n : Int).fdiv (2 ^ (min 1 IntKind.i64.bits))) = ((n / 2 : Nat) : Int) := by
  have : (2 : Int) ^ (min 1 IntKind.i64.bits) = 2 := rfl
  rw [this, Int.fdiv_eq_ediv_of_nonneg _ (by decide)]
  omega
structure Cl where
  leaf : List UInt8
  i : Int
  path : List (List UInt8)
def clOK (p : Cl) : Prop := p.leaf.length ≤ 10995116277 ∧ p.i < 9223372036854775808 ∧ Okl p.path
noncomputable def climbC : Contract := mkC (α := Cl) clOK (fun p => [.c (.str p.leaf), .c (.int .i64 p.i), .c (.sl (texts p.path))]) (fun _ => []) (fun p => ⟨[.pv (.c (.str (climbS p.leaf (max p.i 0).toNat p.path)))], []⟩)
theorem climb_at (leaf : List UInt8) (i : Int) (path : List (List UInt8)) (h : clOK ⟨leaf, i, path⟩) : climbC [.c (.str leaf), .c (.int .i64 i), .c (.sl (texts path))] [] = some ⟨[.pv (.c (.str (climbS leaf (max i 0).toNat path)))], []⟩ :=
  mkC_at (α := Cl) ⟨leaf, i, path⟩ h (by
    rintro ⟨a, b, c⟩ _ h' _
    simp only [List.cons.injEq, AV.c.injEq, PC.int.injEq, PC.str.injEq, PC.sl.injEq, true_and, and_true] at h'
    obtain ⟨rfl, rfl, h'⟩ := h'
    obtain rfl := texts_inj h'
    rfl)

set_option maxRecDepth 100000 in
set_option maxHeartbeats 1000000 in
theorem climb_sound (hΓ : SoundG Tryz.prog Γ) (h2 : Γ 199 = shortC) : SoundC Tryz.prog 166 climbC := by
  refine sound_fn Tryz.func166 (by kernel_rfl) rfl rfl ?_
  intro args objs r hr
  obtain ⟨⟨leaf, at_, path⟩, ⟨hl, hat, hp1, hp2⟩, rfl, rfl, rfl⟩ := mkC_inv hr
  refine ⟨rfl, by show 3 ≤ _; decide, fun E hN hns hF => ?_⟩
  refine vc_sound hΓ mixed _ _ _ ?_
  have hN := hN.trans nt_166
  dsimp only at hl hat hp1 hp2 ⊢
  obtain ⟨A, hA⟩ : ∃ A, (max at_ 0).toNat = A := ⟨_, rfl⟩
  have hmax : (if (0 : Int) > at_ then 0 else at_) = (A : Int) := by split <;> omega
  have hA2 : A < 9223372036854775808 := by omega
  rw [hA]
  simp only [runA, runB, runC, runD, runE, runF, fieldE, storeE, binE, ↓reduceIte, Nat.reduceLT, Nat.reduceLeDiff, Nat.reduceEqDiff, Nat.reduceAdd, Nat.reduceMul, Nat.reduceSub, reduceCtorEq, putAt, unE, Nat.reduceBEq, convE, buildE, List.replicate, Int.reduceLT, Int.reduceLE, Int.reduceToNat, mkE, mapSetE, hN, hF, ty_3, ty_5, ty_9, ty_24, ty_47, ty_159, notIf, isEq, hmax]
  refine AWP.loop (fun c st => ∃ (i : Nat) (cur : List UInt8) (B : Nat), i ≤ path.length ∧ climbS leaf A path = climbS cur B (path.drop i) ∧ cur.length ≤ 10995116277 ∧ B < 9223372036854775808 ∧ c = path.length - i ∧
    st = ⟨[(0, .c (.str cur)), (1, .c (.int .i64 (B : Int))), (13, .c (.sl (texts path))), (14, .c (.int .i64 (path.length : Int))), (15, .c (.int .i64 (i : Int)))], []⟩) ⟨path.length, _, ?w, 0, leaf, A, Nat.zero_le _, rfl, hl, hA2, rfl, rfl⟩ ?r
  case w =>
    rw [hns]
    simp only [runB, finC, finD, AS.get, AS.mem, false_implies, implies_true, ↓reduceIte, Nat.reduceEqDiff, Option.isSome_some, Option.isSome_none, forall_eq_or_imp, forall_eq, reduceCtorEq, Nat.reduceAdd, Nat.reduceMul, List.zip_cons_cons, List.zip_nil_left, List.zip_nil_right, List.forall_mem_nil]
    simp [texts_length]
  case r =>
    rintro c st ⟨i, cur, B, hi, hcl, hcur, hB, rfl, rfl⟩
    refine vc_sound hΓ mixed _ _ _ ?_
    by_cases hlt : i < path.length
    · have g1 : decide ((i : Int) < (path.length : Int)) = true := by simpa using hlt
      obtain ⟨s, hs⟩ : ∃ s, path[i]? = some s := ⟨path[i], by simp [hlt]⟩
      have hsr : (texts path)[i]? = some [PC.str s] := by simp [texts, hs]
      have hms := hp2 s (List.mem_of_getElem? hs)
      have hdr : path.drop i = s :: path.drop (i + 1) := by
        rw [List.drop_eq_getElem_cons hlt]; congr 1
        have := List.getElem?_eq_getElem hlt
        rw [hs] at this; exact (Option.some.inj this).symm
      rw [hdr, climbS] at hcl
      have e1 : IntKind.i64.wrap ((i : Int) + 1) = (i : Int) + 1 := wrapI (by omega)
      have e2 := and_one B hB
      have e3 := shr_one B
      have hb : (1 : Int) < 0 ↔ False := by decide
      have hB2 : B / 2 < 9223372036854775808 := by omega
      by_cases ho : B % 2 = 1
      · rw [if_pos ho] at hcl
        have g2 : (((B % 2 : Nat) : Int) == 1) = true := by simp; omega
        have hsh := short_at [s, cur] ⟨by simp; omega, by simp⟩
        have hf : [s, cur].flatten = s ++ cur := by simp
        rw [hf] at hsh
        have hsl : [[PC.sl (bytes s)], [PC.sl (bytes cur)]] = slices [s, cur] := rfl
        simp only [runA, runB, runC, runD, runE, runF, fieldE, storeE, binE, ↓reduceIte, Nat.reduceLT, Nat.reduceLeDiff, Nat.reduceEqDiff, Nat.reduceAdd, Nat.reduceMul, Nat.reduceSub, reduceCtorEq, putAt, unE, Nat.reduceBEq, convE, buildE, List.replicate, Int.reduceLT, Int.reduceLE, Int.reduceToNat, mkE, mapSetE, hN, hF, ty_3, ty_5, ty_9, ty_24, ty_47, ty_159, notIf, isEq, g1, hsr, e2, g2, hsl, h2, hsh, shOp, hb, e3, e1]
        refine ⟨path.length - (i + 1), _, by omega, ?_, i + 1, _, B / 2, by omega, hcl, by rw [shortS_length]; decide, hB2, rfl, rfl⟩
        rw [hns]
        simp only [runB, finC, finD, AS.get, AS.mem, false_implies, implies_true, ↓reduceIte, Nat.reduceEqDiff, Option.isSome_some, Option.isSome_none, forall_eq_or_imp, forall_eq, reduceCtorEq, Nat.reduceAdd, Nat.reduceMul, List.zip_cons_cons, List.zip_nil_left, List.zip_nil_right, List.forall_mem_nil]
        first | done | simp
      · rw [if_neg ho] at hcl
        have g2 : (((B % 2 : Nat) : Int) == 1) = false := by simp; omega
        have hsh := short_at [cur, s] ⟨by simp; omega, by simp⟩
        have hf : [cur, s].flatten = cur ++ s := by simp
        rw [hf] at hsh
        have hsl : [[PC.sl (bytes cur)], [PC.sl (bytes s)]] = slices [cur, s] := rfl
        simp only [runA, runB, runC, runD, runE, runF, fieldE, storeE, binE, ↓reduceIte, Nat.reduceLT, Nat.reduceLeDiff, Nat.reduceEqDiff, Nat.reduceAdd, Nat.reduceMul, Nat.reduceSub, reduceCtorEq, putAt, unE, Nat.reduceBEq, convE, buildE, List.replicate, Int.reduceLT, Int.reduceLE, Int.reduceToNat, mkE, mapSetE, hN, hF, ty_3, ty_5, ty_9, ty_24, ty_47, ty_159, notIf, isEq, g1, hsr, e2, g2, hsl, h2, hsh, shOp, hb, e3, e1]
        refine ⟨path.length - (i + 1), _, by omega, ?_, i + 1, _, B / 2, by omega, hcl, by rw [shortS_length]; decide, hB2, rfl, rfl⟩
        rw [hns]
        simp only [runB, finC, finD, AS.get, AS.mem, false_implies, implies_true, ↓reduceIte, Nat.reduceEqDiff, Option.isSome_some, Option.isSome_none, forall_eq_or_imp, forall_eq, reduceCtorEq, Nat.reduceAdd, Nat.reduceMul, List.zip_cons_cons, List.zip_nil_left, List.zip_nil_right, List.forall_mem_nil]
        first | done | simp
    · have g1 : decide ((i : Int) < (path.length : Int)) = false := by simpa using hlt
      have hdr : path.drop i = [] := List.drop_of_length_le (by omega)
      rw [hdr, climbS] at hcl
      simp only [runA, runB, runC, runD, runE, runF, fieldE, storeE, binE, ↓reduceIte, Nat.reduceLT, Nat.reduceLeDiff, Nat.reduceEqDiff, Nat.reduceAdd, Nat.reduceMul, Nat.reduceSub, reduceCtorEq, putAt, unE, Nat.reduceBEq, convE, buildE, List.replicate, Int.reduceLT, Int.reduceLE, Int.reduceToNat, mkE, mapSetE, hN, hF, ty_3, ty_5, ty_9, ty_24, ty_47, ty_159, notIf, isEq, g1]
      simp only [runB, finC, finD, Option.isSome_some, Option.isSome_none, ↓reduceIte, Nat.reduceEqDiff, Nat.reduceAdd, Nat.reduceMul, forall_eq_or_imp, forall_eq, implies_true, Nat.reduceBEq, reduceCtorEq, false_implies, List.zip_cons_cons, List.zip_nil_left, List.zip_nil_right, Nat.reduceLeDiff, List.forall_mem_nil, rs_166, hcl]


variable {Γ : FuncId → Contract}

structure Pa where
  l : List (List UInt8)
  a : Int
def paOK (p : Pa) : Prop := Okl p.l
noncomputable def pathC : Contract := mkC (α := Pa) paOK (fun p => [.c (.sl (texts p.l)), .c (.int .i64 p.a)]) (fun _ => []) (fun p => ⟨[.pv (.c (.sl (texts (pathS p.l p.a).1))), .pv (.c (.int .i64 (pathS p.l p.a).2))], []⟩)
theorem path_at (l : List (List UInt8)) (a : Int) (h : Okl l) : pathC [.c (.sl (texts l)), .c (.int .i64 a)] [] = some ⟨[.pv (.c (.sl (texts (pathS l a).1))), .pv (.c (.int .i64 (pathS l a).2))], []⟩ :=
  mkC_at (α := Pa) ⟨l, a⟩ h (by
    rintro ⟨l', a'⟩ _ h' _
    simp only [List.cons.injEq, AV.c.injEq, PC.int.injEq, PC.sl.injEq, true_and, and_true] at h'
    obtain ⟨h', rfl⟩ := h'
    obtain rfl := texts_inj h'
    rfl)

open Go Go.Proofs Go.RowKit Go.Shelf

variable {Γ : FuncId → Contract}

/-- Two lists of texts. -/
structure Tx2 where
  a : List (List UInt8)
  b : List (List UInt8)
set_option maxRecDepth 100000 in
theorem rows_calls (ad : Option Addr) (len cap : Nat) (w : World) : Calls Tryz.prog 100 #[.slice ad len cap] w fun e w' => e = .returned (.func (.func 149) #[] #[.pointer (some ⟨w.heap.size, 0, none⟩)]) ∧ w' = w.alloc (.cells #[.slice ad len cap] 24) := by
  refine callsIn_wide.1 (callsIn_of_wp (F := Fence.wide) (n := 0) Tryz.func100 rfl trivial ?_ rfl)
  simp only [Tryz.ntmps100, List.size_toArray, List.length_cons, List.length_nil, Nat.reduceAdd, Nat.reduceSub, Array.replicate_succ, Array.replicate_zero, List.push_toArray, List.append_toArray, List.nil_append, List.cons_append]
  gi_wp2
  go_ret
  exact ⟨rfl, rfl⟩

set_option maxRecDepth 100000 in
set_option maxHeartbeats 4000000 in
/-- The rows, from the leaves on: each is yielded; the next one is made of it, as long as it has more than one. -/
theorem rows_it (l Bx k : Nat) (rs : Nat → Nat) (J J' : Nat → World → Prop) (hlen : ∀ i, i < k → 1 < rs i) (hk : rs k ≤ 1)
    (hbox : ∀ i W, J i W → ∃ v, W.cell? ⟨Bx, 0, none⟩ = some v) (hbox' : ∀ i W, J' i W → ∃ ad cap, W.cell? ⟨Bx, 0, none⟩ = some (.slice ad (rs i) cap))
    (hY : ∀ i W v, i ≤ k → J i W → W.cell? ⟨Bx, 0, none⟩ = some v → YieldAt Fence.wide 0 Tryz.prog l #[v] W fun e W' => e = .returned (.bool true) ∧ J' i W')
    (hUp : ∀ i W v, i < k → J' i W → W.cell? ⟨Bx, 0, none⟩ = some v → Calls Tryz.prog 150 #[v] W fun e W' => ∃ ad n cap, e = .returned (.slice ad n cap) ∧ (∃ x, W'.cell? ⟨Bx, 0, none⟩ = some x) ∧ W'.frozen? ⟨Bx, 0, none⟩ = false ∧ J (i + 1) (W'.setCell ⟨Bx, 0, none⟩ (.slice ad n cap)))
    (W : World) (h0 : J 0 W) :
    CallsIn Fence.wide 0 Tryz.prog 149 #[.func (.yield l) #[] #[], .pointer (some ⟨Bx, 0, none⟩)] W fun e W' => (∃ v, e = .returned v) ∧ J' k W' := by
  refine callsIn_of_wp Tryz.func149 rfl trivial ?_ rfl
  simp only [Tryz.ntmps149, List.size_toArray, List.length_cons, List.length_nil, Nat.reduceAdd, Nat.reduceSub, Array.replicate_succ, Array.replicate_zero, List.push_toArray, List.append_toArray, List.nil_append, List.cons_append]
  refine wpIn_block (wpIn_loop_rounds (k + 1) ?_)
  refine (?key : ∀ (d i : Nat) (W : World) (t2 t3 t4 t5 t6 t7 t8 t9 t10 t11 t12 : Value), i + d = k → J i W →
      Code.roundsIn Fence.wide 0 Tryz.prog ?c ?Q (d + 1) { tmps := #[.func (.yield l) #[] #[], .pointer (some ⟨Bx, 0, none⟩), t2, t3, t4, t5, t6, t7, t8, t9, t10, t11, t12], defers := [] } W) k 0 W _ _ _ _ _ _ _ _ _ _ _ (Nat.zero_add k) h0
  intro d
  induction d with
  | zero =>
    intro i W t2 t3 t4 t5 t6 t7 t8 t9 t10 t11 t12 hi hJ
    obtain rfl : i = k := by omega
    obtain ⟨v, hv⟩ := hbox i W hJ
    obtain ⟨fn, tmps, assign, body, hy, hR1⟩ := hY i W v (Nat.le_refl _) hJ hv
    rw [roundsIn_succ]
    gi_wp2
    refine ⟨rfl, hR1.mono ?_⟩
    rintro e W3 ⟨rfl, hJ3⟩
    obtain ⟨ad, cap, hc⟩ := hbox' i W3 hJ3
    have g1 : ¬ ((rs i : Nat) : Int) > 1 := by omega
    gi_wp2
    exact ⟨rfl, _, results_none rfl _ _ _, ⟨_, rfl⟩, hJ3⟩
  | succ d ih =>
    intro i W t2 t3 t4 t5 t6 t7 t8 t9 t10 t11 t12 hi hJ
    obtain ⟨v, hv⟩ := hbox i W hJ
    obtain ⟨fn, tmps, assign, body, hy, hR1⟩ := hY i W v (by omega) hJ hv
    have hlt : i < k := by omega
    have hg := hlen i hlt
    rw [roundsIn_succ]
    gi_wp2
    refine ⟨rfl, hR1.mono ?_⟩
    rintro e W3 ⟨rfl, hJ3⟩
    obtain ⟨ad, cap, hc⟩ := hbox' i W3 hJ3
    have g1 : (1 : Int) < ((rs i : Nat) : Int) := by omega
    have hup := (callsIn_wide (n := 0)).2 (hUp i W3 _ hlt hJ3 hc)
    gi_wp2
    refine ⟨trivial, rfl, hup.mono ?_⟩
    rintro e w' ⟨ad', n', cap', rfl, ⟨x, hx⟩, hfr, hJ4⟩
    gi_wp2
    exact ih (i + 1) _ _ _ _ _ _ _ _ _ _ _ _ (by omega) hJ4

open Go Go.RowKit

variable {Γ : FuncId → Contract} {E : Env}

/-- What the iterator's box holds. -/
theorem Btw.box {G0 G : Gh} {l D : Nat} {rec : LoopState → Loop} {m : List (Nat × MC)} {W : World} (J : Btw E G0 l D rec G m W) {n Bx : Nat} {rows : List (List PC)} (hm : look m n = some (.obj [.c (.sl rows)] false)) (hg : G0.h n = some (.obj Bx)) :
    G.h n = some (.obj Bx) ∧ ∃ v ty, W.heap[Bx]? = some (.cells #[v] ty (0, 0)) ∧ VR G.K (.sl rows) v ∧ ∃ ad cap, v = .slice ad rows.length cap := by
  obtain ⟨h', e, l⟩ := J.le.h n _ hg
  cases l
  have hh := J.mem.home n
  rw [hm, e] at hh
  obtain ⟨vs, ty, a1, a2, a3, _⟩ := hh
  refine ⟨e, ?_⟩
  obtain ⟨ls⟩ := vs
  cases ls with
  | nil => simp at a2
  | cons v tl =>
    cases tl with
    | cons y tl => simp at a2
    | nil =>
      have hv := a3 0 _ v rfl rfl
      cases hv with
      | c _ _ hv =>
        obtain ⟨ad, cap, h1, _⟩ := hv.slice_form
        exact ⟨v, ty, a1, hv, ad, cap, h1⟩

theorem AWPm.rows (hS : SoundC Tryz.prog 150 upC) (hro : E.ro = none) {s : AS} {id bid : Nat} {ops : Array Oper} {o1 o2 : Oper} {c : Call} {t0 u g p : Tmp} {assign body : Code} {Q : Bool → Exit → AS → Prop} {l : List (List UInt8)}
    (hops : ops = #[o1, o2]) (h1 : o1.op = .move (.tmp t0)) (d1 : o1.dst = some u) (g1 : o1.guard = none) (h2 : o2.op = .call c) (hc : c.callee = .value (.func 100)) (hca : c.args = #[.tmp u]) (d2 : o2.dst = some g) (g2 : o2.guard = none)
    (hu : u < E.N.n) (hg : g < E.N.n) (hp : p < E.N.n) (hget : s.get t0 = .c (.sl (texts l))) (k nbx : Nat) (rs : Nat → List (List UInt8)) (hr0 : rs 0 = l) (hrs : ∀ i, rs (i + 1) = upS (rs i)) (hok : ∀ i, Okl (rs i)) (hgt : ∀ i, i < k → 1 < (rs i).length) (hle : (rs k).length ≤ 1)
    (hn : look s.m nbx = none) (S : Nat → List (Nat × MC)) (hS0 : S 0 = s.m) (s1 : Nat → AS)
    (hA : ∀ i, i ≤ k → ∀ E' : Env, E'.N = E.N → E'.ns = keys ((nbx, .obj [.c (.sl (texts (rs i)))] false) :: S i) →
      AWP Tryz.prog E' assign (fun e s' => e = .normal ∧ s' = s1 i) ⟨(p, .c (.sl (texts (rs i)))) :: (g, .undef) :: (u, .undef) :: s.t, (nbx, .obj [.c (.sl (texts (rs i)))] false) :: S i⟩)
    (hB : ∀ i, i ≤ k → ∀ E' : Env, E'.N = E.N → E'.ns = keys (s1 i).m → AWP Tryz.prog E' body (fun e s' => e = .normal ∧ Weak (keys (s1 i).m) s' ⟨[], (nbx, .obj [.c (.sl (texts (rs i)))] false) :: S (i + 1)⟩) (s1 i))
    (hQ : Q true .normal ⟨(g, .undef) :: (u, .undef) :: s.t, (nbx, .obj [.c (.sl (texts (rs k)))] false) :: S (k + 1)⟩) :
    AWPm Tryz.prog E false (.seq (.region id ops false) (.block bid (.rangeFunc (.tmp g) #[p] assign body))) Q s := by
  rintro G a w ⟨R, hd⟩
  have hd' : a.defers = [] := hd
  have hsz : a.tmps.size = E.N.n := R.size
  have hv := R.tmps t0
  rw [hget] at hv
  generalize hvv : a.tmps.getD t0 Go.undef = v at hv
  cases hv with
  | c _ _ hv =>
  obtain ⟨ad, cap, hform, _⟩ := hv.slice_form
  have hrows : EnterOK Tryz.prog 100 := ⟨_, Tryz.func100, rfl, rfl⟩
  have hrows1 : EnterOK Tryz.prog 149 := ⟨_, Tryz.func149, rfl, rfl⟩
  have hcall : Calls Tryz.prog 100 #[v] w fun e w' => e = .returned (.func (.func 149) #[] #[.pointer (some ⟨w.heap.size, 0, none⟩)]) ∧ w' = w.alloc (.cells #[v] 24) := by
    rw [hform]; exact rows_calls ad _ cap w
  refine wpIn_seq (region_made hops (move_at h1 hvv) (fun c hc => by rw [h1] at hc; cases hc) d1 g1 h2 hc hca d2 g2 hrows (by rw [hsz]; exact hu) hcall ?_)
  have M := R.mem.conv (E' := E) rfl rfl rfl rfl
  obtain ⟨n1, n2, n3⟩ := M.newObj (n := nbx) hn (cells := [.c (.sl (texts l))]) (vs := #[v]) (ty := 24) rfl (fun i x u e1 e2 => by
    cases i with
    | zero => simp at e1 e2; subst e1; subst e2; exact .c _ _ hv
    | succ i => simp at e1)
  generalize hG2 : G.put nbx (.obj w.heap.size) = G2 at n1 n2 n3
  obtain ⟨Bx, hBx⟩ : ∃ Bx, w.heap.size = Bx := ⟨_, rfl⟩
  have M2 : MRel E G2 (look ((nbx, .obj [.c (.sl (texts (rs 0)))] false) :: S 0)) (w.alloc (.cells #[v] 24)) := by
    rw [hr0, hS0]
    exact n3
  obtain ⟨a2, ha2⟩ : ∃ a2 : Act, a2 = { a with tmps := (a.tmps.setIfInBounds u v).setIfInBounds g (.func (.func 149) #[] #[.pointer (some ⟨w.heap.size, 0, none⟩)]) } := ⟨_, rfl⟩
  have R2 : RelM E false G2 ⟨(g, .undef) :: (u, .undef) :: s.t, (nbx, .obj [.c (.sl (texts (rs 0)))] false) :: S 0⟩ a2 (w.alloc (.cells #[v] 24)) := by
    refine ⟨⟨by rw [ha2]; simpa using hsz, rfl, fun i => ?_, M2.conv rfl rfl rfl rfl, fun n hn' => ?_⟩, by rw [ha2]; exact hd⟩
    · by_cases e1 : g = i
      · have : (AS.mk ((g, AV.undef) :: (u, .undef) :: s.t) ((nbx, .obj [.c (.sl (texts (rs 0)))] false) :: S 0)).get i = .undef := by simp [AS.get, look, e1]
        rw [this]; exact .undef _
      · by_cases e2 : u = i
        · have : (AS.mk ((g, AV.undef) :: (u, .undef) :: s.t) ((nbx, .obj [.c (.sl (texts (rs 0)))] false) :: S 0)).get i = .undef := by simp [AS.get, look, e1, e2]
          rw [this]; exact .undef _
        · have h3 : (AS.mk ((g, AV.undef) :: (u, .undef) :: s.t) ((nbx, .obj [.c (.sl (texts (rs 0)))] false) :: S 0)).get i = s.get i := by simp [AS.get, look, e1, e2]
          have h4 : a2.tmps.getD i Go.undef = a.tmps.getD i Go.undef := by rw [ha2]; simp [Array.getElem?_setIfInBounds_ne e1, Array.getElem?_setIfInBounds_ne e2]
          rw [h3, h4]
          exact (R.tmps i).mono n1
    · obtain ⟨x, x', e1, e2, l⟩ := R.ent n hn'
      obtain ⟨y, e3, l2⟩ := n1.h n x' e2
      exact ⟨x, y, e1, e3, Home.le_trans l l2⟩
  have hge : a2.eval (.tmp g) = .func (.func 149) #[] #[.pointer (some ⟨Bx, 0, none⟩)] := by
    have hg' : g < a.tmps.size := by rw [hsz]; exact hg
    rw [ha2, hBx]; simp [Act.eval, hg']
  rw [← ha2]
  change Code.wpIn (rF E.ro) 0 _ (Code.block bid _) _ a2 _
  have hgB : G2.h nbx = some (.obj Bx) := by rw [← hBx]; exact n2
  refine wpIn_block (wpIn_mono (AWPm.range (Q := inBlockM bid Q) hro R2 hge hrows1 (fun q hq => by simp at hq; subst hq; exact hp) (k + 1) (fun i => [.c (.sl (texts (rs i)))])
    (fun i => (nbx, .obj [.c (.sl (texts (rs i)))] false) :: S i) (fun i => (nbx, .obj [.c (.sl (texts (rs i)))] false) :: S (i + 1)) ((nbx, .obj [.c (.sl (texts (rs k)))] false) :: S (k + 1)) (fun _ _ => rfl) s1
    (fun _ => rfl) (fun i hi => hA i (by omega)) (fun i hi => hB i (by omega)) ?it hQ) ?out)
  case out =>
    rintro e a' w' ⟨b', G', s', h2, h3⟩
    cases e with
    | exit id' =>
      simp only [inBlockM] at h2
      simp only [Exit.inBlock]
      by_cases e : id' = bid
      · rw [if_pos e] at h2 ⊢; exact ⟨b', G', s', h2, h3⟩
      · rw [if_neg e] at h2 ⊢; exact ⟨b', G', s', h2, h3⟩
    | _ => exact ⟨b', G', s', h2, h3⟩
  case it =>
    intro l' D rec W G3 hl' hD J hY
    refine (rows_it l' Bx k (fun i => (rs i).length) (fun i W => ∃ G, Btw E G2 l' D rec G ((nbx, .obj [.c (.sl (texts (rs i)))] false) :: S i) W) (fun i W => ∃ G, Btw E G2 l' D rec G ((nbx, .obj [.c (.sl (texts (rs i)))] false) :: S (i + 1)) W)
      hgt hle ?hb ?hb' ?hy ?hup W ⟨G3, J⟩).mono (fun e W' h => h)
    case hb =>
      rintro i W ⟨G, J⟩
      obtain ⟨_, v, ty, q1, _⟩ := J.box (n := nbx) (rows := texts (rs i)) (by simp [look]) hgB
      exact ⟨v, by simp [World.cell?, q1]⟩
    case hb' =>
      rintro i W ⟨G, J⟩
      obtain ⟨_, v, ty, q1, _, ad, cap, rfl⟩ := J.box (n := nbx) (rows := texts (rs i)) (by simp [look]) hgB
      exact ⟨ad, cap, by simp [World.cell?, q1, texts_length]⟩
    case hy =>
      rintro i W v hi ⟨G, J⟩ hv
      obtain ⟨_, v', ty, q1, q2, _⟩ := J.box (n := nbx) (rows := texts (rs i)) (by simp [look]) hgB
      have : v' = v := by simpa [World.cell?, q1] using hv
      subst this
      refine (hY i W G [v'] (by omega) J rfl (fun j x u e1 e2 => ?_)).mono (fun e W' ⟨h1, G', _, h2⟩ => ⟨h1, G', h2⟩)
      cases j with
      | zero => simp at e1 e2; subst e1; subst e2; exact .c _ _ q2
      | succ j => simp at e1
    case hup =>
      rintro i W v hi ⟨G, J⟩ hv
      obtain ⟨q0, v', ty, q1, q2, _⟩ := J.box (n := nbx) (rows := texts (rs i)) (by simp [look]) hgB
      have : v' = v := by simpa [World.cell?, q1] using hv
      subst this
      refine Calls.mono (J.mem.call0 hS (up_at (rs i) (hok i)) (vals := [v']) rfl (fun j x u e1 e2 => ?_)) ?_
      · cases j with
        | zero => simp at e1 e2; subst e1; subst e2; exact .c _ _ q2
        | succ j => simp at e1
      · rintro e W' ⟨G', x, rfl, hle', hh, M', hx, hblk, hsz'⟩
        cases hx with
        | c _ _ hx =>
        obtain ⟨ad, cap, hform, _⟩ := hx.slice_form
        have hB' : W'.heap[Bx]? = some (.cells #[v'] ty (0, 0)) := (hblk Bx (heap_some_lt q1)).trans q1
        refine ⟨ad, _, cap, by rw [hform], ⟨v', by simp [World.cell?, hB']⟩, by simp [World.frozen?, hB'], G', ?_⟩
        rw [← hform]
        have hset : W'.setCell ⟨Bx, 0, none⟩ x = W'.setRow Bx #[x] := by rw [setCell_eq_setRow W' Bx 0 #[v'] ty (0, 0) x hB']; rfl
        rw [hset]
        have hll := J.loop
        have hdd := J.dfr
        have hlb : l' ≠ Bx := fun e => by rw [e, q1] at hll; cases hll
        have hdb : D ≠ Bx := fun e => by rw [e, q1] at hdd; cases hdd
        refine ⟨?_, Gh.le_trans J.le hle', ?_, ?_⟩
        · have := M'.setObj (n := nbx) (b := Bx) (cells := [.c (.sl (texts (rs i)))]) (cells' := [.c (.sl (texts (rs (i + 1))))]) (vs' := #[x]) (by simp [look]) (by rw [hh]; exact q0) rfl (fun j y z e1 e2 => by
            cases j with
            | zero => simp at e1 e2; subst e1; subst e2; rw [hrs]; exact .c _ _ hx
            | succ j => simp at e1)
          refine this.congr fun n => ?_
          simp only [look, mset]
          split <;> rfl
        · exact (setRow_other W' Bx l' _ hlb).trans ((hblk l' (heap_some_lt hll)).trans hll)
        · exact (setRow_other W' Bx D _ hdb).trans ((hblk D (heap_some_lt hdd)).trans hdd)


variable {Γ : FuncId → Contract}

noncomputable def upN (l : List (List UInt8)) : Nat → List (List UInt8)
  | 0 => l
  | i + 1 => upS (upN l i)
theorem upN_up (l : List (List UInt8)) : ∀ i, upN (upS l) i = upN l (i + 1)
  | 0 => rfl
  | i + 1 => by rw [upN, upN_up l i]; rfl
theorem upN_ok {l : List (List UInt8)} (h : Okl l) : ∀ i, Okl (upN l i)
  | 0 => h
  | i + 1 => upS_ok (upN_ok h i)
theorem depth : ∀ (n : Nat) (l : List (List UInt8)), l.length ≤ n → ∃ k, (∀ i, i < k → 1 < (upN l i).length) ∧ (upN l k).length ≤ 1
  | 0, l, h => ⟨0, fun i hi => by omega, by show l.length ≤ 1; omega⟩
  | n + 1, l, h => by
    by_cases h1 : l.length ≤ 1
    · exact ⟨0, fun i hi => by omega, h1⟩
    · have hl := upS_length l
      obtain ⟨k, h2, h3⟩ := depth n (upS l) (by omega)
      refine ⟨k + 1, fun i hi => ?_, by rw [← upN_up]; exact h3⟩
      cases i with
      | zero => show 1 < l.length; omega
      | succ i => rw [← upN_up]; exact h2 i (by omega)
theorem root_upN {l : List (List UInt8)} {k : Nat} (h : ∀ i, i < k → 1 < (upN l i).length) : ∀ i, i ≤ k → rootS (upN l i) = rootS l
  | 0, _ => rfl
  | i + 1, hi => by
    rw [← root_upN h i (by omega), rootS_gt (l := upN l i) (by have := h i (by omega); omega)]
    rfl

set_option maxRecDepth 100000 in
set_option maxHeartbeats 1000000 in
theorem root_sound (hΓ : SoundG Tryz.prog Γ) (h2 : Γ 150 = upC) (hS : SoundC Tryz.prog 150 upC) : SoundC Tryz.prog 50 rootC := by
  refine sound_fnM ⟨[], []⟩ Tryz.func50 (by kernel_rfl) rfl rfl ?_ ?_
  · rw [rs_50]; intro r hr; simp at hr; exact ⟨_, hr⟩
  intro args objs r hr
  obtain ⟨l, hl, rfl, rfl, rfl⟩ := mkC_inv hr
  refine ⟨rfl, by show 1 ≤ _; decide, fun E hro hN hns hF => ?_⟩
  have hN := hN.trans nt_50
  refine AWPm.seq (AWPm.of fun E' hE hns' => vc_sound hΓ mixed _ _ _ ?_)
  have hN' : E'.N.n = _ := (congrArg Lim.n hE).trans hN
  have hF' : E'.N.adv = _ := (congrArg Lim.adv hE).trans hF
  simp only [runA, runB, runC, runD, runE, runF, fieldE, storeE, binE, ↓reduceIte, Nat.reduceLT, Nat.reduceLeDiff, Nat.reduceEqDiff, Nat.reduceAdd, Nat.reduceMul, Nat.reduceSub, reduceCtorEq, putAt, unE, Nat.reduceBEq, convE, buildE, List.replicate, Int.reduceLT, Int.reduceLE, Int.reduceToNat, mkE, mapSetE, hN', hF', ty_3, ty_9, ty_24, notIf, isEq, thenM_normal]
  refine AWPm.seq (AWPm.of fun E' hE hns' => vc_sound hΓ mixed _ _ _ ?_)
  have hN' : E'.N.n = _ := (congrArg Lim.n hE).trans hN
  have hF' : E'.N.adv = _ := (congrArg Lim.adv hE).trans hF
  simp only [runA, runB, runC, runD, runE, runF, fieldE, storeE, binE, ↓reduceIte, Nat.reduceLT, Nat.reduceLeDiff, Nat.reduceEqDiff, Nat.reduceAdd, Nat.reduceMul, Nat.reduceSub, reduceCtorEq, putAt, unE, Nat.reduceBEq, convE, buildE, List.replicate, Int.reduceLT, Int.reduceLE, Int.reduceToNat, mkE, mapSetE, hN', hF', ty_3, ty_9, ty_24, notIf, isEq, thenM_normal]
  refine AWPm.weak (s2 := ⟨[(3, .ptr 192 0), (0, .c (.sl (texts l)))], [(192, .obj [.c (.str [])] false)]⟩) (by rw [hns]; simp only [runB, finC, finD, AS.get, AS.mem, false_implies, implies_true, ↓reduceIte, Nat.reduceEqDiff, Option.isSome_some, Option.isSome_none, forall_eq_or_imp, forall_eq, reduceCtorEq, Nat.reduceAdd, Nat.reduceMul, List.zip_cons_cons, List.zip_nil_left, List.zip_nil_right, List.forall_mem_nil]; first | done | simp) ?_
  obtain ⟨k, hk1, hk2⟩ := depth l.length l (Nat.le_refl _)
  have hroot := root_upN hk1
  refine AWPm.seq (AWPm.rows hS hro (l := l) rfl rfl rfl rfl rfl rfl rfl rfl rfl (by rw [hN]; decide) (by rw [hN]; decide) (by rw [hN]; decide) rfl k 384 (upN l) rfl (fun _ => rfl) (upN_ok hl) hk1 hk2 rfl
    (fun i => [(192, .obj [.c (.str (if i ≤ k then [] else rootS l))] false)]) (by simp)
    (fun i => ⟨[(4, .c (.sl (texts (upN l i)))), (7, .c (.sl (texts (upN l i)))), (6, .undef), (5, .undef), (3, .ptr 192 0), (0, .c (.sl (texts l)))], [(384, .obj [.c (.sl (texts (upN l i)))] false), (192, .obj [.c (.str (if i ≤ k then [] else rootS l))] false)]⟩) ?hA ?hB ?hQ)
  case hA =>
    intro i hi E' hE hns'
    have hN' : E'.N.n = _ := (congrArg Lim.n hE).trans hN
    have hF' : E'.N.adv = _ := (congrArg Lim.adv hE).trans hF
    refine vc_sound hΓ mixed _ _ _ ?_
    simp only [runA, runB, runC, runD, runE, runF, fieldE, storeE, binE, ↓reduceIte, Nat.reduceLT, Nat.reduceLeDiff, Nat.reduceEqDiff, Nat.reduceAdd, Nat.reduceMul, Nat.reduceSub, reduceCtorEq, putAt, unE, Nat.reduceBEq, convE, buildE, List.replicate, Int.reduceLT, Int.reduceLE, Int.reduceToNat, mkE, mapSetE, hN', hF', ty_3, ty_9, ty_24, notIf, isEq]
  case hB =>
    intro i hi E' hE hns'
    have hN' : E'.N.n = _ := (congrArg Lim.n hE).trans hN
    have hF' : E'.N.adv = _ := (congrArg Lim.adv hE).trans hF
    refine vc_sound hΓ mixed _ _ _ ?_
    rw [if_pos hi]
    by_cases h1 : (upN l i).length = 1
    · have hik : i = k := by
        rcases Nat.lt_or_ge i k with h | h
        · have := hk1 i h; omega
        · omega
      subst hik
      have g1 : (((upN l i).length : Int) == 1) = true := by simp [h1]
      have hr := hroot i (Nat.le_refl _)
      rw [rootS_le (by omega)] at hr
      obtain ⟨x, hx⟩ := List.length_eq_one_iff.1 h1
      rw [hx] at hr g1 ⊢
      have hr : x = rootS l := hr
      have hi1 : ¬ (i + 1 ≤ i) := by omega
      have g2 : (((1 : Nat) : Int) == 1) = true := rfl
      rw [if_neg hi1, ← hr]
      simp only [runA, runB, runC, runD, runE, runF, fieldE, storeE, binE, ↓reduceIte, Nat.reduceLT, Nat.reduceLeDiff, Nat.reduceEqDiff, Nat.reduceAdd, Nat.reduceMul, Nat.reduceSub, reduceCtorEq, putAt, unE, Nat.reduceBEq, convE, buildE, List.replicate, Int.reduceLT, Int.reduceLE, Int.reduceToNat, mkE, mapSetE, hN', hF', ty_3, ty_9, ty_24, notIf, isEq, g2, texts]
      simp only [runB, finC, finD, AS.get, AS.mem, false_implies, implies_true, ↓reduceIte, Nat.reduceEqDiff, Option.isSome_some, Option.isSome_none, forall_eq_or_imp, forall_eq, reduceCtorEq, Nat.reduceAdd, Nat.reduceMul, List.zip_cons_cons, List.zip_nil_left, List.zip_nil_right, List.forall_mem_nil]
      first | done | simp
    · have g1 : (((upN l i).length : Int) == 1) = false := by simp; omega
      have hif : (if i + 1 ≤ k then ([] : List UInt8) else rootS l) = [] := by
        split
        · rfl
        · obtain rfl : i = k := by omega
          have hr := hroot i (Nat.le_refl _)
          rw [rootS_le (by omega)] at hr
          have : upN l i = [] := List.eq_nil_of_length_eq_zero (by omega)
          rw [this] at hr
          exact hr.symm
      rw [hif]
      simp only [runA, runB, runC, runD, runE, runF, fieldE, storeE, binE, ↓reduceIte, Nat.reduceLT, Nat.reduceLeDiff, Nat.reduceEqDiff, Nat.reduceAdd, Nat.reduceMul, Nat.reduceSub, reduceCtorEq, putAt, unE, Nat.reduceBEq, convE, buildE, List.replicate, Int.reduceLT, Int.reduceLE, Int.reduceToNat, mkE, mapSetE, hN', hF', ty_3, ty_9, ty_24, notIf, isEq, g1, texts_length]
      simp only [runB, finC, finD, AS.get, AS.mem, false_implies, implies_true, ↓reduceIte, Nat.reduceEqDiff, Option.isSome_some, Option.isSome_none, forall_eq_or_imp, forall_eq, reduceCtorEq, Nat.reduceAdd, Nat.reduceMul, List.zip_cons_cons, List.zip_nil_left, List.zip_nil_right, List.forall_mem_nil]
      first | done | simp
  case hQ =>
    rw [if_neg (by omega), thenM_normal]
    refine AWPm.of fun E' hE hns' => vc_sound hΓ mixed _ _ _ ?_
    have hN' : E'.N.n = _ := (congrArg Lim.n hE).trans hN
    have hF' : E'.N.adv = _ := (congrArg Lim.adv hE).trans hF
    simp only [runA, runB, runC, runD, runE, runF, fieldE, storeE, binE, ↓reduceIte, Nat.reduceLT, Nat.reduceLeDiff, Nat.reduceEqDiff, Nat.reduceAdd, Nat.reduceMul, Nat.reduceSub, reduceCtorEq, putAt, unE, Nat.reduceBEq, convE, buildE, List.replicate, Int.reduceLT, Int.reduceLE, Int.reduceToNat, mkE, mapSetE, hN', hF', ty_3, ty_9, ty_24, notIf, isEq]
    simp only [runB, finC, finD, Option.isSome_some, Option.isSome_none, ↓reduceIte, Nat.reduceEqDiff, Nat.reduceAdd, Nat.reduceMul, forall_eq_or_imp, forall_eq, implies_true, Nat.reduceBEq, reduceCtorEq, false_implies, List.zip_cons_cons, List.zip_nil_left, List.zip_nil_right, Nat.reduceLeDiff, List.forall_mem_nil, rs_50]


variable {Γ : FuncId → Contract}

noncomputable def outN (l : List (List UInt8)) (A : Nat) : Nat → List (List UInt8)
  | 0 => []
  | i + 1 => outN l A i ++ [(upN l i).getD (nb (A / 2 ^ i)) []]
theorem outN_length (l : List (List UInt8)) (A : Nat) : ∀ i, (outN l A i).length = i
  | 0 => rfl
  | i + 1 => by rw [outN, List.length_append, outN_length l A i]; rfl
theorem path_upN {l : List (List UInt8)} {A k : Nat} (hA : A < l.length) (hp : powN l.length = true) (h : ∀ i, i < k → 1 < (upN l i).length) : ∀ i, i ≤ k →
    pathP l A = outN l A i ++ pathP (upN l i) (A / 2 ^ i) ∧ A / 2 ^ i < (upN l i).length ∧ powN (upN l i).length = true ∧ (upN l i).length + i ≤ l.length
  | 0, _ => ⟨by simp [outN, upN], by simpa [upN] using hA, hp, by simp [upN]⟩
  | i + 1, hi => by
    obtain ⟨h1, h2, h3, h4⟩ := path_upN hA hp h i (by omega)
    have hg := h i (by omega)
    obtain ⟨p1, p2⟩ := powN_half h3 hg
    have hl := upS_length (upN l i)
    have e : A / 2 ^ (i + 1) = A / 2 ^ i / 2 := by rw [Nat.pow_succ, ← Nat.div_div_eq_div_mul]
    rw [pathP_gt (l := upN l i) (by omega)] at h1
    refine ⟨?_, ?_, ?_, ?_⟩
    · rw [h1, outN, e]
      show _ = _ ++ pathP (upS (upN l i)) _
      simp
    · rw [e]; show _ < (upS (upN l i)).length; omega
    · show powN (upS (upN l i)).length = true
      rw [show (upS (upN l i)).length = (upN l i).length / 2 from by omega]; exact p2
    · show (upS (upN l i)).length + (i + 1) ≤ l.length
      omega

/-- A round's memory. -/
noncomputable def memP (l : List (List UInt8)) (A k i : Nat) : List (Nat × MC) :=
  [(192, .obj [.c (.int .i64 ((A / 2 ^ min i k : Nat) : Int))] false), (448, .obj [.own 449 1 (texts (outN l A (min i k)))] false), (449, .row 1 (min i k))]

theorem and_pred (n : Nat) (h : 1 ≤ n) (h2 : n < 9223372036854775808) : ((IntKind.i64.wrap (((BitVec.ofInt IntKind.i64.bits (n : Int) &&& BitVec.ofInt IntKind.i64.bits (((n - 1 : Nat) : Int))).toNat : Nat) : Int)) != 0) = !(powN n) := by
  have e : (BitVec.ofInt 64 (n : Int) &&& BitVec.ofInt 64 ((n - 1 : Nat) : Int)).toNat = n &&& (n - 1) := by
    rw [ofNat64, ofNat64, BitVec.toNat_and, BitVec.toNat_ofNat, BitVec.toNat_ofNat, Nat.mod_eq_of_lt (by omega), Nat.mod_eq_of_lt (by omega)]
  have hle : n &&& (n - 1) ≤ n := Nat.and_le_left
  show (IntKind.i64.wrap (((BitVec.ofInt 64 (n : Int) &&& BitVec.ofInt 64 ((n - 1 : Nat) : Int)).toNat : Nat) : Int) != 0) = _
  rw [e, wrapI (by omega)]
  have := land_pred n n (Nat.le_refl _) h
  unfold powN
  cases hp : powB n n
  · have : ¬ (n &&& (n - 1) = 0) := fun h0 => by rw [this.1 h0] at hp; cases hp
    simp only [Bool.not_false, bne_iff_ne, ne_eq]; omega
  · have := this.2 hp
    rw [this]; rfl

set_option maxRecDepth 100000 in
set_option maxHeartbeats 2000000 in
theorem path_sound (hΓ : SoundG Tryz.prog Γ) (h2 : Γ 150 = upC) (hS : SoundC Tryz.prog 150 upC) : SoundC Tryz.prog 94 pathC := by
  refine sound_fnM ⟨[], []⟩ Tryz.func94 (by kernel_rfl) rfl rfl ?_ ?_
  · rw [rs_94]; intro r hr; simp at hr; rcases hr with rfl | rfl <;> exact ⟨_, rfl⟩
  intro args objs r hr
  obtain ⟨⟨l, a⟩, hl, rfl, rfl, rfl⟩ := mkC_inv hr
  have hl : Okl l := hl
  have hl1 : l.length ≤ 1099511627 := hl.1
  refine ⟨rfl, by show 2 ≤ _; decide, fun E hro hN hns hF => ?_⟩
  have hN := hN.trans nt_94
  dsimp only
  refine AWPm.seq (AWPm.of fun E' hE hns' => vc_sound hΓ mixed _ _ _ ?_)
  have hN' : E'.N.n = _ := (congrArg Lim.n hE).trans hN
  have hF' : E'.N.adv = _ := (congrArg Lim.adv hE).trans hF
  simp only [runA, runB, runC, runD, runE, runF, fieldE, storeE, binE, ↓reduceIte, Nat.reduceLT, Nat.reduceLeDiff, Nat.reduceEqDiff, Nat.reduceAdd, Nat.reduceMul, Nat.reduceSub, reduceCtorEq, putAt, unE, Nat.reduceBEq, convE, buildE, List.replicate, Int.reduceLT, Int.reduceLE, Int.reduceToNat, mkE, mapSetE, hN', hF', ty_3, ty_9, ty_24, ty_37, notIf, isEq, thenM_normal]
  refine AWPm.seq (AWPm.of fun E' hE hns' => vc_sound hΓ mixed _ _ _ ?_)
  have hN' : E'.N.n = _ := (congrArg Lim.n hE).trans hN
  have hF' : E'.N.adv = _ := (congrArg Lim.adv hE).trans hF
  simp only [runA, runB, runC, runD, runE, runF, fieldE, storeE, binE, ↓reduceIte, Nat.reduceLT, Nat.reduceLeDiff, Nat.reduceEqDiff, Nat.reduceAdd, Nat.reduceMul, Nat.reduceSub, reduceCtorEq, putAt, unE, Nat.reduceBEq, convE, buildE, List.replicate, Int.reduceLT, Int.reduceLE, Int.reduceToNat, mkE, mapSetE, hN', hF', ty_3, ty_9, ty_24, ty_37, notIf, isEq, thenM_normal, texts_length]
  refine AWPm.seq (AWPm.of fun E' hE hns' => vc_sound hΓ mixed _ _ _ ?_)
  have hN' : E'.N.n = _ := (congrArg Lim.n hE).trans hN
  have hF' : E'.N.adv = _ := (congrArg Lim.adv hE).trans hF
  by_cases hneg : a < 0
  · have hS : pathS l a = ([], 4) := by unfold pathS; rw [if_pos (.inl hneg)]
    have g1 : decide (a < 0) = true := by simpa using hneg
    simp only [runA, runB, runC, runD, runE, runF, fieldE, storeE, binE, ↓reduceIte, Nat.reduceLT, Nat.reduceLeDiff, Nat.reduceEqDiff, Nat.reduceAdd, Nat.reduceMul, Nat.reduceSub, reduceCtorEq, putAt, unE, Nat.reduceBEq, convE, buildE, List.replicate, Int.reduceLT, Int.reduceLE, Int.reduceToNat, mkE, mapSetE, hN', hF', ty_3, ty_9, ty_24, ty_37, notIf, isEq, g1, thenM_ret]
    simp only [runB, finC, finD, Option.isSome_some, Option.isSome_none, ↓reduceIte, Nat.reduceEqDiff, Nat.reduceAdd, Nat.reduceMul, forall_eq_or_imp, forall_eq, implies_true, Nat.reduceBEq, reduceCtorEq, false_implies, List.zip_cons_cons, List.zip_nil_left, List.zip_nil_right, Nat.reduceLeDiff, List.forall_mem_nil, rs_94, hS, texts, List.map_nil]
  have g1 : decide (a < 0) = false := by simpa using hneg
  by_cases hge : (l.length : Int) ≤ a
  · have hS : pathS l a = ([], 4) := by unfold pathS; rw [if_pos (.inr hge)]
    have g2 : decide (a ≥ (l.length : Int)) = true := by simpa using hge
    simp only [runA, runB, runC, runD, runE, runF, fieldE, storeE, binE, ↓reduceIte, Nat.reduceLT, Nat.reduceLeDiff, Nat.reduceEqDiff, Nat.reduceAdd, Nat.reduceMul, Nat.reduceSub, reduceCtorEq, putAt, unE, Nat.reduceBEq, convE, buildE, List.replicate, Int.reduceLT, Int.reduceLE, Int.reduceToNat, mkE, mapSetE, hN', hF', ty_3, ty_9, ty_24, ty_37, notIf, isEq, g1, g2, thenM_ret]
    simp only [runB, finC, finD, Option.isSome_some, Option.isSome_none, ↓reduceIte, Nat.reduceEqDiff, Nat.reduceAdd, Nat.reduceMul, forall_eq_or_imp, forall_eq, implies_true, Nat.reduceBEq, reduceCtorEq, false_implies, List.zip_cons_cons, List.zip_nil_left, List.zip_nil_right, Nat.reduceLeDiff, List.forall_mem_nil, rs_94, hS, texts, List.map_nil]
  have g2 : decide (a ≥ (l.length : Int)) = false := by simpa using hge
  obtain ⟨A, rfl⟩ : ∃ A : Nat, a = (A : Int) := ⟨a.toNat, by omega⟩
  have hAl : A < l.length := by omega
  have e1 : IntKind.i64.wrap ((l.length : Int) - 1) = ((l.length - 1 : Nat) : Int) := by rw [wrapI (by omega)]; omega
  have g3 := and_pred l.length (by omega) (by omega)
  cases hpow : powN l.length
  · have hS : pathS l (A : Int) = ([], 3) := by unfold pathS; rw [if_neg (by omega), if_neg (by rw [hpow]; decide)]
    rw [hpow] at g3
    simp only [runA, runB, runC, runD, runE, runF, fieldE, storeE, binE, ↓reduceIte, Nat.reduceLT, Nat.reduceLeDiff, Nat.reduceEqDiff, Nat.reduceAdd, Nat.reduceMul, Nat.reduceSub, reduceCtorEq, putAt, unE, Nat.reduceBEq, convE, buildE, List.replicate, Int.reduceLT, Int.reduceLE, Int.reduceToNat, mkE, mapSetE, hN', hF', ty_3, ty_9, ty_24, ty_37, notIf, isEq, g1, g2, e1, g3, thenM_ret]
    simp only [runB, finC, finD, Option.isSome_some, Option.isSome_none, ↓reduceIte, Nat.reduceEqDiff, Nat.reduceAdd, Nat.reduceMul, forall_eq_or_imp, forall_eq, implies_true, Nat.reduceBEq, reduceCtorEq, false_implies, List.zip_cons_cons, List.zip_nil_left, List.zip_nil_right, Nat.reduceLeDiff, List.forall_mem_nil, rs_94, hS, texts, List.map_nil]
  have hPS : pathS l (A : Int) = (pathP l A, 0) := by unfold pathS; rw [if_neg (by omega), if_pos hpow]; rfl
  rw [hpow] at g3
  simp only [runA, runB, runC, runD, runE, runF, fieldE, storeE, binE, ↓reduceIte, Nat.reduceLT, Nat.reduceLeDiff, Nat.reduceEqDiff, Nat.reduceAdd, Nat.reduceMul, Nat.reduceSub, reduceCtorEq, putAt, unE, Nat.reduceBEq, convE, buildE, List.replicate, Int.reduceLT, Int.reduceLE, Int.reduceToNat, mkE, mapSetE, hN', hF', ty_3, ty_9, ty_24, ty_37, notIf, isEq, g1, g2, e1, g3, thenM_normal]
  refine AWPm.seq (AWPm.of fun E' hE hns' => vc_sound hΓ mixed _ _ _ ?_)
  have hN' : E'.N.n = _ := (congrArg Lim.n hE).trans hN
  have hF' : E'.N.adv = _ := (congrArg Lim.adv hE).trans hF
  simp only [runA, runB, runC, runD, runE, runF, fieldE, storeE, binE, ↓reduceIte, Nat.reduceLT, Nat.reduceLeDiff, Nat.reduceEqDiff, Nat.reduceAdd, Nat.reduceMul, Nat.reduceSub, reduceCtorEq, putAt, unE, Nat.reduceBEq, convE, buildE, List.replicate, Int.reduceLT, Int.reduceLE, Int.reduceToNat, mkE, mapSetE, hN', hF', ty_3, ty_9, ty_24, ty_37, notIf, isEq, thenM_normal]
  obtain ⟨k, hk1, hk2⟩ := depth l.length l (Nat.le_refl _)
  have hpath := path_upN hAl hpow hk1
  refine AWPm.weak (s2 := ⟨[(3, .ptr 192 0), (7, .ptr 448 0), (0, .c (.sl (texts l)))], memP l A k 0⟩) ?wk ?_
  case wk =>
    rw [hns]
    have e0 : min 0 k = 0 := by omega
    have e2 : A / 2 ^ 0 = A := by simp
    simp only [memP, e0, e2, outN, texts, List.map_nil]
    simp only [runB, finC, finD, AS.get, AS.mem, false_implies, implies_true, ↓reduceIte, Nat.reduceEqDiff, Option.isSome_some, Option.isSome_none, forall_eq_or_imp, forall_eq, reduceCtorEq, Nat.reduceAdd, Nat.reduceMul, List.zip_cons_cons, List.zip_nil_left, List.zip_nil_right, List.forall_mem_nil]
    first | done | simp
  refine AWPm.seq (AWPm.rows hS hro (l := l) rfl rfl rfl rfl rfl rfl rfl rfl rfl (by rw [hN]; decide) (by rw [hN]; decide) (by rw [hN]; decide) rfl k 1664 (upN l) rfl (fun _ => rfl) (upN_ok hl) hk1 hk2 rfl
    (memP l A k) rfl
    (fun i => ⟨[(8, .c (.sl (texts (upN l i)))), (27, .c (.sl (texts (upN l i)))), (26, .undef), (25, .undef), (3, .ptr 192 0), (7, .ptr 448 0), (0, .c (.sl (texts l)))], (1664, .obj [.c (.sl (texts (upN l i)))] false) :: memP l A k i⟩) ?hA ?hB ?hQ)
  case hA =>
    intro i hi E' hE hns'
    have hN' : E'.N.n = _ := (congrArg Lim.n hE).trans hN
    have hF' : E'.N.adv = _ := (congrArg Lim.adv hE).trans hF
    refine vc_sound hΓ mixed _ _ _ ?_
    simp only [runA, runB, runC, runD, runE, runF, fieldE, storeE, binE, ↓reduceIte, Nat.reduceLT, Nat.reduceLeDiff, Nat.reduceEqDiff, Nat.reduceAdd, Nat.reduceMul, Nat.reduceSub, reduceCtorEq, putAt, unE, Nat.reduceBEq, convE, buildE, List.replicate, Int.reduceLT, Int.reduceLE, Int.reduceToNat, mkE, mapSetE, hN', hF', ty_3, ty_9, ty_24, ty_37, notIf, isEq]
  case hB =>
    intro i hi E' hE hns'
    have hN' : E'.N.n = _ := (congrArg Lim.n hE).trans hN
    have hF' : E'.N.adv = _ := (congrArg Lim.adv hE).trans hF
    refine vc_sound hΓ mixed _ _ _ ?_
    have hi2 : min i k = i := by omega
    obtain ⟨q1, q2, q3, q4⟩ := hpath i hi
    by_cases hik : i < k
    · have hi3 : min (i + 1) k = i + 1 := by omega
      have hg := hk1 i hik
      obtain ⟨B, hB⟩ : ∃ B, A / 2 ^ i = B := ⟨_, rfl⟩
      have hB2 : A / 2 ^ (i + 1) = B / 2 := by rw [← hB, Nat.pow_succ, ← Nat.div_div_eq_div_mul]
      have hout : outN l A (i + 1) = outN l A i ++ [(upN l i).getD (nb B) []] := by rw [outN, hB]
      have hol := outN_length l A i
      obtain ⟨p1, p2⟩ := powN_half q3 hg
      rw [hB] at q2
      have hnb : nb B < (upN l i).length := by unfold nb; split <;> omega
      obtain ⟨s, hs⟩ : ∃ s, (upN l i)[nb B]? = some s := ⟨(upN l i)[nb B], by simp [hnb]⟩
      rw [show (upN l i).getD (nb B) [] = s from by simp [List.getD, hs]] at hout
      have hsr : (texts (upN l i))[nb B]? = some [PC.str s] := by simp [texts, hs]
      simp only [memP, hi2, hi3, hB, hB2]
      generalize upN l i = m at hg q1 q2 q3 q4 p1 p2 hnb hs hsr ⊢
      have g4 : decide ((m.length : Int) > 1) = true := by simp; omega
      have e4 := xor_one B (by omega)
      rw [show (if B % 2 = 1 then B - 1 else B + 1 : Nat) = nb B from rfl] at e4
      have e5 := shr_one B
      have hb : (1 : Int) < 0 ↔ False := by decide
      have hz := rowsOK_texts
      have hL : (i + 1) * 16 ≤ 140737488355328 := by omega
      simp only [runA, runB, runC, runD, runE, runF, fieldE, storeE, binE, ↓reduceIte, Nat.reduceLT, Nat.reduceLeDiff, Nat.reduceEqDiff, Nat.reduceAdd, Nat.reduceMul, Nat.reduceSub, reduceCtorEq, putAt, unE, Nat.reduceBEq, convE, buildE, List.replicate, Int.reduceLT, Int.reduceLE, Int.reduceToNat, mkE, mapSetE, hN', hF', ty_3, ty_9, ty_24, ty_37, notIf, isEq, g4, e4, hsr, hz, hL, hol, texts1, texts_app, ← hout, texts_length, shOp, hb, e5]
      refine drawnP_intro (by kernel_rfl) (by kernel_rfl) ?_
      simp only [runA, runB, runC, runD, runE, runF, fieldE, storeE, binE, ↓reduceIte, Nat.reduceLT, Nat.reduceLeDiff, Nat.reduceEqDiff, Nat.reduceAdd, Nat.reduceMul, Nat.reduceSub, reduceCtorEq, putAt, unE, Nat.reduceBEq, convE, buildE, List.replicate, Int.reduceLT, Int.reduceLE, Int.reduceToNat, mkE, mapSetE, hN', hF', ty_3, ty_9, ty_24, ty_37, notIf, isEq, shOp, hb, e5]
      simp only [runB, finC, finD, AS.get, AS.mem, false_implies, implies_true, ↓reduceIte, Nat.reduceEqDiff, Option.isSome_some, Option.isSome_none, forall_eq_or_imp, forall_eq, reduceCtorEq, Nat.reduceAdd, Nat.reduceMul, List.zip_cons_cons, List.zip_nil_left, List.zip_nil_right, List.forall_mem_nil]
      first | done | simp
    · obtain rfl : i = k := by omega
      have hi3 : min (i + 1) i = i := by omega
      simp only [memP, hi2, hi3]
      have g4 : decide (((upN l i).length : Int) > 1) = false := by simp; omega
      simp only [runA, runB, runC, runD, runE, runF, fieldE, storeE, binE, ↓reduceIte, Nat.reduceLT, Nat.reduceLeDiff, Nat.reduceEqDiff, Nat.reduceAdd, Nat.reduceMul, Nat.reduceSub, reduceCtorEq, putAt, unE, Nat.reduceBEq, convE, buildE, List.replicate, Int.reduceLT, Int.reduceLE, Int.reduceToNat, mkE, mapSetE, hN', hF', ty_3, ty_9, ty_24, ty_37, notIf, isEq, g4, texts_length]
      simp only [runB, finC, finD, AS.get, AS.mem, false_implies, implies_true, ↓reduceIte, Nat.reduceEqDiff, Option.isSome_some, Option.isSome_none, forall_eq_or_imp, forall_eq, reduceCtorEq, Nat.reduceAdd, Nat.reduceMul, List.zip_cons_cons, List.zip_nil_left, List.zip_nil_right, List.forall_mem_nil]
      first | done | simp
  case hQ =>
    obtain ⟨q1, q2, q3, q4⟩ := hpath k (Nat.le_refl _)
    rw [pathP_le (l := upN l k) hk2, List.append_nil] at q1
    have hi3 : min (k + 1) k = k := by omega
    rw [thenM_normal]
    refine AWPm.of fun E' hE hns' => vc_sound hΓ mixed _ _ _ ?_
    have hN' : E'.N.n = _ := (congrArg Lim.n hE).trans hN
    have hF' : E'.N.adv = _ := (congrArg Lim.adv hE).trans hF
    simp only [memP, hi3, ← q1]
    simp only [runA, runB, runC, runD, runE, runF, fieldE, storeE, binE, ↓reduceIte, Nat.reduceLT, Nat.reduceLeDiff, Nat.reduceEqDiff, Nat.reduceAdd, Nat.reduceMul, Nat.reduceSub, reduceCtorEq, putAt, unE, Nat.reduceBEq, convE, buildE, List.replicate, Int.reduceLT, Int.reduceLE, Int.reduceToNat, mkE, mapSetE, hN', hF', ty_3, ty_9, ty_24, ty_37, notIf, isEq]
    simp only [runB, finC, finD, Option.isSome_some, Option.isSome_none, ↓reduceIte, Nat.reduceEqDiff, Nat.reduceAdd, Nat.reduceMul, forall_eq_or_imp, forall_eq, implies_true, Nat.reduceBEq, reduceCtorEq, false_implies, List.zip_cons_cons, List.zip_nil_left, List.zip_nil_right, Nat.reduceLeDiff, List.forall_mem_nil, rs_94, hPS]

end Go.Proofs.YtenmlgalcjkdbaaGreat.AM
