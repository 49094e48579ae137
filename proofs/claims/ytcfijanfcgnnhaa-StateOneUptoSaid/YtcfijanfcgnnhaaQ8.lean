/-
  Q8: Mk1 Mk2 Mk3 Mk4 Mk5.
-/
import Derived.Test.YtcfijanfcgnnhaaQ7
set_option linter.unusedVariables false
set_option linter.unusedSimpArgs false
namespace Go.Proofs.Ytcfijanfcgnnhaa.AM
open Go

noncomputable def upS : List (List UInt8) → List (List UInt8)
  | a :: b :: l => shortS (a ++ b) :: upS l
  | l => l
theorem upS_nil : upS [] = [] := by rw [upS]; intro a b l h; cases h
theorem upS_one (x : List UInt8) : upS [x] = [x] := by rw [upS]; intro a b l h; cases h
theorem upS_length : ∀ (l : List (List UInt8)), (upS l).length = (l.length + 1) / 2
  | [] => by rw [upS_nil]; rfl
  | [x] => by rw [upS_one]; simp
  | a :: b :: l => by
    rw [upS, List.length_cons, upS_length l]
    simp only [List.length_cons]; omega
/-- All texts are short enough. -/
def Okl (l : List (List UInt8)) : Prop := l.length ≤ 1099511627 ∧ ∀ s ∈ l, s.length ≤ 10995116277
theorem upS_mem : ∀ (l : List (List UInt8)), (∀ s ∈ l, s.length ≤ 10995116277) → ∀ s ∈ upS l, s.length ≤ 10995116277
  | [], _, s, hs => by rw [upS_nil] at hs; cases hs
  | [x], h, s, hs => by rw [upS_one] at hs; exact h s hs
  | a :: b :: l, h, s, hs => by
    rw [upS] at hs
    rcases List.mem_cons.1 hs with rfl | hs
    · rw [shortS_length]; decide
    · exact upS_mem l (fun x hx => h x (by simp [hx])) s hs
theorem upS_ok {l : List (List UInt8)} (h : Okl l) : Okl (upS l) := by
  refine ⟨?_, upS_mem l h.2⟩
  rw [upS_length]
  have := h.1
  omega

noncomputable def rootF : Nat → List (List UInt8) → List UInt8
  | 0, l => l.headD []
  | n + 1, l => if l.length ≤ 1 then l.headD [] else rootF n (upS l)
noncomputable def rootS (l : List (List UInt8)) : List UInt8 := rootF l.length l
theorem rootF_eq : ∀ (n m : Nat) (l : List (List UInt8)), l.length ≤ n + 1 → l.length ≤ m + 1 → rootF n l = rootF m l
  | 0, 0, l, _, _ => rfl
  | 0, m + 1, l, h, _ => by rw [rootF, rootF, if_pos (by omega)]
  | n + 1, 0, l, _, h => by rw [rootF, rootF, if_pos (by omega)]
  | n + 1, m + 1, l, h1, h2 => by
    rw [rootF, rootF]
    split
    · rfl
    · exact rootF_eq n m _ (by rw [upS_length]; omega) (by rw [upS_length]; omega)
theorem rootS_le {l : List (List UInt8)} (h : l.length ≤ 1) : rootS l = l.headD [] := by
  unfold rootS
  rw [rootF_eq l.length 0 l (by omega) (by omega), rootF]
theorem rootS_gt {l : List (List UInt8)} (h : ¬ l.length ≤ 1) : rootS l = rootS (upS l) := by
  unfold rootS
  have hl := upS_length l
  obtain ⟨n, hn⟩ : ∃ n, l.length = n + 1 := ⟨l.length - 1, by omega⟩
  rw [hn, rootF, if_neg h]
  exact rootF_eq _ _ _ (by omega) (by omega)

/-- A number of leaves that is a power of two. -/
def powB : Nat → Nat → Bool
  | 0, _ => false
  | f + 1, n => if n ≤ 1 then n == 1 else n % 2 == 0 && powB f (n / 2)
/-- The neighbours on the way up. -/
noncomputable def pathF : Nat → List (List UInt8) → Nat → List (List UInt8)
  | 0, _, _ => []
  | n + 1, l, at_ => if l.length ≤ 1 then [] else l.getD (if at_ % 2 = 1 then at_ - 1 else at_ + 1) [] :: pathF n (upS l) (at_ / 2)
/-- To the root. -/
noncomputable def climbS : List UInt8 → Nat → List (List UInt8) → List UInt8
  | leaf, _, [] => leaf
  | leaf, at_, s :: path => climbS (if at_ % 2 = 1 then shortS (s ++ leaf) else shortS (leaf ++ s)) (at_ / 2) path

theorem powB_even {f n : Nat} (h : powB (f + 1) n = true) (h1 : 1 < n) : n % 2 = 0 ∧ powB f (n / 2) = true := by
  rw [powB, if_neg (by omega), Bool.and_eq_true, beq_iff_eq] at h
  exact h
theorem powB_of : ∀ (f j : Nat), j < f → powB f (2 ^ j) = true
  | 0, j, h => by omega
  | f + 1, 0, _ => rfl
  | f + 1, j + 1, h => by
    have h2 : 2 ^ (j + 1) = 2 * 2 ^ j := by rw [Nat.pow_succ]; omega
    have hp : 1 ≤ 2 ^ j := Nat.one_le_two_pow
    rw [powB, if_neg (by omega), h2, Nat.mul_mod_right, Nat.mul_div_cancel_left _ (by decide), powB_of f j (by omega)]
    rfl
theorem powB_to : ∀ (f n : Nat), powB f n = true → ∃ j, n = 2 ^ j
  | 0, n, h => by simp [powB] at h
  | f + 1, n, h => by
    by_cases h1 : n ≤ 1
    · rw [powB, if_pos h1, beq_iff_eq] at h; exact ⟨0, h⟩
    · obtain ⟨h2, h3⟩ := powB_even h (by omega)
      obtain ⟨j, hj⟩ := powB_to f _ h3
      exact ⟨j + 1, by rw [Nat.pow_succ]; omega⟩
theorem pow_lt (n : Nat) : n < 2 ^ n := Nat.lt_two_pow_self
theorem powB_fuel {f g n : Nat} (hf : n ≤ f) (hg : n ≤ g) (hn : 1 ≤ n) : powB f n = powB g n := by
  have key : ∀ f g, n ≤ f → n ≤ g → powB f n = true → powB g n = true := by
    intro f g _ hg h
    obtain ⟨j, rfl⟩ := powB_to f n h
    exact powB_of g j (by have := pow_lt j; omega)
  cases h1 : powB f n <;> cases h2 : powB g n <;> try rfl
  · rw [key g f hg hf h2] at h1; cases h1
  · rw [key f g hf hg h1] at h2; cases h2
/-- Is it a power of two? -/
def powN (n : Nat) : Bool := powB n n
theorem powN_half {n : Nat} (h : powN n = true) (h1 : 1 < n) : n % 2 = 0 ∧ powN (n / 2) = true := by
  unfold powN at h ⊢
  obtain ⟨f, rfl⟩ : ∃ f, n = f + 1 := ⟨n - 1, by omega⟩
  obtain ⟨h2, h3⟩ := powB_even h h1
  exact ⟨h2, by rw [powB_fuel (g := f) (Nat.le_refl _) (by omega) (by omega)]; exact h3⟩
theorem pathF_eq : ∀ (n m : Nat) (l : List (List UInt8)) (a : Nat), l.length ≤ n + 1 → l.length ≤ m + 1 → pathF n l a = pathF m l a
  | 0, 0, l, a, _, _ => rfl
  | 0, m + 1, l, a, h, _ => by rw [pathF, pathF, if_pos (by omega)]
  | n + 1, 0, l, a, _, h => by rw [pathF, pathF, if_pos (by omega)]
  | n + 1, m + 1, l, a, h1, h2 => by
    rw [pathF, pathF]
    split
    · rfl
    · rw [pathF_eq n m _ _ (by rw [upS_length]; omega) (by rw [upS_length]; omega)]
noncomputable def pathP (l : List (List UInt8)) (a : Nat) : List (List UInt8) := pathF l.length l a
def nb (a : Nat) : Nat := if a % 2 = 1 then a - 1 else a + 1
theorem pathP_le {l : List (List UInt8)} (h : l.length ≤ 1) (a : Nat) : pathP l a = [] := by
  unfold pathP
  rw [pathF_eq l.length 0 l a (by omega) (by omega), pathF]
theorem pathP_gt {l : List (List UInt8)} (h : ¬ l.length ≤ 1) (a : Nat) : pathP l a = l.getD (nb a) [] :: pathP (upS l) (a / 2) := by
  unfold pathP
  have hl := upS_length l
  obtain ⟨n, hn⟩ : ∃ n, l.length = n + 1 := ⟨l.length - 1, by omega⟩
  rw [hn, pathF, if_neg h, pathF_eq n (upS l).length _ _ (by omega) (by omega)]
  rfl
/-- The path, or why there is none. -/
noncomputable def pathS (l : List (List UInt8)) (a : Int) : List (List UInt8) × Int :=
  if a < 0 ∨ (l.length : Int) ≤ a then ([], 4) else if powN l.length = true then (pathP l a.toNat, 0) else ([], 3)
theorem land_pred : ∀ (f n : Nat), n ≤ f → 1 ≤ n → (n &&& (n - 1) = 0 ↔ powB f n = true)
  | 0, n, h, h1 => by omega
  | f + 1, n, h, h1 => by
    have hd := @Nat.and_div_two n (n - 1)
    have hm := @Nat.and_mod_two_eq_one n (n - 1)
    by_cases e : n ≤ 1
    · have : n = 1 := by omega
      subst this
      simp [powB]
    · rw [powB, if_neg e, Bool.and_eq_true, beq_iff_eq]
      by_cases e2 : n % 2 = 0
      · have ih := land_pred f (n / 2) (by omega) (by omega)
        rw [show (n - 1) / 2 = n / 2 - 1 from by omega] at hd
        constructor
        · intro h0
          refine ⟨e2, ih.1 ?_⟩
          rw [← hd, h0]
        · rintro ⟨_, h3⟩
          have := ih.2 h3
          omega
      · constructor
        · intro h0
          rw [show (n - 1) / 2 = n / 2 from by omega, Nat.and_self] at hd
          omega
        · rintro ⟨h3, _⟩; omega

theorem upS_get : ∀ (l : List (List UInt8)) (i : Nat), 2 * i + 1 < l.length → (upS l)[i]? = some (shortS (l.getD (2 * i) [] ++ l.getD (2 * i + 1) []))
  | [], i, h => by simp at h
  | [_], i, h => by simp at h
  | a :: b :: l, i, h => by
    rw [upS]
    cases i with
    | zero => simp
    | succ i =>
      have := upS_get l i (by simp at h; omega)
      rw [List.getElem?_cons_succ, this]
      have e1 : 2 * (i + 1) = 2 * i + 1 + 1 := by omega
      rw [e1]
      rfl
theorem upS_last : ∀ (l : List (List UInt8)) (i : Nat), 2 * i + 1 = l.length → (upS l)[i]? = l[2 * i]?
  | [], i, h => by simp at h
  | [x], i, h => by
    have : i = 0 := by simp at h; omega
    subst this; rw [upS_one]
  | a :: b :: l, i, h => by
    rw [upS]
    cases i with
    | zero => simp at h
    | succ i =>
      have := upS_last l i (by simp at h; omega)
      rw [List.getElem?_cons_succ, this]
      have e1 : 2 * (i + 1) = 2 * i + 1 + 1 := by omega
      rw [e1]
      rfl
/-- Climbed, a leaf's path leads to the root. -/
theorem climb_path : ∀ (n : Nat) (l : List (List UInt8)) (i : Nat), i < l.length → l.length ≤ n → powN l.length = true → climbS (l.getD i []) i (pathP l i) = rootS l
  | 0, l, i, h, hn, _ => by omega
  | n + 1, l, i, h, hn, hp => by
    by_cases h1 : l.length ≤ 1
    · rw [pathP_le h1, climbS, rootS_le h1]
      obtain rfl : i = 0 := by omega
      cases l <;> rfl
    · rw [pathP_gt h1]
      obtain ⟨hp1, hp2⟩ := powN_half hp (by omega)
      have hl := upS_length l
      have hl2 : (upS l).length = l.length / 2 := by omega
      rw [rootS_gt h1, ← climb_path n (upS l) (i / 2) (by omega) (by omega) (by rw [hl2]; exact hp2), climbS]
      have hu := upS_get l (i / 2) (by omega)
      have hg : (upS l).getD (i / 2) [] = shortS (l.getD (2 * (i / 2)) [] ++ l.getD (2 * (i / 2) + 1) []) := by simp [List.getD, hu]
      rw [hg]
      congr 1
      unfold nb
      by_cases ho : i % 2 = 1
      · rw [if_pos ho, if_pos ho, show 2 * (i / 2) = i - 1 from by omega, show i - 1 + 1 = i from by omega]
      · rw [if_neg ho, if_neg ho, show 2 * (i / 2) = i from by omega]


variable {Γ : FuncId → Contract}

noncomputable def upC : Contract := mkC (α := List (List UInt8)) Okl (fun l => [.c (.sl (texts l))]) (fun _ => []) (fun l => ⟨[.pv (.c (.sl (texts (upS l))))], []⟩)
theorem up_at (l : List (List UInt8)) (h : Okl l) : upC [.c (.sl (texts l))] [] = some ⟨[.pv (.c (.sl (texts (upS l))))], []⟩ :=
  mkC_at (α := List (List UInt8)) l h (fun y _ h1 _ => by
    simp at h1
    rw [texts_inj h1])

/-- The pairs' part of the row above. -/
noncomputable def upP (l : List (List UInt8)) (i : Nat) : List (List UInt8) := (upS l).take i
theorem upP_succ (l : List (List UInt8)) (i : Nat) (h : 2 * i + 1 < l.length) : upP l (i + 1) = upP l i ++ [shortS (l[2 * i]'(by omega) ++ l[2 * i + 1]'h)] := by
  unfold upP
  have := upS_get l i h
  rw [List.take_add_one, this]
  simp only [List.getD, List.getElem?_eq_getElem h, List.getElem?_eq_getElem (show 2 * i < l.length by omega), Option.getD_some, Option.toList_some]
theorem upP_length (l : List (List UInt8)) (i : Nat) (h : 2 * i ≤ l.length) : (upP l i).length = i := by
  unfold upP
  rw [List.length_take, upS_length]
  omega
theorem upP_done (l : List (List UInt8)) (i : Nat) (h : 2 * i ≤ l.length) (h2 : l.length ≤ 2 * i + 1) : upP l i ++ l.drop (2 * i) = upS l := by
  have hl := upS_length l
  have hp : (upP l i).length = i := upP_length l i h
  apply List.ext_getElem?
  intro j
  by_cases hj : j < i
  · rw [List.getElem?_append_left (by omega), upP, List.getElem?_take, if_pos hj]
  · rw [List.getElem?_append_right (by omega), hp, List.getElem?_drop]
    by_cases e : l.length = 2 * i
    · rw [List.getElem?_eq_none (by omega), List.getElem?_eq_none (by omega)]
    · by_cases e2 : j = i
      · subst e2
        rw [upS_last l j (by omega)]
        congr 1; omega
      · rw [List.getElem?_eq_none (by omega), List.getElem?_eq_none (by omega)]

set_option maxRecDepth 100000 in
set_option maxHeartbeats 1000000 in
theorem up_sound (hΓ : SoundG Try.prog Γ) (h2 : Γ 86 = shortC) : SoundC Try.prog 101 upC := by
  refine sound_fn Try.func101 (by kernel_rfl) rfl rfl ?_
  intro args objs r hr
  obtain ⟨l, hl, rfl, rfl, rfl⟩ := mkC_inv hr
  refine ⟨rfl, by show 1 ≤ _; decide, fun E hN hns hF => ?_⟩
  refine vc_sound hΓ mixed _ _ _ ?_
  have hN := hN.trans nt_101
  obtain ⟨hl1, hl2⟩ := hl
  simp only [runA, runB, runC, runD, runE, runF, fieldE, storeE, binE, ↓reduceIte, Nat.reduceLT, Nat.reduceLeDiff, Nat.reduceEqDiff, Nat.reduceAdd, Nat.reduceMul, Nat.reduceSub, reduceCtorEq, putAt, unE, Nat.reduceBEq, convE, buildE, List.replicate, Int.reduceLT, Int.reduceLE, Int.reduceToNat, mkE, mapSetE, hN, hF, ty_3, ty_5, ty_9, ty_27, ty_72, ty_153, notIf, isEq]
  refine AWP.loop (fun c st => ∃ i : Nat, 2 * i ≤ l.length ∧ c = l.length - 2 * i ∧ st = ⟨[(0, .c (.sl (texts (l.drop (2 * i))))), (3, .own 1217 1 (texts (upP l i)))], [(1217, .row 1 i)]⟩) ⟨l.length, _, ?w, 0, by omega, by omega, rfl⟩ ?r
  case w =>
    rw [hns]
    simp only [runB, finC, finD, AS.get, AS.mem, false_implies, implies_true, ↓reduceIte, Nat.reduceEqDiff, Option.isSome_some, Option.isSome_none, forall_eq_or_imp, forall_eq, reduceCtorEq, Nat.reduceAdd, Nat.reduceMul, List.zip_cons_cons, List.zip_nil_left, List.zip_nil_right, List.forall_mem_nil]
    simp [upP, texts]
  case r =>
    rintro c st ⟨i, hi, rfl, rfl⟩
    refine vc_sound hΓ mixed _ _ _ ?_
    have hpl := upP_length l i hi
    have hdl : (l.drop (2 * i)).length = l.length - 2 * i := by simp
    by_cases hlt : 2 * i + 1 < l.length
    · have hd : l.drop (2 * i) = l[2 * i]'(by omega) :: l[2 * i + 1] :: l.drop (2 * (i + 1)) := by
        rw [List.drop_eq_getElem_cons (by omega), List.drop_eq_getElem_cons (by omega)]; congr 3
      have hsucc := upP_succ l i hlt
      have hm1 := hl2 _ (List.getElem_mem (show 2 * i < l.length by omega))
      have hm2 := hl2 _ (List.getElem_mem hlt)
      generalize l[2 * i]'(by omega) = a at hd hsucc hm1
      generalize l[2 * i + 1]'hlt = b at hd hsucc hm2
      obtain ⟨tl, htl⟩ : ∃ tl, l.drop (2 * (i + 1)) = tl := ⟨_, rfl⟩
      have ht : texts (l.drop (2 * i)) = [.str a] :: [.str b] :: texts tl := by rw [hd, htl]; rfl
      have hll : tl.length = l.length - 2 * (i + 1) := by rw [← htl]; simp
      have g1 : decide (((tl.length + 1 + 1 : Nat) : Int) > (1 : Int)) = true := by simp; omega
      have g2 : (2 : Int) ≤ ((tl.length + 1 + 1 : Nat) : Int) := by omega
      have hz2 : rowsOK 1 ([PC.str a] :: [PC.str b] :: texts tl) := rowsOK_texts (a :: b :: tl)
      have htk : (texts tl).take tl.length = texts tl := by rw [← texts_length tl, List.take_length]
      have z0 : (0 : Int) ≤ 2 := by decide
      have hs := short_at [a, b] ⟨by simp; omega, by simp⟩
      have hf : [a, b].flatten = a ++ b := by simp
      rw [hf] at hs
      have hsl : [[PC.sl (bytes a)], [PC.sl (bytes b)]] = slices [a, b] := rfl
      have hz := rowsOK_texts
      have hL : (i + 1) * 16 ≤ 140737488355328 := by omega
      rw [ht]
      simp only [runA, runB, runC, runD, runE, runF, fieldE, storeE, binE, ↓reduceIte, Nat.reduceLT, Nat.reduceLeDiff, Nat.reduceEqDiff, Nat.reduceAdd, Nat.reduceMul, Nat.reduceSub, reduceCtorEq, putAt, unE, Nat.reduceBEq, convE, buildE, List.replicate, Int.reduceLT, Int.reduceLE, Int.reduceToNat, mkE, mapSetE, hN, hF, ty_3, ty_5, ty_9, ty_27, ty_72, ty_153, notIf, isEq, g1, h2, hsl, hs, texts1, texts_app, ← hsucc, hz, hL, texts_length, hpl]
      refine drawnP_intro (by kernel_rfl) (by kernel_rfl) ?_
      simp only [runA, runB, runC, runD, runE, runF, fieldE, storeE, binE, ↓reduceIte, Nat.reduceLT, Nat.reduceLeDiff, Nat.reduceEqDiff, Nat.reduceAdd, Nat.reduceMul, Nat.reduceSub, reduceCtorEq, putAt, unE, Nat.reduceBEq, convE, buildE, List.replicate, Int.reduceLT, Int.reduceLE, Int.reduceToNat, mkE, mapSetE, hN, hF, ty_3, ty_5, ty_9, ty_27, ty_72, ty_153, notIf, isEq, g2, hz2, htk, z0, sliceE, boundE, Int.le_refl, texts_length]
      refine ⟨l.length - 2 * (i + 1), _, by omega, ?_, i + 1, by omega, rfl, rfl⟩
      rw [hns, htl]
      simp only [runB, finC, finD, AS.get, AS.mem, false_implies, implies_true, ↓reduceIte, Nat.reduceEqDiff, Option.isSome_some, Option.isSome_none, forall_eq_or_imp, forall_eq, reduceCtorEq, Nat.reduceAdd, Nat.reduceMul, List.zip_cons_cons, List.zip_nil_left, List.zip_nil_right, List.forall_mem_nil]
      first | done | simp
    · obtain ⟨tl, htl⟩ : ∃ tl, l.drop (2 * i) = tl := ⟨_, rfl⟩
      have hdone := upP_done l i hi (by omega)
      have hll : tl.length ≤ 1 := by rw [← htl]; simp; omega
      have g1 : decide ((tl.length : Int) > (1 : Int)) = false := by simp; omega
      have hz := rowsOK_texts
      have hL : (i + tl.length) * 16 ≤ 140737488355328 := by omega
      rw [htl] at hdone ⊢
      simp only [runA, runB, runC, runD, runE, runF, fieldE, storeE, binE, ↓reduceIte, Nat.reduceLT, Nat.reduceLeDiff, Nat.reduceEqDiff, Nat.reduceAdd, Nat.reduceMul, Nat.reduceSub, reduceCtorEq, putAt, unE, Nat.reduceBEq, convE, buildE, List.replicate, Int.reduceLT, Int.reduceLE, Int.reduceToNat, mkE, mapSetE, hN, hF, ty_3, ty_5, ty_9, ty_27, ty_72, ty_153, notIf, isEq, g1, hz, hL, texts_length, texts_app, hdone, hpl]
      simp only [runB, finC, finD, Option.isSome_some, Option.isSome_none, ↓reduceIte, Nat.reduceEqDiff, Nat.reduceAdd, Nat.reduceMul, forall_eq_or_imp, forall_eq, implies_true, Nat.reduceBEq, reduceCtorEq, false_implies, List.zip_cons_cons, List.zip_nil_left, List.zip_nil_right, Nat.reduceLeDiff, List.forall_mem_nil, rs_101]


variable {Γ : FuncId → Contract}

noncomputable def rootC : Contract := mkC (α := List (List UInt8)) Okl (fun l => [.c (.sl (texts l))]) (fun _ => []) (fun l => ⟨[.pv (.c (.str (rootS l)))], []⟩)
theorem root_at (l : List (List UInt8)) (h : Okl l) : rootC [.c (.sl (texts l))] [] = some ⟨[.pv (.c (.str (rootS l)))], []⟩ :=
  mkC_at (α := List (List UInt8)) l h (fun y _ h1 _ => by
    simp at h1
    rw [texts_inj h1])


variable {Γ : FuncId → Contract}

theorem ofNat64 (n : Nat) : BitVec.ofInt 64 (n : Int) = BitVec.ofNat 64 n := by rw [BitVec.ofInt_natCast]
theorem and_one (n : Nat) (h : n < 9223372036854775808) : IntKind.i64.wrap (((BitVec.ofInt IntKind.i64.bits (n : Int) &&& BitVec.ofInt IntKind.i64.bits 1).toNat : Nat) : Int) = ((n % 2 : Nat) : Int) := by
  have e : (BitVec.ofInt 64 (n : Int) &&& BitVec.ofInt 64 1).toNat = n % 2 := by
    rw [ofNat64, show (1 : Int) = ((1 : Nat) : Int) from rfl, ofNat64, BitVec.toNat_and, BitVec.toNat_ofNat, BitVec.toNat_ofNat, Nat.mod_eq_of_lt (by omega), Nat.mod_eq_of_lt (by omega), Nat.and_one_is_mod]
  show IntKind.i64.wrap (((BitVec.ofInt 64 (n : Int) &&& BitVec.ofInt 64 1).toNat : Nat) : Int) = _
  rw [e, wrapI (by omega)]
theorem xor_one_nat (n : Nat) : n ^^^ 1 = if n % 2 = 1 then n - 1 else n + 1 := by
  have h1 : (n ^^^ 1) / 2 = n / 2 := by rw [Nat.xor_div_two]; simp
  have h2 : (n ^^^ 1) % 2 = (n + 1) % 2 := by have := @Nat.xor_mod_two_eq_one n 1; omega
  split <;> omega
theorem xor_one (n : Nat) (h : n < 9223372036854775807) : IntKind.i64.wrap (((BitVec.ofInt IntKind.i64.bits (n : Int) ^^^ BitVec.ofInt IntKind.i64.bits 1).toNat : Nat) : Int) = ((if n % 2 = 1 then n - 1 else n + 1 : Nat) : Int) := by
  have e : (BitVec.ofInt 64 (n : Int) ^^^ BitVec.ofInt 64 1).toNat = if n % 2 = 1 then n - 1 else n + 1 := by
    rw [ofNat64, show (1 : Int) = ((1 : Nat) : Int) from rfl, ofNat64, BitVec.toNat_xor, BitVec.toNat_ofNat, BitVec.toNat_ofNat, Nat.mod_eq_of_lt (by omega), Nat.mod_eq_of_lt (by omega), xor_one_nat]
  show IntKind.i64.wrap (((BitVec.ofInt 64 (n : Int) ^^^ BitVec.ofInt 64 1).toNat : Nat) : Int) = _
  rw [e, wrapI (by split <;> omega)]
theorem shr_one (n : Nat) : ((n : Int).fdiv (2 ^ (min 1 IntKind.i64.bits))) = ((n / 2 : Nat) : Int) := by
  have : (2 : Int) ^ (min 1 IntKind.i64.bits) = 2 := rfl
  rw [this, Int.fdiv_eq_ediv_of_nonneg _ (by decide)]
  omega
structure Cl where
  leaf : List UInt8
  i : Int
  path : List (List UInt8)
def clOK (p : Cl) : Prop := p.leaf.length ≤ 10995116277 ∧ p.i < 9223372036854775808 ∧ Okl p.path
noncomputable def climbC : Contract := mkC (α := Cl) clOK (fun p => [.c (.str p.leaf), .c (.int .i64 p.i), .c (.sl (texts p.path))]) (fun _ => []) (fun p => ⟨[.pv (.c (.str (climbS p.leaf (max p.i 0).toNat p.path)))], []⟩)
theorem climb_at (leaf : List UInt8) (i : Int) (path : List (List UInt8)) (h : clOK ⟨leaf, i, path⟩) : climbC [.c (.str leaf), .c (.int .i64 i), .c (.sl (texts path))] [] = some ⟨[.pv (.c (.str (climbS leaf (max i 0).toNat path)))], []⟩ :=
  mkC_at (α := Cl) ⟨leaf, i, path⟩ h (by
    rintro ⟨a, b, c⟩ _ h' _
    simp only [List.cons.injEq, AV.c.injEq, PC.int.injEq, PC.str.injEq, PC.sl.injEq, true_and, and_true] at h'
    obtain ⟨rfl, rfl, h'⟩ := h'
    obtain rfl := texts_inj h'
    rfl)

set_option maxRecDepth 100000 in
set_option maxHeartbeats 1000000 in
theorem climb_sound (hΓ : SoundG Try.prog Γ) (h2 : Γ 86 = shortC) : SoundC Try.prog 66 climbC := by
  refine sound_fn Try.func66 (by kernel_rfl) rfl rfl ?_
  intro args objs r hr
  obtain ⟨⟨leaf, at_, path⟩, ⟨hl, hat, hp1, hp2⟩, rfl, rfl, rfl⟩ := mkC_inv hr
  refine ⟨rfl, by show 3 ≤ _; decide, fun E hN hns hF => ?_⟩
  refine vc_sound hΓ mixed _ _ _ ?_
  have hN := hN.trans nt_66
  dsimp only at hl hat hp1 hp2 ⊢
  obtain ⟨A, hA⟩ : ∃ A, (max at_ 0).toNat = A := ⟨_, rfl⟩
  have hmax : (if (0 : Int) > at_ then 0 else at_) = (A : Int) := by split <;> omega
  have hA2 : A < 9223372036854775808 := by omega
  rw [hA]
  simp only [runA, runB, runC, runD, runE, runF, fieldE, storeE, binE, ↓reduceIte, Nat.reduceLT, Nat.reduceLeDiff, Nat.reduceEqDiff, Nat.reduceAdd, Nat.reduceMul, Nat.reduceSub, reduceCtorEq, putAt, unE, Nat.reduceBEq, convE, buildE, List.replicate, Int.reduceLT, Int.reduceLE, Int.reduceToNat, mkE, mapSetE, hN, hF, ty_3, ty_5, ty_9, ty_27, ty_72, ty_153, notIf, isEq, hmax]
  refine AWP.loop (fun c st => ∃ (i : Nat) (cur : List UInt8) (B : Nat), i ≤ path.length ∧ climbS leaf A path = climbS cur B (path.drop i) ∧ cur.length ≤ 10995116277 ∧ B < 9223372036854775808 ∧ c = path.length - i ∧
    st = ⟨[(0, .c (.str cur)), (1, .c (.int .i64 (B : Int))), (13, .c (.sl (texts path))), (14, .c (.int .i64 (path.length : Int))), (15, .c (.int .i64 (i : Int)))], []⟩) ⟨path.length, _, ?w, 0, leaf, A, Nat.zero_le _, rfl, hl, hA2, rfl, rfl⟩ ?r
  case w =>
    rw [hns]
    simp only [runB, finC, finD, AS.get, AS.mem, false_implies, implies_true, ↓reduceIte, Nat.reduceEqDiff, Option.isSome_some, Option.isSome_none, forall_eq_or_imp, forall_eq, reduceCtorEq, Nat.reduceAdd, Nat.reduceMul, List.zip_cons_cons, List.zip_nil_left, List.zip_nil_right, List.forall_mem_nil]
    simp [texts_length]
  case r =>
    rintro c st ⟨i, cur, B, hi, hcl, hcur, hB, rfl, rfl⟩
    refine vc_sound hΓ mixed _ _ _ ?_
    by_cases hlt : i < path.length
    · have g1 : decide ((i : Int) < (path.length : Int)) = true := by simpa using hlt
      obtain ⟨s, hs⟩ : ∃ s, path[i]? = some s := ⟨path[i], by simp [hlt]⟩
      have hsr : (texts path)[i]? = some [PC.str s] := by simp [texts, hs]
      have hms := hp2 s (List.mem_of_getElem? hs)
      have hdr : path.drop i = s :: path.drop (i + 1) := by
        rw [List.drop_eq_getElem_cons hlt]; congr 1
        have := List.getElem?_eq_getElem hlt
        rw [hs] at this; exact (Option.some.inj this).symm
      rw [hdr, climbS] at hcl
      have e1 : IntKind.i64.wrap ((i : Int) + 1) = (i : Int) + 1 := wrapI (by omega)
      have e2 := and_one B hB
      have e3 := shr_one B
      have hb : (1 : Int) < 0 ↔ False := by decide
      have hB2 : B / 2 < 9223372036854775808 := by omega
      by_cases ho : B % 2 = 1
      · rw [if_pos ho] at hcl
        have g2 : (((B % 2 : Nat) : Int) == 1) = true := by simp; omega
        have hsh := short_at [s, cur] ⟨by simp; omega, by simp⟩
        have hf : [s, cur].flatten = s ++ cur := by simp
        rw [hf] at hsh
        have hsl : [[PC.sl (bytes s)], [PC.sl (bytes cur)]] = slices [s, cur] := rfl
        simp only [runA, runB, runC, runD, runE, runF, fieldE, storeE, binE, ↓reduceIte, Nat.reduceLT, Nat.reduceLeDiff, Nat.reduceEqDiff, Nat.reduceAdd, Nat.reduceMul, Nat.reduceSub, reduceCtorEq, putAt, unE, Nat.reduceBEq, convE, buildE, List.replicate, Int.reduceLT, Int.reduceLE, Int.reduceToNat, mkE, mapSetE, hN, hF, ty_3, ty_5, ty_9, ty_27, ty_72, ty_153, notIf, isEq, g1, hsr, e2, g2, hsl, h2, hsh, shOp, hb, e3, e1]
        refine ⟨path.length - (i + 1), _, by omega, ?_, i + 1, _, B / 2, by omega, hcl, by rw [shortS_length]; decide, hB2, rfl, rfl⟩
        rw [hns]
        simp only [runB, finC, finD, AS.get, AS.mem, false_implies, implies_true, ↓reduceIte, Nat.reduceEqDiff, Option.isSome_some, Option.isSome_none, forall_eq_or_imp, forall_eq, reduceCtorEq, Nat.reduceAdd, Nat.reduceMul, List.zip_cons_cons, List.zip_nil_left, List.zip_nil_right, List.forall_mem_nil]
        first | done | simp
      · rw [if_neg ho] at hcl
        have g2 : (((B % 2 : Nat) : Int) == 1) = false := by simp; omega
        have hsh := short_at [cur, s] ⟨by simp; omega, by simp⟩
        have hf : [cur, s].flatten = cur ++ s := by simp
        rw [hf] at hsh
        have hsl : [[PC.sl (bytes cur)], [PC.sl (bytes s)]] = slices [cur, s] := rfl
        simp only [runA, runB, runC, runD, runE, runF, fieldE, storeE, binE, ↓reduceIte, Nat.reduceLT, Nat.reduceLeDiff, Nat.reduceEqDiff, Nat.reduceAdd, Nat.reduceMul, Nat.reduceSub, reduceCtorEq, putAt, unE, Nat.reduceBEq, convE, buildE, List.replicate, Int.reduceLT, Int.reduceLE, Int.reduceToNat, mkE, mapSetE, hN, hF, ty_3, ty_5, ty_9, ty_27, ty_72, ty_153, notIf, isEq, g1, hsr, e2, g2, hsl, h2, hsh, shOp, hb, e3, e1]
        refine ⟨path.length - (i + 1), _, by omega, ?_, i + 1, _, B / 2, by omega, hcl, by rw [shortS_length]; decide, hB2, rfl, rfl⟩
        rw [hns]
        simp only [runB, finC, finD, AS.get, AS.mem, false_implies, implies_true, ↓reduceIte, Nat.reduceEqDiff, Option.isSome_some, Option.isSome_none, forall_eq_or_imp, forall_eq, reduceCtorEq, Nat.reduceAdd, Nat.reduceMul, List.zip_cons_cons, List.zip_nil_left, List.zip_nil_right, List.forall_mem_nil]
        first | done | simp
    · have g1 : decide ((i : Int) < (path.length : Int)) = false := by simpa using hlt
      have hdr : path.drop i = [] := List.drop_of_length_le (by omega)
      rw [hdr, climbS] at hcl
      simp only [runA, runB, runC, runD, runE, runF, fieldE, storeE, binE, ↓reduceIte, Nat.reduceLT, Nat.reduceLeDiff, Nat.reduceEqDiff, Nat.reduceAdd, Nat.reduceMul, Nat.reduceSub, reduceCtorEq, putAt, unE, Nat.reduceBEq, convE, buildE, List.replicate, Int.reduceLT, Int.reduceLE, Int.reduceToNat, mkE, mapSetE, hN, hF, ty_3, ty_5, ty_9, ty_27, ty_72, ty_153, notIf, isEq, g1]
      simp only [runB, finC, finD, Option.isSome_some, Option.isSome_none, ↓reduceIte, Nat.reduceEqDiff, Nat.reduceAdd, Nat.reduceMul, forall_eq_or_imp, forall_eq, implies_true, Nat.reduceBEq, reduceCtorEq, false_implies, List.zip_cons_cons, List.zip_nil_left, List.zip_nil_right, Nat.reduceLeDiff, List.forall_mem_nil, rs_66, hcl]


variable {Γ : FuncId → Contract}

structure Pa where
  l : List (List UInt8)
  a : Int
def paOK (p : Pa) : Prop := Okl p.l
noncomputable def pathC : Contract := mkC (α := Pa) paOK (fun p => [.c (.sl (texts p.l)), .c (.int .i64 p.a)]) (fun _ => []) (fun p => ⟨[.pv (.c (.sl (texts (pathS p.l p.a).1))), .pv (.c (.int .i64 (pathS p.l p.a).2))], []⟩)
theorem path_at (l : List (List UInt8)) (a : Int) (h : Okl l) : pathC [.c (.sl (texts l)), .c (.int .i64 a)] [] = some ⟨[.pv (.c (.sl (texts (pathS l a).1))), .pv (.c (.int .i64 (pathS l a).2))], []⟩ :=
  mkC_at (α := Pa) ⟨l, a⟩ h (by
    rintro ⟨l', a'⟩ _ h' _
    simp only [List.cons.injEq, AV.c.injEq, PC.int.injEq, PC.sl.injEq, true_and, and_true] at h'
    obtain ⟨h', rfl⟩ := h'
    obtain rfl := texts_inj h'
    rfl)

end Go.Proofs.Ytcfijanfcgnnhaa.AM
