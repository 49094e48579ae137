/-
  QA: Mk1 Mk2 Mk3 Mk4 Mk5.
-/
import Derived.Test.YtofkehedjcinhaaQ9
set_option linter.unusedVariables false
set_option linter.unusedSimpArgs false
namespace Go.Proofs.Ytofkehedjcinhaa.AM
open Go

noncomputable def upS : List (List UInt8) → List (List UInt8)
  | a :: b :: l => shortS (a ++ b) :: upS l
  | l => l
theorem upS_nil : upS [] = [] := by rw [upS]; intro a b l h; cases h
theorem upS_one (x : List UInt8) : upS [x] = [x] := by rw [upS]; intro a b l h; cases h
theorem upS_length : ∀ (l : List (List UInt8)), (upS l).length = (l.length + 1) / 2
  | [] => by rw [upS_nil]; rfl
  | [x] => by rw [upS_one]; simp
  | a :: b :: l => by
    rw [upS, List.length_cons, upS_length l]
    simp only [List.length_cons]; omega
/-- All texts are short enough. -/
def Okl (l : List (List UInt8)) : Prop := l.length ≤ 1099511627 ∧ ∀ s ∈ l, s.length ≤ 10995116277
theorem upS_mem : ∀ (l : List (List UInt8)), (∀ s ∈ l, s.length ≤ 10995116277) → ∀ s ∈ upS l, s.length ≤ 10995116277
  | [], _, s, hs => by rw [upS_nil] at hs; cases hs
  | [x], h, s, hs => by rw [upS_one] at hs; exact h s hs
  | a :: b :: l, h, s, hs => by
    rw [upS] at hs
    rcases List.mem_cons.1 hs with rfl | hs
    · rw [shortS_length]; decide
    · exact upS_mem l (fun x hx => h x (by simp [hx])) s hs
theorem upS_ok {l : List (List UInt8)} (h : Okl l) : Okl (upS l) := by
  refine ⟨?_, upS_mem l h.2⟩
  rw [upS_length]
  have := h.1
  omega

noncomputable def rootF : Nat → List (List UInt8) → List UInt8
  | 0, l => l.headD []
  | n + 1, l => if l.length ≤ 1 then l.headD [] else rootF n (upS l)
noncomputable def rootS (l : List (List UInt8)) : List UInt8 := rootF l.length l
theorem rootF_eq : ∀ (n m : Nat) (l : List (List UInt8)), l.length ≤ n + 1 → l.length ≤ m + 1 → rootF n l = rootF m l
  | 0, 0, l, _, _ => rfl
  | 0, m + 1, l, h, _ => by rw [rootF, rootF, if_pos (by omega)]
  | n + 1, 0, l, _, h => by rw [rootF, rootF, if_pos (by omega)]
  | n + 1, m + 1, l, h1, h2 => by
    rw [rootF, rootF]
    split
    · rfl
    · exact rootF_eq n m _ (by rw [upS_length]; omega) (by rw [upS_length]; omega)
theorem rootS_le {l : List (List UInt8)} (h : l.length ≤ 1) : rootS l = l.headD [] := by
  unfold rootS
  rw [rootF_eq l.length 0 l (by omega) (by omega), rootF]
theorem rootS_gt {l : List (List UInt8)} (h : ¬ l.length ≤ 1) : rootS l = rootS (upS l) := by
  unfold rootS
  have hl := upS_length l
  obtain ⟨n, hn⟩ : ∃ n, l.length = n + 1 := ⟨l.length - 1, by omega⟩
  rw [hn, rootF, if_neg h]
  exact rootF_eq _ _ _ (by omega) (by omega)

theorem upS_get : ∀ (l : List (List UInt8)) (i : Nat), 2 * i + 1 < l.length → (upS l)[i]? = some (shortS (l.getD (2 * i) [] ++ l.getD (2 * i + 1) []))
  | [], i, h => by simp at h
  | [_], i, h => by simp at h
  | a :: b :: l, i, h => by
    rw [upS]
    cases i with
    | zero => simp
    | succ i =>
      have := upS_get l i (by simp at h; omega)
      rw [List.getElem?_cons_succ, this]
      have e1 : 2 * (i + 1) = 2 * i + 1 + 1 := by omega
      rw [e1]
      rfl
theorem upS_last : ∀ (l : List (List UInt8)) (i : Nat), 2 * i + 1 = l.length → (upS l)[i]? = l[2 * i]?
  | [], i, h => by simp at h
  | [x], i, h => by
    have : i = 0 := by simp at h; omega
    subst this; rw [upS_one]
  | a :: b :: l, i, h => by
    rw [upS]
    cases i with
    | zero => simp at h
    | succ i =>
      have := upS_last l i (by simp at h; omega)
      rw [List.getElem?_cons_succ, this]
      have e1 : 2 * (i + 1) = 2 * i + 1 + 1 := by omega
      rw [e1]
      rfl

variable {Γ : FuncId → Contract}

noncomputable def upC : Contract := mkC (α := List (List UInt8)) Okl (fun l => [.c (.sl (texts l))]) (fun _ => []) (fun l => ⟨[.pv (.c (.sl (texts (upS l))))], []⟩)
theorem up_at (l : List (List UInt8)) (h : Okl l) : upC [.c (.sl (texts l))] [] = some ⟨[.pv (.c (.sl (texts (upS l))))], []⟩ :=
  mkC_at (α := List (List UInt8)) l h (fun y _ h1 _ => by
    simp at h1
    rw [texts_inj h1])

/-- The pairs' part of the row above. -/
noncomputable def upP (l : List (List UInt8)) (i : Nat) : List (List UInt8) := (upS l).take i
theorem upP_succ (l : List (List UInt8)) (i : Nat) (h : 2 * i + 1 < l.length) : upP l (i + 1) = upP l i ++ [shortS (l[2 * i]'(by omega) ++ l[2 * i + 1]'h)] := by
  unfold upP
  have := upS_get l i h
  rw [List.take_add_one, this]
  simp only [List.getD, List.getElem?_eq_getElem h, List.getElem?_eq_getElem (show 2 * i < l.length by omega), Option.getD_some, Option.toList_some]
theorem upP_length (l : List (List UInt8)) (i : Nat) (h : 2 * i ≤ l.length) : (upP l i).length = i := by
  unfold upP
  rw [List.length_take, upS_length]
  omega
theorem upP_done (l : List (List UInt8)) (i : Nat) (h : 2 * i ≤ l.length) (h2 : l.length ≤ 2 * i + 1) : upP l i ++ l.drop (2 * i) = upS l := by
  have hl := upS_length l
  have hp : (upP l i).length = i := upP_length l i h
  apply List.ext_getElem?
  intro j
  by_cases hj : j < i
  · rw [List.getElem?_append_left (by omega), upP, List.getElem?_take, if_pos hj]
  · rw [List.getElem?_append_right (by omega), hp, List.getElem?_drop]
    by_cases e : l.length = 2 * i
    · rw [List.getElem?_eq_none (by omega), List.getElem?_eq_none (by omega)]
    · by_cases e2 : j = i
      · subst e2
        rw [upS_last l j (by omega)]
        congr 1; omega
      · rw [List.getElem?_eq_none (by omega), List.getElem?_eq_none (by omega)]

set_option maxRecDepth 100000 in
set_option maxHeartbeats 1000000 in
theorem up_sound (hΓ : SoundG Try.prog Γ) (h2 : Γ 59 = shortC) : SoundC Try.prog 53 upC := by
  refine sound_fn Try.func53 (by kernel_rfl) rfl rfl ?_
  intro args objs r hr
  obtain ⟨l, hl, rfl, rfl, rfl⟩ := mkC_inv hr
  refine ⟨rfl, by show 1 ≤ _; decide, fun E hN hns hF => ?_⟩
  refine vc_sound hΓ mixed _ _ _ ?_
  have hN := hN.trans nt_53
  obtain ⟨hl1, hl2⟩ := hl
  simp only [runA, runB, runC, runD, runE, runF, fieldE, storeE, binE, ↓reduceIte, Nat.reduceLT, Nat.reduceLeDiff, Nat.reduceEqDiff, Nat.reduceAdd, Nat.reduceMul, Nat.reduceSub, reduceCtorEq, putAt, unE, Nat.reduceBEq, convE, buildE, List.replicate, Int.reduceLT, Int.reduceLE, Int.reduceToNat, mkE, mapSetE, hN, hF, ty_3, ty_5, ty_9, ty_43, ty_73, ty_120, notIf, isEq]
  refine AWP.loop (fun c st => ∃ i : Nat, 2 * i ≤ l.length ∧ c = l.length - 2 * i ∧ st = ⟨[(0, .c (.sl (texts (l.drop (2 * i))))), (3, .own 1217 1 (texts (upP l i)))], [(1217, .row 1 i)]⟩) ⟨l.length, _, ?w, 0, by omega, by omega, rfl⟩ ?r
  case w =>
    rw [hns]
    simp only [runB, finC, finD, AS.get, AS.mem, false_implies, implies_true, ↓reduceIte, Nat.reduceEqDiff, Option.isSome_some, Option.isSome_none, forall_eq_or_imp, forall_eq, reduceCtorEq, Nat.reduceAdd, Nat.reduceMul, List.zip_cons_cons, List.zip_nil_left, List.zip_nil_right, List.forall_mem_nil]
    simp [upP, texts]
  case r =>
    rintro c st ⟨i, hi, rfl, rfl⟩
    refine vc_sound hΓ mixed _ _ _ ?_
    have hpl := upP_length l i hi
    have hdl : (l.drop (2 * i)).length = l.length - 2 * i := by simp
    by_cases hlt : 2 * i + 1 < l.length
    · have hd : l.drop (2 * i) = l[2 * i]'(by omega) :: l[2 * i + 1] :: l.drop (2 * (i + 1)) := by
        rw [List.drop_eq_getElem_cons (by omega), List.drop_eq_getElem_cons (by omega)]; congr 3
      have hsucc := upP_succ l i hlt
      have hm1 := hl2 _ (List.getElem_mem (show 2 * i < l.length by omega))
      have hm2 := hl2 _ (List.getElem_mem hlt)
      generalize l[2 * i]'(by omega) = a at hd hsucc hm1
      generalize l[2 * i + 1]'hlt = b at hd hsucc hm2
      obtain ⟨tl, htl⟩ : ∃ tl, l.drop (2 * (i + 1)) = tl := ⟨_, rfl⟩
      have ht : texts (l.drop (2 * i)) = [.str a] :: [.str b] :: texts tl := by rw [hd, htl]; rfl
      have hll : tl.length = l.length - 2 * (i + 1) := by rw [← htl]; simp
      have g1 : decide (((tl.length + 1 + 1 : Nat) : Int) > (1 : Int)) = true := by simp; omega
      have g2 : (2 : Int) ≤ ((tl.length + 1 + 1 : Nat) : Int) := by omega
      have hz2 : rowsOK 1 ([PC.str a] :: [PC.str b] :: texts tl) := rowsOK_texts (a :: b :: tl)
      have htk : (texts tl).take tl.length = texts tl := by rw [← texts_length tl, List.take_length]
      have z0 : (0 : Int) ≤ 2 := by decide
      have hs := short_at [a, b] ⟨by simp; omega, by simp⟩
      have hf : [a, b].flatten = a ++ b := by simp
      rw [hf] at hs
      have hsl : [[PC.sl (bytes a)], [PC.sl (bytes b)]] = slices [a, b] := rfl
      have hz := rowsOK_texts
      have hL : (i + 1) * 16 ≤ 140737488355328 := by omega
      rw [ht]
      simp only [runA, runB, runC, runD, runE, runF, fieldE, storeE, binE, ↓reduceIte, Nat.reduceLT, Nat.reduceLeDiff, Nat.reduceEqDiff, Nat.reduceAdd, Nat.reduceMul, Nat.reduceSub, reduceCtorEq, putAt, unE, Nat.reduceBEq, convE, buildE, List.replicate, Int.reduceLT, Int.reduceLE, Int.reduceToNat, mkE, mapSetE, hN, hF, ty_3, ty_5, ty_9, ty_43, ty_73, ty_120, notIf, isEq, g1, h2, hsl, hs, texts1, texts_app, ← hsucc, hz, hL, texts_length, hpl]
      refine drawnP_intro (by kernel_rfl) (by kernel_rfl) ?_
      simp only [runA, runB, runC, runD, runE, runF, fieldE, storeE, binE, ↓reduceIte, Nat.reduceLT, Nat.reduceLeDiff, Nat.reduceEqDiff, Nat.reduceAdd, Nat.reduceMul, Nat.reduceSub, reduceCtorEq, putAt, unE, Nat.reduceBEq, convE, buildE, List.replicate, Int.reduceLT, Int.reduceLE, Int.reduceToNat, mkE, mapSetE, hN, hF, ty_3, ty_5, ty_9, ty_43, ty_73, ty_120, notIf, isEq, g2, hz2, htk, z0, sliceE, boundE, Int.le_refl, texts_length]
      refine ⟨l.length - 2 * (i + 1), _, by omega, ?_, i + 1, by omega, rfl, rfl⟩
      rw [hns, htl]
      simp only [runB, finC, finD, AS.get, AS.mem, false_implies, implies_true, ↓reduceIte, Nat.reduceEqDiff, Option.isSome_some, Option.isSome_none, forall_eq_or_imp, forall_eq, reduceCtorEq, Nat.reduceAdd, Nat.reduceMul, List.zip_cons_cons, List.zip_nil_left, List.zip_nil_right, List.forall_mem_nil]
      first | done | simp
    · obtain ⟨tl, htl⟩ : ∃ tl, l.drop (2 * i) = tl := ⟨_, rfl⟩
      have hdone := upP_done l i hi (by omega)
      have hll : tl.length ≤ 1 := by rw [← htl]; simp; omega
      have g1 : decide ((tl.length : Int) > (1 : Int)) = false := by simp; omega
      have hz := rowsOK_texts
      have hL : (i + tl.length) * 16 ≤ 140737488355328 := by omega
      rw [htl] at hdone ⊢
      simp only [runA, runB, runC, runD, runE, runF, fieldE, storeE, binE, ↓reduceIte, Nat.reduceLT, Nat.reduceLeDiff, Nat.reduceEqDiff, Nat.reduceAdd, Nat.reduceMul, Nat.reduceSub, reduceCtorEq, putAt, unE, Nat.reduceBEq, convE, buildE, List.replicate, Int.reduceLT, Int.reduceLE, Int.reduceToNat, mkE, mapSetE, hN, hF, ty_3, ty_5, ty_9, ty_43, ty_73, ty_120, notIf, isEq, g1, hz, hL, texts_length, texts_app, hdone, hpl]
      simp only [runB, finC, finD, Option.isSome_some, Option.isSome_none, ↓reduceIte, Nat.reduceEqDiff, Nat.reduceAdd, Nat.reduceMul, forall_eq_or_imp, forall_eq, implies_true, Nat.reduceBEq, reduceCtorEq, false_implies, List.zip_cons_cons, List.zip_nil_left, List.zip_nil_right, Nat.reduceLeDiff, List.forall_mem_nil, rs_53]


variable {Γ : FuncId → Contract}

noncomputable def rootC : Contract := mkC (α := List (List UInt8)) Okl (fun l => [.c (.sl (texts l))]) (fun _ => []) (fun l => ⟨[.pv (.c (.str (rootS l)))], []⟩)
theorem root_at (l : List (List UInt8)) (h : Okl l) : rootC [.c (.sl (texts l))] [] = some ⟨[.pv (.c (.str (rootS l)))], []⟩ :=
  mkC_at (α := List (List UInt8)) l h (fun y _ h1 _ => by
    simp at h1
    rw [texts_inj h1])


variable {Γ : FuncId → Contract}

structure Cl where
  leaf : List UInt8
  i : Int
  path : List (List UInt8)

variable {Γ : FuncId → Contract}

structure Pa where
  l : List (List UInt8)
  a : Int
end Go.Proofs.Ytofkehedjcinhaa.AM
