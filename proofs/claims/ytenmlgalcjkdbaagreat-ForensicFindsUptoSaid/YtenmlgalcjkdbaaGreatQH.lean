/-
  QH: Vo6 Bv1 Bv2 Bv0 Bv3 Bv4.
-/
import Derived.Test.YtenmlgalcjkdbaaGreatQG
import Derived.Test.YtenmlgalcjkdbaaGreatQ9
import Derived.Test.YtenmlgalcjkdbaaGreatQF
import Derived.Test.YtenmlgalcjkdbaaGreatQB
import Derived.Test.YtenmlgalcjkdbaaGreatQR
set_option linter.unusedVariables false
set_option linter.unusedSimpArgs false
namespace Go.Proofs.YtenmlgalcjkdbaaGreat.AM
open Go

variable {Γ : FuncId → Contract}

set_option maxRecDepth 100000 in
set_option maxHeartbeats 40000000 in
theorem refVoCk_sound : SoundC Tryz.prog 125 voCkC := by
  refine sound_fn Tryz.func125 (by kernel_rfl) rfl rfl ?_
  intro args objs r hr
  obtain ⟨⟨kd, vw, ht, bl, tk, sg, sig⟩, _, rfl, rfl, rfl⟩ := mkC_inv hr
  refine ⟨rfl, by show 1 ≤ _; decide, fun E hN hns hF => ?_⟩
  refine vc_sound none0_sound mixed _ _ _ ?_
  have hN := hN.trans nt_125
  unfold Vt.av
  by_cases hca : 1 ≤ kd
  case neg =>
    have ga : decide (kd < 1) = true := by simp; omega
    have hS : voS ⟨kd, vw, ht, bl, tk, sg, sig⟩ = 9 := if_neg (by rintro ⟨a1, a2, a3, a4, a5, a6, a7, a8⟩; exact hca a1)
    simp (maxSteps := 10000000) only [runA, runB, runC, runD, runE, runF, fieldE, storeE, binE, ↓reduceIte, Nat.reduceLT, Nat.reduceLeDiff, Nat.reduceEqDiff, Nat.reduceAdd, Nat.reduceMul, Nat.reduceSub, reduceCtorEq, putAt, unE, Nat.reduceBEq, convE, buildE, List.replicate, Int.reduceLT, Int.reduceLE, Int.reduceToNat, mkE, mapSetE, hN, hF, ty_3, ty_9, ty_97, notIf, isEq, ga]
    simp only [runB, finC, finD, Option.isSome_some, Option.isSome_none, ↓reduceIte, Nat.reduceEqDiff, Nat.reduceAdd, Nat.reduceMul, forall_eq_or_imp, forall_eq, implies_true, Nat.reduceBEq, reduceCtorEq, false_implies, List.zip_cons_cons, List.zip_nil_left, List.zip_nil_right, Nat.reduceLeDiff, List.forall_mem_nil, rs_125, hS]
  have ga : decide (kd < 1) = false := by simp; omega
  by_cases hcb : kd ≤ 4
  case neg =>
    have gb : decide (kd > 4) = true := by simp; omega
    have hS : voS ⟨kd, vw, ht, bl, tk, sg, sig⟩ = 9 := if_neg (by rintro ⟨a1, a2, a3, a4, a5, a6, a7, a8⟩; exact hcb a2)
    simp (maxSteps := 10000000) only [runA, runB, runC, runD, runE, runF, fieldE, storeE, binE, ↓reduceIte, Nat.reduceLT, Nat.reduceLeDiff, Nat.reduceEqDiff, Nat.reduceAdd, Nat.reduceMul, Nat.reduceSub, reduceCtorEq, putAt, unE, Nat.reduceBEq, convE, buildE, List.replicate, Int.reduceLT, Int.reduceLE, Int.reduceToNat, mkE, mapSetE, hN, hF, ty_3, ty_9, ty_97, notIf, isEq, ga, gb]
    simp only [runB, finC, finD, Option.isSome_some, Option.isSome_none, ↓reduceIte, Nat.reduceEqDiff, Nat.reduceAdd, Nat.reduceMul, forall_eq_or_imp, forall_eq, implies_true, Nat.reduceBEq, reduceCtorEq, false_implies, List.zip_cons_cons, List.zip_nil_left, List.zip_nil_right, Nat.reduceLeDiff, List.forall_mem_nil, rs_125, hS]
  have gb : decide (kd > 4) = false := by simp; omega
  by_cases hcc : 0 ≤ vw
  case neg =>
    have gc : decide (vw < 0) = true := by simp; omega
    have hS : voS ⟨kd, vw, ht, bl, tk, sg, sig⟩ = 9 := if_neg (by rintro ⟨a1, a2, a3, a4, a5, a6, a7, a8⟩; exact hcc a3)
    simp (maxSteps := 10000000) only [runA, runB, runC, runD, runE, runF, fieldE, storeE, binE, ↓reduceIte, Nat.reduceLT, Nat.reduceLeDiff, Nat.reduceEqDiff, Nat.reduceAdd, Nat.reduceMul, Nat.reduceSub, reduceCtorEq, putAt, unE, Nat.reduceBEq, convE, buildE, List.replicate, Int.reduceLT, Int.reduceLE, Int.reduceToNat, mkE, mapSetE, hN, hF, ty_3, ty_9, ty_97, notIf, isEq, ga, gb, gc]
    simp only [runB, finC, finD, Option.isSome_some, Option.isSome_none, ↓reduceIte, Nat.reduceEqDiff, Nat.reduceAdd, Nat.reduceMul, forall_eq_or_imp, forall_eq, implies_true, Nat.reduceBEq, reduceCtorEq, false_implies, List.zip_cons_cons, List.zip_nil_left, List.zip_nil_right, Nat.reduceLeDiff, List.forall_mem_nil, rs_125, hS]
  have gc : decide (vw < 0) = false := by simp; omega
  by_cases hcd : vw ≤ 1048576
  case neg =>
    have gd : decide (vw > 1048576) = true := by simp; omega
    have hS : voS ⟨kd, vw, ht, bl, tk, sg, sig⟩ = 9 := if_neg (by rintro ⟨a1, a2, a3, a4, a5, a6, a7, a8⟩; exact hcd a4)
    simp (maxSteps := 10000000) only [runA, runB, runC, runD, runE, runF, fieldE, storeE, binE, ↓reduceIte, Nat.reduceLT, Nat.reduceLeDiff, Nat.reduceEqDiff, Nat.reduceAdd, Nat.reduceMul, Nat.reduceSub, reduceCtorEq, putAt, unE, Nat.reduceBEq, convE, buildE, List.replicate, Int.reduceLT, Int.reduceLE, Int.reduceToNat, mkE, mapSetE, hN, hF, ty_3, ty_9, ty_97, notIf, isEq, ga, gb, gc, gd]
    simp only [runB, finC, finD, Option.isSome_some, Option.isSome_none, ↓reduceIte, Nat.reduceEqDiff, Nat.reduceAdd, Nat.reduceMul, forall_eq_or_imp, forall_eq, implies_true, Nat.reduceBEq, reduceCtorEq, false_implies, List.zip_cons_cons, List.zip_nil_left, List.zip_nil_right, Nat.reduceLeDiff, List.forall_mem_nil, rs_125, hS]
  have gd : decide (vw > 1048576) = false := by simp; omega
  by_cases hci : 0 ≤ ht
  case neg =>
    have gi : decide (ht < 0) = true := by simp; omega
    have hS : voS ⟨kd, vw, ht, bl, tk, sg, sig⟩ = 9 := if_neg (by rintro ⟨a1, a2, a3, a4, a5, a6, a7, a8⟩; unfold aboutP at a5; dsimp only at a5; split at a5 <;> omega)
    simp (maxSteps := 10000000) only [runA, runB, runC, runD, runE, runF, fieldE, storeE, binE, ↓reduceIte, Nat.reduceLT, Nat.reduceLeDiff, Nat.reduceEqDiff, Nat.reduceAdd, Nat.reduceMul, Nat.reduceSub, reduceCtorEq, putAt, unE, Nat.reduceBEq, convE, buildE, List.replicate, Int.reduceLT, Int.reduceLE, Int.reduceToNat, mkE, mapSetE, hN, hF, ty_3, ty_9, ty_97, notIf, isEq, ga, gb, gc, gd, gi]
    simp only [runB, finC, finD, Option.isSome_some, Option.isSome_none, ↓reduceIte, Nat.reduceEqDiff, Nat.reduceAdd, Nat.reduceMul, forall_eq_or_imp, forall_eq, implies_true, Nat.reduceBEq, reduceCtorEq, false_implies, List.zip_cons_cons, List.zip_nil_left, List.zip_nil_right, Nat.reduceLeDiff, List.forall_mem_nil, rs_125, hS]
  have gi : decide (ht < 0) = false := by simp; omega
  by_cases hcj : ht ≤ 1048576
  case neg =>
    have gj : decide (ht > 1048576) = true := by simp; omega
    have hS : voS ⟨kd, vw, ht, bl, tk, sg, sig⟩ = 9 := if_neg (by rintro ⟨a1, a2, a3, a4, a5, a6, a7, a8⟩; unfold aboutP at a5; dsimp only at a5; split at a5 <;> omega)
    simp (maxSteps := 10000000) only [runA, runB, runC, runD, runE, runF, fieldE, storeE, binE, ↓reduceIte, Nat.reduceLT, Nat.reduceLeDiff, Nat.reduceEqDiff, Nat.reduceAdd, Nat.reduceMul, Nat.reduceSub, reduceCtorEq, putAt, unE, Nat.reduceBEq, convE, buildE, List.replicate, Int.reduceLT, Int.reduceLE, Int.reduceToNat, mkE, mapSetE, hN, hF, ty_3, ty_9, ty_97, notIf, isEq, ga, gb, gc, gd, gi, gj]
    simp only [runB, finC, finD, Option.isSome_some, Option.isSome_none, ↓reduceIte, Nat.reduceEqDiff, Nat.reduceAdd, Nat.reduceMul, forall_eq_or_imp, forall_eq, implies_true, Nat.reduceBEq, reduceCtorEq, false_implies, List.zip_cons_cons, List.zip_nil_left, List.zip_nil_right, Nat.reduceLeDiff, List.forall_mem_nil, rs_125, hS]
  have gj : decide (ht > 1048576) = false := by simp; omega
  by_cases hck : 0 ≤ sg
  case neg =>
    have gk : decide (sg < 0) = true := by simp; omega
    have hS : voS ⟨kd, vw, ht, bl, tk, sg, sig⟩ = 9 := if_neg (by rintro ⟨a1, a2, a3, a4, a5, a6, a7, a8⟩; exact hck a7.1)
    simp (maxSteps := 10000000) only [runA, runB, runC, runD, runE, runF, fieldE, storeE, binE, ↓reduceIte, Nat.reduceLT, Nat.reduceLeDiff, Nat.reduceEqDiff, Nat.reduceAdd, Nat.reduceMul, Nat.reduceSub, reduceCtorEq, putAt, unE, Nat.reduceBEq, convE, buildE, List.replicate, Int.reduceLT, Int.reduceLE, Int.reduceToNat, mkE, mapSetE, hN, hF, ty_3, ty_9, ty_97, notIf, isEq, ga, gb, gc, gd, gi, gj, gk]
    simp only [runB, finC, finD, Option.isSome_some, Option.isSome_none, ↓reduceIte, Nat.reduceEqDiff, Nat.reduceAdd, Nat.reduceMul, forall_eq_or_imp, forall_eq, implies_true, Nat.reduceBEq, reduceCtorEq, false_implies, List.zip_cons_cons, List.zip_nil_left, List.zip_nil_right, Nat.reduceLeDiff, List.forall_mem_nil, rs_125, hS]
  have gk : decide (sg < 0) = false := by simp; omega
  by_cases hcl : sg ≤ 6
  case neg =>
    have gl : decide (sg > 6) = true := by simp; omega
    have hS : voS ⟨kd, vw, ht, bl, tk, sg, sig⟩ = 9 := if_neg (by rintro ⟨a1, a2, a3, a4, a5, a6, a7, a8⟩; exact hcl a7.2)
    simp (maxSteps := 10000000) only [runA, runB, runC, runD, runE, runF, fieldE, storeE, binE, ↓reduceIte, Nat.reduceLT, Nat.reduceLeDiff, Nat.reduceEqDiff, Nat.reduceAdd, Nat.reduceMul, Nat.reduceSub, reduceCtorEq, putAt, unE, Nat.reduceBEq, convE, buildE, List.replicate, Int.reduceLT, Int.reduceLE, Int.reduceToNat, mkE, mapSetE, hN, hF, ty_3, ty_9, ty_97, notIf, isEq, ga, gb, gc, gd, gi, gj, gk, gl]
    simp only [runB, finC, finD, Option.isSome_some, Option.isSome_none, ↓reduceIte, Nat.reduceEqDiff, Nat.reduceAdd, Nat.reduceMul, forall_eq_or_imp, forall_eq, implies_true, Nat.reduceBEq, reduceCtorEq, false_implies, List.zip_cons_cons, List.zip_nil_left, List.zip_nil_right, Nat.reduceLeDiff, List.forall_mem_nil, rs_125, hS]
  have gl : decide (sg > 6) = false := by simp; omega
  by_cases hch : sig.length ≤ 4096
  case neg =>
    have gh : decide ((sig.length : Int) > 4096) = true := by simp; omega
    have hS : voS ⟨kd, vw, ht, bl, tk, sg, sig⟩ = 9 := if_neg (by rintro ⟨a1, a2, a3, a4, a5, a6, a7, a8⟩; exact hch a8)
    simp (maxSteps := 10000000) only [runA, runB, runC, runD, runE, runF, fieldE, storeE, binE, ↓reduceIte, Nat.reduceLT, Nat.reduceLeDiff, Nat.reduceEqDiff, Nat.reduceAdd, Nat.reduceMul, Nat.reduceSub, reduceCtorEq, putAt, unE, Nat.reduceBEq, convE, buildE, List.replicate, Int.reduceLT, Int.reduceLE, Int.reduceToNat, mkE, mapSetE, hN, hF, ty_3, ty_9, ty_97, notIf, isEq, ga, gb, gc, gd, gi, gj, gk, gl, gh]
    simp only [runB, finC, finD, Option.isSome_some, Option.isSome_none, ↓reduceIte, Nat.reduceEqDiff, Nat.reduceAdd, Nat.reduceMul, forall_eq_or_imp, forall_eq, implies_true, Nat.reduceBEq, reduceCtorEq, false_implies, List.zip_cons_cons, List.zip_nil_left, List.zip_nil_right, Nat.reduceLeDiff, List.forall_mem_nil, rs_125, hS]
  have gh : decide ((sig.length : Int) > 4096) = false := by simp; omega
  by_cases c4 : kd = 4
  · have g4 : (kd == 4) = true := by simpa using c4
    have g4' : (kd != 4) = false := by simp [c4]
    have g3 : (kd == 3) = false := by simp; omega
    have g3' : (kd != 3) = true := by simp; omega
    have hA : aboutP ⟨kd, vw, ht, bl, tk, sg, sig⟩ ↔ (ht = 0 ∧ bl = []) := by unfold aboutP; rw [if_pos c4]
    have hT : tickP ⟨kd, vw, ht, bl, tk, sg, sig⟩ ↔ tk = 0 := by unfold tickP; rw [if_neg (by show ¬ kd = 3; omega)]
    by_cases c5 : ht = 0
    case neg =>
      have g5 : (ht != 0) = true := by simpa using c5
      have hS : voS ⟨kd, vw, ht, bl, tk, sg, sig⟩ = 9 := if_neg (by rintro ⟨a1, a2, a3, a4, a5, a6, a7, a8⟩; exact c5 (hA.1 a5).1)
      simp (maxSteps := 10000000) only [runA, runB, runC, runD, runE, runF, fieldE, storeE, binE, ↓reduceIte, Nat.reduceLT, Nat.reduceLeDiff, Nat.reduceEqDiff, Nat.reduceAdd, Nat.reduceMul, Nat.reduceSub, reduceCtorEq, putAt, unE, Nat.reduceBEq, convE, buildE, List.replicate, Int.reduceLT, Int.reduceLE, Int.reduceToNat, mkE, mapSetE, hN, hF, ty_3, ty_9, ty_97, notIf, isEq, ga, gb, gc, gd, gi, gj, gk, gl, gh, g4, g4', g3, g3', g5]
      simp only [runB, finC, finD, Option.isSome_some, Option.isSome_none, ↓reduceIte, Nat.reduceEqDiff, Nat.reduceAdd, Nat.reduceMul, forall_eq_or_imp, forall_eq, implies_true, Nat.reduceBEq, reduceCtorEq, false_implies, List.zip_cons_cons, List.zip_nil_left, List.zip_nil_right, Nat.reduceLeDiff, List.forall_mem_nil, rs_125, hS]
    have g5 : (ht != 0) = false := by simpa using c5
    by_cases c6 : bl = []
    case neg =>
      have g6 : (bl == []) = false := by simpa using c6
      have hS : voS ⟨kd, vw, ht, bl, tk, sg, sig⟩ = 9 := if_neg (by rintro ⟨a1, a2, a3, a4, a5, a6, a7, a8⟩; exact c6 (hA.1 a5).2)
      simp (maxSteps := 10000000) only [runA, runB, runC, runD, runE, runF, fieldE, storeE, binE, ↓reduceIte, Nat.reduceLT, Nat.reduceLeDiff, Nat.reduceEqDiff, Nat.reduceAdd, Nat.reduceMul, Nat.reduceSub, reduceCtorEq, putAt, unE, Nat.reduceBEq, convE, buildE, List.replicate, Int.reduceLT, Int.reduceLE, Int.reduceToNat, mkE, mapSetE, hN, hF, ty_3, ty_9, ty_97, notIf, isEq, ga, gb, gc, gd, gi, gj, gk, gl, gh, g4, g4', g3, g3', g5, g6]
      simp only [runB, finC, finD, Option.isSome_some, Option.isSome_none, ↓reduceIte, Nat.reduceEqDiff, Nat.reduceAdd, Nat.reduceMul, forall_eq_or_imp, forall_eq, implies_true, Nat.reduceBEq, reduceCtorEq, false_implies, List.zip_cons_cons, List.zip_nil_left, List.zip_nil_right, Nat.reduceLeDiff, List.forall_mem_nil, rs_125, hS]
    have g6 : (bl == []) = true := by simpa using c6
    by_cases c7 : tk = 0
    case neg =>
      have g7 : (tk != 0) = true := by simpa using c7
      have hS : voS ⟨kd, vw, ht, bl, tk, sg, sig⟩ = 9 := if_neg (by rintro ⟨a1, a2, a3, a4, a5, a6, a7, a8⟩; exact c7 (hT.1 a6))
      simp (maxSteps := 10000000) only [runA, runB, runC, runD, runE, runF, fieldE, storeE, binE, ↓reduceIte, Nat.reduceLT, Nat.reduceLeDiff, Nat.reduceEqDiff, Nat.reduceAdd, Nat.reduceMul, Nat.reduceSub, reduceCtorEq, putAt, unE, Nat.reduceBEq, convE, buildE, List.replicate, Int.reduceLT, Int.reduceLE, Int.reduceToNat, mkE, mapSetE, hN, hF, ty_3, ty_9, ty_97, notIf, isEq, ga, gb, gc, gd, gi, gj, gk, gl, gh, g4, g4', g3, g3', g5, g6, g7]
      simp only [runB, finC, finD, Option.isSome_some, Option.isSome_none, ↓reduceIte, Nat.reduceEqDiff, Nat.reduceAdd, Nat.reduceMul, forall_eq_or_imp, forall_eq, implies_true, Nat.reduceBEq, reduceCtorEq, false_implies, List.zip_cons_cons, List.zip_nil_left, List.zip_nil_right, Nat.reduceLeDiff, List.forall_mem_nil, rs_125, hS]
    have g7 : (tk != 0) = false := by simpa using c7
    have hS : voS ⟨kd, vw, ht, bl, tk, sg, sig⟩ = 0 := if_pos ⟨hca, hcb, hcc, hcd, hA.2 ⟨c5, c6⟩, hT.2 c7, ⟨hck, hcl⟩, hch⟩
    simp (maxSteps := 10000000) only [runA, runB, runC, runD, runE, runF, fieldE, storeE, binE, ↓reduceIte, Nat.reduceLT, Nat.reduceLeDiff, Nat.reduceEqDiff, Nat.reduceAdd, Nat.reduceMul, Nat.reduceSub, reduceCtorEq, putAt, unE, Nat.reduceBEq, convE, buildE, List.replicate, Int.reduceLT, Int.reduceLE, Int.reduceToNat, mkE, mapSetE, hN, hF, ty_3, ty_9, ty_97, notIf, isEq, ga, gb, gc, gd, gi, gj, gk, gl, gh, g4, g4', g3, g3', g5, g6, g7]
    simp only [runB, finC, finD, Option.isSome_some, Option.isSome_none, ↓reduceIte, Nat.reduceEqDiff, Nat.reduceAdd, Nat.reduceMul, forall_eq_or_imp, forall_eq, implies_true, Nat.reduceBEq, reduceCtorEq, false_implies, List.zip_cons_cons, List.zip_nil_left, List.zip_nil_right, Nat.reduceLeDiff, List.forall_mem_nil, rs_125, hS]
  have g4 : (kd == 4) = false := by simpa using c4
  have g4' : (kd != 4) = true := by simpa using c4
  have hA : aboutP ⟨kd, vw, ht, bl, tk, sg, sig⟩ ↔ ((0 ≤ ht ∧ ht ≤ 1048576) ∧ bl.length = 32) := by unfold aboutP; rw [if_neg c4]
  by_cases c6 : bl.length = 32
  case neg =>
    have g6 : ((bl.length : Int) != 32) = true := by rw [bne_iff_ne]; omega
    have hS : voS ⟨kd, vw, ht, bl, tk, sg, sig⟩ = 9 := if_neg (by rintro ⟨a1, a2, a3, a4, a5, a6, a7, a8⟩; exact c6 (hA.1 a5).2)
    simp (maxSteps := 10000000) only [runA, runB, runC, runD, runE, runF, fieldE, storeE, binE, ↓reduceIte, Nat.reduceLT, Nat.reduceLeDiff, Nat.reduceEqDiff, Nat.reduceAdd, Nat.reduceMul, Nat.reduceSub, reduceCtorEq, putAt, unE, Nat.reduceBEq, convE, buildE, List.replicate, Int.reduceLT, Int.reduceLE, Int.reduceToNat, mkE, mapSetE, hN, hF, ty_3, ty_9, ty_97, notIf, isEq, ga, gb, gc, gd, gi, gj, gk, gl, gh, g4, g4', g6]
    simp only [runB, finC, finD, Option.isSome_some, Option.isSome_none, ↓reduceIte, Nat.reduceEqDiff, Nat.reduceAdd, Nat.reduceMul, forall_eq_or_imp, forall_eq, implies_true, Nat.reduceBEq, reduceCtorEq, false_implies, List.zip_cons_cons, List.zip_nil_left, List.zip_nil_right, Nat.reduceLeDiff, List.forall_mem_nil, rs_125, hS]
  have g6 : ((bl.length : Int) != 32) = false := by rw [c6]; rfl
  by_cases c3 : kd = 3
  · have g3 : (kd == 3) = true := by simpa using c3
    have g3' : (kd != 3) = false := by simp [c3]
    have hT : tickP ⟨kd, vw, ht, bl, tk, sg, sig⟩ ↔ (1 ≤ tk ∧ tk ≤ 1048576) := by unfold tickP; rw [if_pos c3]
    by_cases c7 : 1 ≤ tk
    case neg =>
      have g7 : decide (tk < 1) = true := by simp; omega
      have hS : voS ⟨kd, vw, ht, bl, tk, sg, sig⟩ = 9 := if_neg (by rintro ⟨a1, a2, a3, a4, a5, a6, a7, a8⟩; exact c7 (hT.1 a6).1)
      simp (maxSteps := 10000000) only [runA, runB, runC, runD, runE, runF, fieldE, storeE, binE, ↓reduceIte, Nat.reduceLT, Nat.reduceLeDiff, Nat.reduceEqDiff, Nat.reduceAdd, Nat.reduceMul, Nat.reduceSub, reduceCtorEq, putAt, unE, Nat.reduceBEq, convE, buildE, List.replicate, Int.reduceLT, Int.reduceLE, Int.reduceToNat, mkE, mapSetE, hN, hF, ty_3, ty_9, ty_97, notIf, isEq, ga, gb, gc, gd, gi, gj, gk, gl, gh, g4, g4', g6, g3, g3', g7]
      simp only [runB, finC, finD, Option.isSome_some, Option.isSome_none, ↓reduceIte, Nat.reduceEqDiff, Nat.reduceAdd, Nat.reduceMul, forall_eq_or_imp, forall_eq, implies_true, Nat.reduceBEq, reduceCtorEq, false_implies, List.zip_cons_cons, List.zip_nil_left, List.zip_nil_right, Nat.reduceLeDiff, List.forall_mem_nil, rs_125, hS]
    have g7 : decide (tk < 1) = false := by simp; omega
    by_cases c8 : tk ≤ 1048576
    case neg =>
      have g8 : decide (tk > 1048576) = true := by simp; omega
      have hS : voS ⟨kd, vw, ht, bl, tk, sg, sig⟩ = 9 := if_neg (by rintro ⟨a1, a2, a3, a4, a5, a6, a7, a8⟩; exact c8 (hT.1 a6).2)
      simp (maxSteps := 10000000) only [runA, runB, runC, runD, runE, runF, fieldE, storeE, binE, ↓reduceIte, Nat.reduceLT, Nat.reduceLeDiff, Nat.reduceEqDiff, Nat.reduceAdd, Nat.reduceMul, Nat.reduceSub, reduceCtorEq, putAt, unE, Nat.reduceBEq, convE, buildE, List.replicate, Int.reduceLT, Int.reduceLE, Int.reduceToNat, mkE, mapSetE, hN, hF, ty_3, ty_9, ty_97, notIf, isEq, ga, gb, gc, gd, gi, gj, gk, gl, gh, g4, g4', g6, g3, g3', g7, g8]
      simp only [runB, finC, finD, Option.isSome_some, Option.isSome_none, ↓reduceIte, Nat.reduceEqDiff, Nat.reduceAdd, Nat.reduceMul, forall_eq_or_imp, forall_eq, implies_true, Nat.reduceBEq, reduceCtorEq, false_implies, List.zip_cons_cons, List.zip_nil_left, List.zip_nil_right, Nat.reduceLeDiff, List.forall_mem_nil, rs_125, hS]
    have g8 : decide (tk > 1048576) = false := by simp; omega
    have hS : voS ⟨kd, vw, ht, bl, tk, sg, sig⟩ = 0 := if_pos ⟨hca, hcb, hcc, hcd, hA.2 ⟨⟨hci, hcj⟩, c6⟩, hT.2 ⟨c7, c8⟩, ⟨hck, hcl⟩, hch⟩
    simp (maxSteps := 10000000) only [runA, runB, runC, runD, runE, runF, fieldE, storeE, binE, ↓reduceIte, Nat.reduceLT, Nat.reduceLeDiff, Nat.reduceEqDiff, Nat.reduceAdd, Nat.reduceMul, Nat.reduceSub, reduceCtorEq, putAt, unE, Nat.reduceBEq, convE, buildE, List.replicate, Int.reduceLT, Int.reduceLE, Int.reduceToNat, mkE, mapSetE, hN, hF, ty_3, ty_9, ty_97, notIf, isEq, ga, gb, gc, gd, gi, gj, gk, gl, gh, g4, g4', g6, g3, g3', g7, g8]
    simp only [runB, finC, finD, Option.isSome_some, Option.isSome_none, ↓reduceIte, Nat.reduceEqDiff, Nat.reduceAdd, Nat.reduceMul, forall_eq_or_imp, forall_eq, implies_true, Nat.reduceBEq, reduceCtorEq, false_implies, List.zip_cons_cons, List.zip_nil_left, List.zip_nil_right, Nat.reduceLeDiff, List.forall_mem_nil, rs_125, hS]
  · have g3 : (kd == 3) = false := by simpa using c3
    have g3' : (kd != 3) = true := by simpa using c3
    have hT : tickP ⟨kd, vw, ht, bl, tk, sg, sig⟩ ↔ tk = 0 := by unfold tickP; rw [if_neg c3]
    by_cases c7 : tk = 0
    case neg =>
      have g7 : (tk != 0) = true := by simpa using c7
      have hS : voS ⟨kd, vw, ht, bl, tk, sg, sig⟩ = 9 := if_neg (by rintro ⟨a1, a2, a3, a4, a5, a6, a7, a8⟩; exact c7 (hT.1 a6))
      simp (maxSteps := 10000000) only [runA, runB, runC, runD, runE, runF, fieldE, storeE, binE, ↓reduceIte, Nat.reduceLT, Nat.reduceLeDiff, Nat.reduceEqDiff, Nat.reduceAdd, Nat.reduceMul, Nat.reduceSub, reduceCtorEq, putAt, unE, Nat.reduceBEq, convE, buildE, List.replicate, Int.reduceLT, Int.reduceLE, Int.reduceToNat, mkE, mapSetE, hN, hF, ty_3, ty_9, ty_97, notIf, isEq, ga, gb, gc, gd, gi, gj, gk, gl, gh, g4, g4', g6, g3, g3', g7]
      simp only [runB, finC, finD, Option.isSome_some, Option.isSome_none, ↓reduceIte, Nat.reduceEqDiff, Nat.reduceAdd, Nat.reduceMul, forall_eq_or_imp, forall_eq, implies_true, Nat.reduceBEq, reduceCtorEq, false_implies, List.zip_cons_cons, List.zip_nil_left, List.zip_nil_right, Nat.reduceLeDiff, List.forall_mem_nil, rs_125, hS]
    have g7 : (tk != 0) = false := by simpa using c7
    have hS : voS ⟨kd, vw, ht, bl, tk, sg, sig⟩ = 0 := if_pos ⟨hca, hcb, hcc, hcd, hA.2 ⟨⟨hci, hcj⟩, c6⟩, hT.2 c7, ⟨hck, hcl⟩, hch⟩
    simp (maxSteps := 10000000) only [runA, runB, runC, runD, runE, runF, fieldE, storeE, binE, ↓reduceIte, Nat.reduceLT, Nat.reduceLeDiff, Nat.reduceEqDiff, Nat.reduceAdd, Nat.reduceMul, Nat.reduceSub, reduceCtorEq, putAt, unE, Nat.reduceBEq, convE, buildE, List.replicate, Int.reduceLT, Int.reduceLE, Int.reduceToNat, mkE, mapSetE, hN, hF, ty_3, ty_9, ty_97, notIf, isEq, ga, gb, gc, gd, gi, gj, gk, gl, gh, g4, g4', g6, g3, g3', g7]
    simp only [runB, finC, finD, Option.isSome_some, Option.isSome_none, ↓reduceIte, Nat.reduceEqDiff, Nat.reduceAdd, Nat.reduceMul, forall_eq_or_imp, forall_eq, implies_true, Nat.reduceBEq, reduceCtorEq, false_implies, List.zip_cons_cons, List.zip_nil_left, List.zip_nil_right, Nat.reduceLeDiff, List.forall_mem_nil, rs_125, hS]


variable {Γ : FuncId → Contract}


noncomputable def rVoFC : Contract := mkC (α := WS × Vt) (fun p => p.1.b.length ≤ 16000 ∧ p.2.bl.length ≤ 9223372036854775807) (fun p => [.agg [.c (.sl (bytes p.1.b)), .c (.int .i64 p.1.e)], p.2.av]) (fun p => []) (fun p => ⟨[.pv (.agg [.c (.sl (bytes (voF p.1 p.2).b)), .c (.int .i64 (voF p.1 p.2).e)])], []⟩)
theorem rVoF_at (w : WS) (tkd : Int) (tvw : Int) (tht : Int) (tbl : List UInt8) (ttk : Int) (tsg : Int) (tsig : List UInt8) (g0 : w.b.length ≤ 16000) (g1 : tbl.length ≤ 9223372036854775807) : rVoFC [.agg [.c (.sl (bytes w.b)), .c (.int .i64 w.e)], (.agg [.c (.int .i64 tkd), .c (.int .i64 tvw), .c (.int .i64 tht), .c (.str tbl), .c (.int .i64 ttk), .c (.int .i64 tsg), .c (.str tsig)])] [] = some ⟨[.pv (.agg [.c (.sl (bytes (voF w (⟨tkd, tvw, tht, tbl, ttk, tsg, tsig⟩ : Vt)).b)), .c (.int .i64 (voF w (⟨tkd, tvw, tht, tbl, ttk, tsg, tsig⟩ : Vt)).e)])], []⟩ := by
  obtain ⟨wb, we⟩ := w
  exact mkC_at (α := WS × Vt) (⟨wb, we⟩, ⟨tkd, tvw, tht, tbl, ttk, tsg, tsig⟩) ⟨g0, g1⟩ (by
    rintro ⟨⟨w'b, w'e⟩, t'⟩ _ h ho
    have hh := And.intro h ho
    clear h ho
    simp only [List.cons.injEq, AV.c.injEq, AV.agg.injEq, PC.int.injEq, PC.str.injEq, PC.bool.injEq, PC.sl.injEq, OV.c.injEq, OV.own.injEq, OV.mp.injEq, bytes_iff, texts_iff, true_and, and_true, and_self, beq_self_eq_true, Vt.av_iff] at hh
    simp only [hh])

set_option maxRecDepth 100000 in
set_option maxHeartbeats 4000000 in
theorem rVoF_sound (hΓ : SoundG Tryz.prog Γ) (h1 : Γ 160 = rNumC) (h2 : Γ 161 = rTextC) : SoundC Tryz.prog 174 rVoFC := by
  refine sound_fn Tryz.func174 (by kernel_rfl) rfl rfl ?_
  intro args objs r0 hr
  obtain ⟨⟨w, ⟨kd, vw, ht, bl, tk, sg, sig⟩⟩, ⟨hl, hb⟩, rfl, rfl, rfl⟩ := mkC_inv hr
  refine ⟨rfl, by show 2 ≤ _; decide, fun E hN hns hF => ?_⟩
  refine vc_sound hΓ mixed _ _ _ ?_
  have hN := hN.trans nt_174
  have hl : w.b.length ≤ 16000 := hl
  have hb : bl.length ≤ 9223372036854775807 := hb
  have hl : w.b.length ≤ 20482 := by omega
  have l0 := rText_cap [118, 111, 116, 101] hl
  have l1 := wNum_cap kd l0
  have l2 := wNum_cap vw l1
  have l3 := wNum_cap ht l2
  have l4 := rText_cap bl l3
  have l5 := wNum_cap tk l4
  unfold Vt.av voF
  dsimp only
  have q0 := rTextR_at w [118, 111, 116, 101] (by omega) (by decide)
  generalize rText w [118, 111, 116, 101] = w0 at q0 l0 l1 l2 l3 l4 l5 ⊢
  have q1 := rNum_at w0 kd (by omega)
  generalize wNum w0 kd = w1 at q1 l1 l2 l3 l4 l5 ⊢
  have q2 := rNum_at w1 vw (by omega)
  generalize wNum w1 vw = w2 at q2 l2 l3 l4 l5 ⊢
  have q3 := rNum_at w2 ht (by omega)
  generalize wNum w2 ht = w3 at q3 l3 l4 l5 ⊢
  have q4 := rTextR_at w3 bl (by omega) hb
  generalize rText w3 bl = w4 at q4 l4 l5 ⊢
  have q5 := rNum_at w4 tk (by omega)
  generalize wNum w4 tk = w5 at q5 l5 ⊢
  have q6 := rNum_at w5 sg (by omega)
  generalize wNum w5 sg = w6 at q6 ⊢
  simp only [runA, runB, runC, runD, runE, runF, fieldE, storeE, binE, ↓reduceIte, Nat.reduceLT, Nat.reduceLeDiff, Nat.reduceEqDiff, Nat.reduceAdd, Nat.reduceMul, Nat.reduceSub, reduceCtorEq, putAt, unE, Nat.reduceBEq, convE, buildE, List.replicate, Int.reduceLT, Int.reduceLE, Int.reduceToNat, mkE, mapSetE, hN, hF, ty_3, ty_9, ty_47, ty_97, ty_170, notIf, isEq, h1, h2, q0, q1, q2, q3, q4, q5, q6]
  refine drawnP_intro (by kernel_rfl) (by kernel_rfl) ?_
  simp only [runA, runB, runC, runD, runE, runF, fieldE, storeE, binE, ↓reduceIte, Nat.reduceLT, Nat.reduceLeDiff, Nat.reduceEqDiff, Nat.reduceAdd, Nat.reduceMul, Nat.reduceSub, reduceCtorEq, putAt, unE, Nat.reduceBEq, convE, buildE, List.replicate, Int.reduceLT, Int.reduceLE, Int.reduceToNat, mkE, mapSetE, hN, hF, ty_3, ty_9, ty_47, ty_97, ty_170, notIf, isEq, h1, h2, q0, q1, q2, q3, q4, q5, q6]
  simp only [runB, finC, finD, Option.isSome_some, Option.isSome_none, ↓reduceIte, Nat.reduceEqDiff, Nat.reduceAdd, Nat.reduceMul, forall_eq_or_imp, forall_eq, implies_true, Nat.reduceBEq, reduceCtorEq, false_implies, List.zip_cons_cons, List.zip_nil_left, List.zip_nil_right, Nat.reduceLeDiff, List.forall_mem_nil, rs_174, ty_3, ty_9, ty_47, ty_97, ty_170]

set_option maxRecDepth 100000 in
set_option maxHeartbeats 4000000 in
theorem rVoT_sound (hΓ : SoundG Tryz.prog Γ) (h1 : Γ 125 = voCkC) (h2 : Γ 174 = rVoFC) : SoundC Tryz.prog 126 voTC := by
  refine sound_fn Tryz.func126 (by kernel_rfl) rfl rfl ?_
  intro args objs r0 hr
  obtain ⟨⟨kd, vw, ht, bl, tk, sg, sig⟩, _, rfl, rfl, rfl⟩ := mkC_inv hr
  refine ⟨rfl, by show 1 ≤ _; decide, fun E hN hns hF => ?_⟩
  refine vc_sound hΓ mixed _ _ _ ?_
  have hN := hN.trans nt_126
  have q1 := voCk_at ⟨kd, vw, ht, bl, tk, sg, sig⟩
  have b9 : ((9 : Int) != 0) = true := rfl
  have b0 : ((0 : Int) != 0) = false := rfl
  unfold Vt.av
  dsimp only at q1 ⊢
  by_cases hk : okV ⟨kd, vw, ht, bl, tk, sg, sig⟩
  · rw [show voS ⟨kd, vw, ht, bl, tk, sg, sig⟩ = 0 from if_pos hk] at q1
    rw [show voT ⟨kd, vw, ht, bl, tk, sg, sig⟩ = voB ⟨kd, vw, ht, bl, tk, sg, sig⟩ from if_pos hk]
    have hbl := okV_bl hk
    have q2 := rVoF_at ⟨[], 0⟩ kd vw ht bl tk sg sig (by simp) (by dsimp only at hbl; omega)
    rw [voF_ok hk (by simp), List.nil_append] at q2
    dsimp only at q2
    rw [show bytes [] = [] from rfl] at q2
    generalize bytes (voB ⟨kd, vw, ht, bl, tk, sg, sig⟩) = B at q2 ⊢
    simp only [runA, runB, runC, runD, runE, runF, fieldE, storeE, binE, ↓reduceIte, Nat.reduceLT, Nat.reduceLeDiff, Nat.reduceEqDiff, Nat.reduceAdd, Nat.reduceMul, Nat.reduceSub, reduceCtorEq, putAt, unE, Nat.reduceBEq, convE, buildE, List.replicate, Int.reduceLT, Int.reduceLE, Int.reduceToNat, mkE, mapSetE, hN, hF, ty_3, ty_5, ty_9, ty_47, ty_97, ty_170, notIf, isEq, h1, q1, b0, h2, q2]
    simp only [runB, finC, finD, Option.isSome_some, Option.isSome_none, ↓reduceIte, Nat.reduceEqDiff, Nat.reduceAdd, Nat.reduceMul, forall_eq_or_imp, forall_eq, implies_true, Nat.reduceBEq, reduceCtorEq, false_implies, List.zip_cons_cons, List.zip_nil_left, List.zip_nil_right, Nat.reduceLeDiff, List.forall_mem_nil, rs_126, ty_3, ty_5, ty_9, ty_47, ty_97, ty_170]
  · rw [show voS ⟨kd, vw, ht, bl, tk, sg, sig⟩ = 9 from if_neg hk] at q1
    rw [show voT ⟨kd, vw, ht, bl, tk, sg, sig⟩ = [] from if_neg hk, show bytes [] = [] from rfl]
    simp only [runA, runB, runC, runD, runE, runF, fieldE, storeE, binE, ↓reduceIte, Nat.reduceLT, Nat.reduceLeDiff, Nat.reduceEqDiff, Nat.reduceAdd, Nat.reduceMul, Nat.reduceSub, reduceCtorEq, putAt, unE, Nat.reduceBEq, convE, buildE, List.replicate, Int.reduceLT, Int.reduceLE, Int.reduceToNat, mkE, mapSetE, hN, hF, ty_3, ty_5, ty_9, ty_47, ty_97, ty_170, notIf, isEq, h1, q1, b9]
    simp only [runB, finC, finD, Option.isSome_some, Option.isSome_none, ↓reduceIte, Nat.reduceEqDiff, Nat.reduceAdd, Nat.reduceMul, forall_eq_or_imp, forall_eq, implies_true, Nat.reduceBEq, reduceCtorEq, false_implies, List.zip_cons_cons, List.zip_nil_left, List.zip_nil_right, Nat.reduceLeDiff, List.forall_mem_nil, rs_126, ty_3, ty_5, ty_9, ty_47, ty_97, ty_170]


variable {Γ : FuncId → Contract}


theorem getB2 (a b : UInt8) : getB [a, b] = (a.toNat : Int) * 256 + (b.toNat : Int) := by
  have := a.toNat_lt
  have := b.toNat_lt
  unfold getB
  simp only [List.foldl_cons, List.foldl_nil]
  omega

set_option maxRecDepth 100000 in
set_option maxHeartbeats 4000000 in
theorem rVer_sound (hΓ : SoundG Tryz.prog Γ) (h4 : Γ 140 = opnC) (h5 : Γ 139 = climbC) : SoundC Tryz.prog 88 sverC := by
  refine sound_fn Tryz.func88 (by kernel_rfl) rfl rfl ?_
  intro args objs r0 hr
  obtain ⟨⟨root, h, text, sig⟩, hl, rfl, rfl, rfl⟩ := mkC_inv hr
  refine ⟨rfl, by show 4 ≤ _; decide, fun E hN hns hF => ?_⟩
  refine vc_sound hΓ mixed _ _ _ ?_
  have hN := hN.trans nt_88
  have hl : text.length ≤ 1099511627776 := hl
  dsimp only
  by_cases c0 : 0 ≤ h ∧ h ≤ 4 ∧ (sig.length : Int) = 90 + 8 * h
  case neg =>
    have hS : verS root h text sig = (0, false) := if_pos (by
      unfold sizeS
      split
      · exact .inl rfl
      · rename_i hc
        exact .inr (by intro e; exact c0 ⟨by omega, by omega, by omega⟩))
    rw [hS]
    by_cases c1 : h < 0
    · have g1 : decide (h < 0) = true := decide_eq_true c1
      simp only [runA, runB, runC, runD, runE, runF, fieldE, storeE, binE, ↓reduceIte, Nat.reduceLT, Nat.reduceLeDiff, Nat.reduceEqDiff, Nat.reduceAdd, Nat.reduceMul, Nat.reduceSub, reduceCtorEq, putAt, unE, Nat.reduceBEq, convE, buildE, List.replicate, Int.reduceLT, Int.reduceLE, Int.reduceToNat, mkE, mapSetE, hN, hF, ty_3, ty_4, ty_5, ty_9, ty_24, ty_47, ty_165, notIf, isEq, g1]
      simp only [runB, finC, finD, Option.isSome_some, Option.isSome_none, ↓reduceIte, Nat.reduceEqDiff, Nat.reduceAdd, Nat.reduceMul, forall_eq_or_imp, forall_eq, implies_true, Nat.reduceBEq, reduceCtorEq, false_implies, List.zip_cons_cons, List.zip_nil_left, List.zip_nil_right, Nat.reduceLeDiff, List.forall_mem_nil, rs_88, ty_3, ty_4, ty_5, ty_9, ty_24, ty_47, ty_165]
    have g1 : decide (h < 0) = false := decide_eq_false c1
    by_cases c2 : h > 4
    · have g2 : decide (h > 4) = true := decide_eq_true c2
      simp only [runA, runB, runC, runD, runE, runF, fieldE, storeE, binE, ↓reduceIte, Nat.reduceLT, Nat.reduceLeDiff, Nat.reduceEqDiff, Nat.reduceAdd, Nat.reduceMul, Nat.reduceSub, reduceCtorEq, putAt, unE, Nat.reduceBEq, convE, buildE, List.replicate, Int.reduceLT, Int.reduceLE, Int.reduceToNat, mkE, mapSetE, hN, hF, ty_3, ty_4, ty_5, ty_9, ty_24, ty_47, ty_165, notIf, isEq, g1, g2]
      simp only [runB, finC, finD, Option.isSome_some, Option.isSome_none, ↓reduceIte, Nat.reduceEqDiff, Nat.reduceAdd, Nat.reduceMul, forall_eq_or_imp, forall_eq, implies_true, Nat.reduceBEq, reduceCtorEq, false_implies, List.zip_cons_cons, List.zip_nil_left, List.zip_nil_right, Nat.reduceLeDiff, List.forall_mem_nil, rs_88, ty_3, ty_4, ty_5, ty_9, ty_24, ty_47, ty_165]
    have g2 : decide (h > 4) = false := decide_eq_false c2
    have e1 : IntKind.i64.wrap (8 * h) = 8 * h := wrapI (by omega)
    have e2 : IntKind.i64.wrap (90 + 8 * h) = 90 + 8 * h := wrapI (by omega)
    have g3 : ((sig.length : Int) != 90 + 8 * h) = true := by rw [bne_iff_ne]; omega
    simp only [runA, runB, runC, runD, runE, runF, fieldE, storeE, binE, ↓reduceIte, Nat.reduceLT, Nat.reduceLeDiff, Nat.reduceEqDiff, Nat.reduceAdd, Nat.reduceMul, Nat.reduceSub, reduceCtorEq, putAt, unE, Nat.reduceBEq, convE, buildE, List.replicate, Int.reduceLT, Int.reduceLE, Int.reduceToNat, mkE, mapSetE, hN, hF, ty_3, ty_4, ty_5, ty_9, ty_24, ty_47, ty_165, notIf, isEq, g1, g2, e1, e2, g3]
    simp only [runB, finC, finD, Option.isSome_some, Option.isSome_none, ↓reduceIte, Nat.reduceEqDiff, Nat.reduceAdd, Nat.reduceMul, forall_eq_or_imp, forall_eq, implies_true, Nat.reduceBEq, reduceCtorEq, false_implies, List.zip_cons_cons, List.zip_nil_left, List.zip_nil_right, Nat.reduceLeDiff, List.forall_mem_nil, rs_88, ty_3, ty_4, ty_5, ty_9, ty_24, ty_47, ty_165]
  obtain ⟨hh0, hh4, hsz⟩ := c0
  obtain ⟨H, rfl⟩ : ∃ H : Nat, h = (H : Int) := ⟨h.toNat, by omega⟩
  have hH : H ≤ 4 := by omega
  have hsl : sig.length = 90 + 8 * H := by omega
  have g1 : decide ((H : Int) < 0) = false := decide_eq_false (by omega)
  have g2 : decide ((H : Int) > 4) = false := decide_eq_false (by omega)
  have e1 : IntKind.i64.wrap (8 * (H : Int)) = 8 * (H : Int) := wrapI (by omega)
  have e2 : IntKind.i64.wrap (90 + 8 * (H : Int)) = 90 + 8 * (H : Int) := wrapI (by omega)
  have g3 : ((sig.length : Int) != 90 + 8 * (H : Int)) = false := by rw [hsz, bne_self_eq_false]
  clear hr
  obtain ⟨a, b, sd, rfl⟩ : ∃ a b sd, sig = a :: b :: sd := by
    cases sig with
    | nil => simp at hsl; omega
    | cons a s =>
      cases s with
      | nil => simp at hsl; omega
      | cons b sd => exact ⟨a, b, sd, rfl⟩
  have i0 : (a :: b :: sd)[0]? = some a := rfl
  have i1 : (a :: b :: sd)[1]? = some b := rfl
  have t2 : getB ((a :: b :: sd).take 2) = (a.toNat : Int) * 256 + (b.toNat : Int) := getB2 a b
  generalize hsg : a :: b :: sd = sig at hsz hsl g3 i0 i1 t2 ⊢
  have ha := a.toNat_lt
  have hb := b.toNat_lt
  have w0 : IntKind.i64.wrap (a.toNat : Int) = (a.toNat : Int) := wrapI (by omega)
  have w1 : IntKind.i64.wrap (b.toNat : Int) = (b.toNat : Int) := wrapI (by omega)
  have w2 : IntKind.i64.wrap ((a.toNat : Int) * 256) = (a.toNat : Int) * 256 := wrapI (by omega)
  have w3 : IntKind.i64.wrap ((a.toNat : Int) * 256 + (b.toNat : Int)) = (a.toNat : Int) * 256 + (b.toNat : Int) := wrapI (by omega)
  simp only [runA, runB, runC, runD, runE, runF, fieldE, storeE, binE, ↓reduceIte, Nat.reduceLT, Nat.reduceLeDiff, Nat.reduceEqDiff, Nat.reduceAdd, Nat.reduceMul, Nat.reduceSub, reduceCtorEq, putAt, unE, Nat.reduceBEq, convE, buildE, List.replicate, Int.reduceLT, Int.reduceLE, Int.reduceToNat, mkE, mapSetE, hN, hF, ty_3, ty_4, ty_5, ty_9, ty_24, ty_47, ty_165, notIf, isEq, g1, g2, e1, e2, g3, i0, i1, w0, w1, w2, w3]
  refine drawnP_intro (by kernel_rfl) (by kernel_rfl) ?_
  simp only [runA, runB, runC, runD, runE, runF, fieldE, storeE, binE, ↓reduceIte, Nat.reduceLT, Nat.reduceLeDiff, Nat.reduceEqDiff, Nat.reduceAdd, Nat.reduceMul, Nat.reduceSub, reduceCtorEq, putAt, unE, Nat.reduceBEq, convE, buildE, List.replicate, Int.reduceLT, Int.reduceLE, Int.reduceToNat, mkE, mapSetE, hN, hF, ty_3, ty_4, ty_5, ty_9, ty_24, ty_47, ty_165, notIf, isEq, g1, g2, e1, e2, g3, i0, i1, w0, w1, w2, w3]
  rw [← t2]
  have hdl : (sig.drop 2).length = 88 + 8 * H := by rw [List.length_drop]; omega
  have hcl := fun i => chk_length (sig.drop 2) i
  refine AWP.loop (fun k st => ∃ i : Nat, i ≤ 11 + H ∧ k = 11 + H - i ∧ st = ⟨[(0, .c (.str root)), (1, .c (.int .i64 (H : Int))), (2, .c (.sl (bytes text))), (3, .c (.str sig)), (10, .c (.int .i64 (getB (sig.take 2)))), (11, .own 3073 1 (texts (chk (sig.drop 2) i))), (12, .c (.int .i64 (2 + 8 * (i : Int))))], [(3073, .row 1 i)]⟩) ⟨11 + H, _, ?w, 0, Nat.zero_le _, rfl, rfl⟩ ?r
  case w =>
    have z1 : texts (chk (sig.drop 2) 0) = [] := rfl
    have z2 : (2 + 8 * ((0 : Nat) : Int)) = 2 := rfl
    rw [hns]
    simp only [runB, finC, finD, AS.get, AS.mem, false_implies, implies_true, ↓reduceIte, Nat.reduceEqDiff, Option.isSome_some, Option.isSome_none, forall_eq_or_imp, forall_eq, reduceCtorEq, Nat.reduceAdd, Nat.reduceMul, List.zip_cons_cons, List.zip_nil_left, List.zip_nil_right, List.forall_mem_nil, z1, z2]
    first | done | simp
  case r =>
    rintro k st ⟨i, hi, rfl, rfl⟩
    refine vc_sound hΓ mixed _ _ _ ?_
    by_cases hlt : i < 11 + H
    · have k1 : decide (2 + 8 * (i : Int) < (sig.length : Int)) = true := decide_eq_true (by omega)
      have x1 : IntKind.i64.wrap (2 + 8 * (i : Int) + 8) = 2 + 8 * ((i + 1 : Nat) : Int) := by rw [wrapI (by omega)]; omega
      have x2 : ((0 : Int) ≤ 2 + 8 * (i : Int)) = True := eq_true (by omega)
      have x3 : (2 + 8 * (i : Int) ≤ 2 + 8 * ((i + 1 : Nat) : Int)) = True := eq_true (by omega)
      have x4 : (2 + 8 * ((i + 1 : Nat) : Int) ≤ (sig.length : Int)) = True := eq_true (by omega)
      have x5 : (2 + 8 * (i : Int)).toNat = 2 + 8 * i := by omega
      have x6 : (2 + 8 * ((i + 1 : Nat) : Int)).toNat = 2 + 8 * i + 8 := by omega
      have x7 : (sig.take (2 + 8 * i + 8)).drop (2 + 8 * i) = ((sig.drop 2).drop (8 * i)).take 8 := by
        rw [List.drop_take, List.drop_drop, Nat.add_sub_cancel_left]
      have hsucc := chk_succ (sig.drop 2) i
      have hz := rowsOK_texts
      have hL : ((i + 1) * 16 ≤ 140737488355328) = True := eq_true (by omega)
      simp only [runA, runB, runC, runD, runE, runF, fieldE, storeE, binE, ↓reduceIte, Nat.reduceLT, Nat.reduceLeDiff, Nat.reduceEqDiff, Nat.reduceAdd, Nat.reduceMul, Nat.reduceSub, reduceCtorEq, putAt, unE, Nat.reduceBEq, convE, buildE, List.replicate, Int.reduceLT, Int.reduceLE, Int.reduceToNat, mkE, mapSetE, hN, hF, ty_3, ty_4, ty_5, ty_9, ty_24, ty_47, ty_165, notIf, isEq, sliceE, boundE, k1, x1, x2, x3, x4, x5, x6, x7, texts1, texts_app, ← hsucc, hz, hL, texts_length, hcl]
      refine ⟨11 + H - (i + 1), _, by omega, ?_, i + 1, by omega, rfl, rfl⟩
      rw [hns]
      simp only [runB, finC, finD, AS.get, AS.mem, false_implies, implies_true, ↓reduceIte, Nat.reduceEqDiff, Option.isSome_some, Option.isSome_none, forall_eq_or_imp, forall_eq, reduceCtorEq, Nat.reduceAdd, Nat.reduceMul, List.zip_cons_cons, List.zip_nil_left, List.zip_nil_right, List.forall_mem_nil]
      first | done | simp
    · obtain rfl : i = 11 + H := by omega
      have k1 : decide (2 + 8 * ((11 + H : Nat) : Int) < (sig.length : Int)) = false := decide_eq_false (by omega)
      have hok := chk_ok (sig.drop 2) (11 + H) (by omega)
      have hcl := chk_length (sig.drop 2) (11 + H)
      have hgl := getB_lt (sig.take 2)
      have hg0 := getB_nonneg (sig.take 2)
      have es := shl_pow H hH
      have eu : IntKind.u64.wrap (H : Int) = (H : Int) := by
        have : H = 0 ∨ H = 1 ∨ H = 2 ∨ H = 3 ∨ H = 4 := by omega
        rcases this with rfl | rfl | rfl | rfl | rfl <;> rfl
      have hsS : sizeS (H : Int) = 90 + 8 * (H : Int) := by
        unfold sizeS
        rw [if_neg (by omega)]
        first | done | omega
      have hV : verS root (H : Int) text sig = if getB (sig.take 2) ≥ ((2 ^ H : Nat) : Int) ∨ climbS (opnS text ((chk (sig.drop 2) (11 + H)).take 11)) (getB (sig.take 2)).toNat ((chk (sig.drop 2) (11 + H)).drop 11) ≠ root then (0, false) else (getB (sig.take 2), true) := by
        unfold verS
        rw [if_neg (by rw [hsS]; omega), Int.toNat_natCast]
      rw [hV]
      generalize chk (sig.drop 2) (11 + H) = L at hcl hok ⊢
      generalize getB (sig.take 2) = lf at hgl hg0 ⊢
      have hz := rowsOK_texts
      have d3 : ((0 : Int) ≤ 11) = True := eq_true (by decide)
      have d3' : (((0 : Nat) : Int) ≤ 11) = True := eq_true (by decide)
      have d4 : ((11 : Int) ≤ ((11 + H : Nat) : Int)) = True := eq_true (by omega)
      have htk : (texts L).take (11 + H) = texts L := by rw [← hcl, ← texts_length L, List.take_length]
      have htt := texts_takeS L 11
      have htd := texts_dropS L 11
      have q4 := opn_at text (L.take 11) hl
      have q5 := climb_at (opnS text (L.take 11)) lf (L.drop 11) ⟨Nat.le_trans (opnS_le _ _) (by decide), by show lf < _; omega, hok⟩
      rw [show (max lf 0) = lf from by omega] at q5
      by_cases c3 : lf ≥ ((2 ^ H : Nat) : Int)
      · have g5 : decide (lf ≥ ((2 ^ H : Nat) : Int)) = true := by simpa using c3
        rw [if_pos (.inl c3)]
        simp only [runA, runB, runC, runD, runE, runF, fieldE, storeE, binE, ↓reduceIte, Nat.reduceLT, Nat.reduceLeDiff, Nat.reduceEqDiff, Nat.reduceAdd, Nat.reduceMul, Nat.reduceSub, reduceCtorEq, putAt, unE, Nat.reduceBEq, convE, buildE, List.replicate, Int.reduceLT, Int.reduceLE, Int.reduceToNat, mkE, mapSetE, hN, hF, ty_3, ty_4, ty_5, ty_9, ty_24, ty_47, ty_165, notIf, isEq, sliceE, boundE, k1, eu, es, g5]
        refine drawnP_intro (by kernel_rfl) (by kernel_rfl) ?_
        simp only [runA, runB, runC, runD, runE, runF, fieldE, storeE, binE, ↓reduceIte, Nat.reduceLT, Nat.reduceLeDiff, Nat.reduceEqDiff, Nat.reduceAdd, Nat.reduceMul, Nat.reduceSub, reduceCtorEq, putAt, unE, Nat.reduceBEq, convE, buildE, List.replicate, Int.reduceLT, Int.reduceLE, Int.reduceToNat, mkE, mapSetE, hN, hF, ty_3, ty_4, ty_5, ty_9, ty_24, ty_47, ty_165, notIf, isEq, sliceE, boundE, k1, eu, es, g5]
        all_goals (simp only [runB, finC, finD, Option.isSome_some, Option.isSome_none, ↓reduceIte, Nat.reduceEqDiff, Nat.reduceAdd, Nat.reduceMul, forall_eq_or_imp, forall_eq, implies_true, Nat.reduceBEq, reduceCtorEq, false_implies, List.zip_cons_cons, List.zip_nil_left, List.zip_nil_right, Nat.reduceLeDiff, List.forall_mem_nil, rs_88, ty_3, ty_4, ty_5, ty_9, ty_24, ty_47, ty_165])
      have g5 : decide (lf ≥ ((2 ^ H : Nat) : Int)) = false := by simpa using c3
      generalize climbS (opnS text (L.take 11)) lf.toNat (L.drop 11) = rt at q5 ⊢
      generalize opnS text (L.take 11) = op at q4 q5
      by_cases c4 : rt = root
      · have g4 : (rt == root) = true := by simpa using c4
        rw [if_neg (by rintro (h | h); exact c3 h; exact h c4)]
        simp only [runA, runB, runC, runD, runE, runF, fieldE, storeE, binE, ↓reduceIte, Nat.reduceLT, Nat.reduceLeDiff, Nat.reduceEqDiff, Nat.reduceAdd, Nat.reduceMul, Nat.reduceSub, reduceCtorEq, putAt, unE, Nat.reduceBEq, convE, buildE, List.replicate, Int.reduceLT, Int.reduceLE, Int.reduceToNat, mkE, mapSetE, hN, hF, ty_3, ty_4, ty_5, ty_9, ty_24, ty_47, ty_165, notIf, isEq, sliceE, boundE, k1, eu, es, g5, d3, d3', d4, hz, texts_length, hcl, htt, htd, htk, h4, q4, h5, q5, g4, Int.le_refl, List.drop_zero]
        refine drawnP_intro (by kernel_rfl) (by kernel_rfl) ?_
        simp only [runA, runB, runC, runD, runE, runF, fieldE, storeE, binE, ↓reduceIte, Nat.reduceLT, Nat.reduceLeDiff, Nat.reduceEqDiff, Nat.reduceAdd, Nat.reduceMul, Nat.reduceSub, reduceCtorEq, putAt, unE, Nat.reduceBEq, convE, buildE, List.replicate, Int.reduceLT, Int.reduceLE, Int.reduceToNat, mkE, mapSetE, hN, hF, ty_3, ty_4, ty_5, ty_9, ty_24, ty_47, ty_165, notIf, isEq, sliceE, boundE, k1, eu, es, g5, d3, d3', d4, hz, texts_length, hcl, htt, htd, htk, h4, q4, h5, q5, g4, Int.le_refl, List.drop_zero]
        simp only [runB, finC, finD, Option.isSome_some, Option.isSome_none, ↓reduceIte, Nat.reduceEqDiff, Nat.reduceAdd, Nat.reduceMul, forall_eq_or_imp, forall_eq, implies_true, Nat.reduceBEq, reduceCtorEq, false_implies, List.zip_cons_cons, List.zip_nil_left, List.zip_nil_right, Nat.reduceLeDiff, List.forall_mem_nil, rs_88, ty_3, ty_4, ty_5, ty_9, ty_24, ty_47, ty_165]
      · have g4 : (rt == root) = false := by simpa using c4
        rw [if_pos (.inr c4)]
        simp only [runA, runB, runC, runD, runE, runF, fieldE, storeE, binE, ↓reduceIte, Nat.reduceLT, Nat.reduceLeDiff, Nat.reduceEqDiff, Nat.reduceAdd, Nat.reduceMul, Nat.reduceSub, reduceCtorEq, putAt, unE, Nat.reduceBEq, convE, buildE, List.replicate, Int.reduceLT, Int.reduceLE, Int.reduceToNat, mkE, mapSetE, hN, hF, ty_3, ty_4, ty_5, ty_9, ty_24, ty_47, ty_165, notIf, isEq, sliceE, boundE, k1, eu, es, g5, d3, d3', d4, hz, texts_length, hcl, htt, htd, htk, h4, q4, h5, q5, g4, Int.le_refl, List.drop_zero]
        refine drawnP_intro (by kernel_rfl) (by kernel_rfl) ?_
        simp only [runA, runB, runC, runD, runE, runF, fieldE, storeE, binE, ↓reduceIte, Nat.reduceLT, Nat.reduceLeDiff, Nat.reduceEqDiff, Nat.reduceAdd, Nat.reduceMul, Nat.reduceSub, reduceCtorEq, putAt, unE, Nat.reduceBEq, convE, buildE, List.replicate, Int.reduceLT, Int.reduceLE, Int.reduceToNat, mkE, mapSetE, hN, hF, ty_3, ty_4, ty_5, ty_9, ty_24, ty_47, ty_165, notIf, isEq, sliceE, boundE, k1, eu, es, g5, d3, d3', d4, hz, texts_length, hcl, htt, htd, htk, h4, q4, h5, q5, g4, Int.le_refl, List.drop_zero]
        simp only [runB, finC, finD, Option.isSome_some, Option.isSome_none, ↓reduceIte, Nat.reduceEqDiff, Nat.reduceAdd, Nat.reduceMul, forall_eq_or_imp, forall_eq, implies_true, Nat.reduceBEq, reduceCtorEq, false_implies, List.zip_cons_cons, List.zip_nil_left, List.zip_nil_right, Nat.reduceLeDiff, List.forall_mem_nil, rs_88, ty_3, ty_4, ty_5, ty_9, ty_24, ty_47, ty_165]


variable {Γ : FuncId → Contract}

theorem eqg_mk : Tryz.prog.eqGuardType Tryz.prog.depth 74 = false := by kernel_rfl
theorem eq_mk (a b : Mk) : eqE Tryz.prog 10000 74 [.int .i64 a.vw, .int .i64 a.ht, .str a.bl] [.int .i64 b.vw, .int .i64 b.ht, .str b.bl] = some (decide (a = b)) := by
  have h : eqE Tryz.prog 10000 74 [.int .i64 a.vw, .int .i64 a.ht, .str a.bl] [.int .i64 b.vw, .int .i64 b.ht, .str b.bl] = some ((a.vw == b.vw) && ((a.ht == b.ht) && ((a.bl == b.bl) && true))) := by kernel_rfl
  refine h.trans (congrArg some ?_)
  obtain ⟨a1, a2, a3⟩ := a
  obtain ⟨b1, b2, b3⟩ := b
  rw [Bool.eq_iff_iff, decide_eq_true_iff, Mk.mk.injEq, Bool.and_eq_true, Bool.and_eq_true, Bool.and_eq_true, beq_iff_eq, beq_iff_eq, beq_iff_eq]
  exact ⟨fun ⟨x, y, z, _⟩ => ⟨x, y, z⟩, fun ⟨x, y, z⟩ => ⟨x, y, z, rfl⟩⟩
noncomputable def cmkC : Contract := mkC (α := Ct) (fun p => True) (fun p => [p.av]) (fun p => []) (fun p => ⟨[.pv (Mk.av ⟨p.vw, p.ht, p.bl⟩)], []⟩)
theorem cmk_at (cvw : Int) (cht : Int) (cbl : List UInt8) (cvs : List Vt) : cmkC [(.agg [.c (.int .i64 cvw), .c (.int .i64 cht), .c (.str cbl), .c (.sl (votes cvs))])] [] = some ⟨[.pv (Mk.av ⟨cvw, cht, cbl⟩)], []⟩ := by
  exact mkC_at (α := Ct) ⟨cvw, cht, cbl, cvs⟩ trivial (by
    rintro c' _ h ho
    have hh := And.intro h ho
    clear h ho
    simp only [List.cons.injEq, AV.c.injEq, AV.agg.injEq, PC.int.injEq, PC.str.injEq, PC.bool.injEq, PC.sl.injEq, OV.c.injEq, OV.own.injEq, OV.mp.injEq, bytes_iff, texts_iff, true_and, and_true, and_self, beq_self_eq_true, Ct.av_iff] at hh
    simp only [hh])

set_option maxRecDepth 100000 in
set_option maxHeartbeats 4000000 in
theorem cmk_sound  : SoundC Tryz.prog 80 cmkC := by
  refine sound_fn Tryz.func80 (by kernel_rfl) rfl rfl ?_
  intro args objs r0 hr
  obtain ⟨⟨a1, a2, a3, a4⟩, _, rfl, rfl, rfl⟩ := mkC_inv hr
  refine ⟨rfl, by show 1 ≤ _; decide, fun E hN hns hF => ?_⟩
  refine vc_sound none0_sound mixed _ _ _ ?_
  have hN := hN.trans nt_80
  unfold Ct.av Mk.av
  dsimp only
  simp only [runA, runB, runC, runD, runE, runF, fieldE, storeE, binE, ↓reduceIte, Nat.reduceLT, Nat.reduceLeDiff, Nat.reduceEqDiff, Nat.reduceAdd, Nat.reduceMul, Nat.reduceSub, reduceCtorEq, putAt, unE, Nat.reduceBEq, convE, buildE, List.replicate, Int.reduceLT, Int.reduceLE, Int.reduceToNat, mkE, mapSetE, hN, hF, ty_3, ty_9, ty_29, ty_31, ty_74, notIf, isEq]
  simp only [runB, finC, finD, Option.isSome_some, Option.isSome_none, ↓reduceIte, Nat.reduceEqDiff, Nat.reduceAdd, Nat.reduceMul, forall_eq_or_imp, forall_eq, implies_true, Nat.reduceBEq, reduceCtorEq, false_implies, List.zip_cons_cons, List.zip_nil_left, List.zip_nil_right, Nat.reduceLeDiff, List.forall_mem_nil, rs_80, ty_3, ty_9, ty_29, ty_31, ty_74]


variable {Γ : FuncId → Contract}


def isV (m : Mk) (v : Vt) : Bool := (v.kd == 1) && decide ((⟨v.vw, v.ht, v.bl⟩ : Mk) = m)
noncomputable def stepC (c : Ct) (roots : List (List UInt8)) (i : Nat) : Bool :=
  isV ⟨c.vw, c.ht, c.bl⟩ (c.vs.getD i zeroV) && ((decide (i = 0) || decide ((c.vs.getD (i - 1) zeroV).sg < (c.vs.getD i zeroV).sg)) && validV (c.vs.getD i zeroV) roots)
open Classical in
noncomputable def ctS (c : Ct) (roots : List (List UInt8)) (q : Int) : Int :=
  if c.vs = [] ∧ (⟨c.vw, c.ht, c.bl⟩ : Mk) = ⟨0, 0, genS⟩ then 0 else if q < 1 ∨ (c.vs.length : Int) ≠ q then 41 else if ∀ i, i < c.vs.length → stepC c roots i = true then 0 else 41
noncomputable def vAbC : Contract := mkC (α := Vt) (fun p => True) (fun p => [p.av]) (fun p => []) (fun p => ⟨[.pv (Mk.av ⟨p.vw, p.ht, p.bl⟩)], []⟩)
theorem vAb_at (vkd : Int) (vvw : Int) (vht : Int) (vbl : List UInt8) (vtk : Int) (vsg : Int) (vsig : List UInt8) : vAbC [(.agg [.c (.int .i64 vkd), .c (.int .i64 vvw), .c (.int .i64 vht), .c (.str vbl), .c (.int .i64 vtk), .c (.int .i64 vsg), .c (.str vsig)])] [] = some ⟨[.pv (Mk.av ⟨vvw, vht, vbl⟩)], []⟩ := by
  exact mkC_at (α := Vt) ⟨vkd, vvw, vht, vbl, vtk, vsg, vsig⟩ trivial (by
    rintro v' _ h ho
    have hh := And.intro h ho
    clear h ho
    simp only [List.cons.injEq, AV.c.injEq, AV.agg.injEq, PC.int.injEq, PC.str.injEq, PC.bool.injEq, PC.sl.injEq, OV.c.injEq, OV.own.injEq, OV.mp.injEq, bytes_iff, texts_iff, true_and, and_true, and_self, beq_self_eq_true, Vt.av_iff] at hh
    simp only [hh])

set_option maxRecDepth 100000 in
set_option maxHeartbeats 4000000 in
theorem vAb_sound  : SoundC Tryz.prog 169 vAbC := by
  refine sound_fn Tryz.func169 (by kernel_rfl) rfl rfl ?_
  intro args objs r0 hr
  obtain ⟨⟨kd, vw, ht, bl, tk, sg, sig⟩, _, rfl, rfl, rfl⟩ := mkC_inv hr
  refine ⟨rfl, by show 1 ≤ _; decide, fun E hN hns hF => ?_⟩
  refine vc_sound none0_sound mixed _ _ _ ?_
  have hN := hN.trans nt_169
  unfold Vt.av Mk.av
  dsimp only
  simp only [runA, runB, runC, runD, runE, runF, fieldE, storeE, binE, ↓reduceIte, Nat.reduceLT, Nat.reduceLeDiff, Nat.reduceEqDiff, Nat.reduceAdd, Nat.reduceMul, Nat.reduceSub, reduceCtorEq, putAt, unE, Nat.reduceBEq, convE, buildE, List.replicate, Int.reduceLT, Int.reduceLE, Int.reduceToNat, mkE, mapSetE, hN, hF, ty_3, ty_9, ty_74, ty_97, notIf, isEq]
  simp only [runB, finC, finD, Option.isSome_some, Option.isSome_none, ↓reduceIte, Nat.reduceEqDiff, Nat.reduceAdd, Nat.reduceMul, forall_eq_or_imp, forall_eq, implies_true, Nat.reduceBEq, reduceCtorEq, false_implies, List.zip_cons_cons, List.zip_nil_left, List.zip_nil_right, Nat.reduceLeDiff, List.forall_mem_nil, rs_169, ty_3, ty_9, ty_74, ty_97]

noncomputable def abtIC : Contract := mkC (α := Vt × Mk) (fun _ => True) (fun q => [q.1.av, .rptr [.int .i64 q.2.vw, .int .i64 q.2.ht, .str q.2.bl]]) (fun _ => []) (fun q => ⟨[.pv (.c (.bool (isV q.2 q.1)))], []⟩)
theorem abtI_at (y : Vt) (m : Mk) : abtIC [.agg [.c (.int .i64 y.kd), .c (.int .i64 y.vw), .c (.int .i64 y.ht), .c (.str y.bl), .c (.int .i64 y.tk), .c (.int .i64 y.sg), .c (.str y.sig)], .rptr [.int .i64 m.vw, .int .i64 m.ht, .str m.bl]] [] = some ⟨[.pv (.c (.bool (isV m y)))], []⟩ :=
  mkC_at (α := Vt × Mk) (y, m) trivial (by
    rintro ⟨t', ⟨x1, x2, x3⟩⟩ _ h _
    obtain ⟨m1, m2, m3⟩ := m
    have h' : [t'.av, .rptr [.int .i64 x1, .int .i64 x2, .str x3]] = [y.av, .rptr [.int .i64 m1, .int .i64 m2, .str m3]] := h
    simp only [List.cons.injEq, Vt.av_iff, AV.rptr.injEq, PC.str.injEq, PC.int.injEq, true_and, and_true] at h'
    obtain ⟨rfl, rfl, rfl, rfl⟩ := h'
    rfl)
set_option maxHeartbeats 4000000 in
theorem abtI_sound (hΓ : SoundG Tryz.prog Γ) (h1 : Γ 169 = vAbC) : SoundC Tryz.prog 168 abtIC := by
  refine sound_fn Tryz.func168 (by kernel_rfl) rfl rfl ?_
  intro args objs r hr
  obtain ⟨⟨⟨kd, vw, ht, bl, tk, sg, sig⟩, ⟨m1, m2, m3⟩⟩, _, rfl, rfl, rfl⟩ := mkC_inv hr
  refine ⟨rfl, by show 2 ≤ _; decide, fun E hN hns hF => ?_⟩
  refine vc_sound hΓ mixed _ _ _ ?_
  have hN := hN.trans nt_168
  have q1 := vAb_at kd vw ht bl tk sg sig
  have q2 := eq_mk ⟨vw, ht, bl⟩ ⟨m1, m2, m3⟩
  unfold Vt.av isV
  unfold Mk.av at q1
  dsimp only at q1 q2 ⊢
  generalize decide ((⟨vw, ht, bl⟩ : Mk) = ⟨m1, m2, m3⟩) = e at q2 ⊢
  cases k1 : kd == 1 with
  | true =>
    simp only [runA, runB, runC, runD, runE, runF, fieldE, storeE, binE, ↓reduceIte, Nat.reduceLT, Nat.reduceLeDiff, Nat.reduceEqDiff, Nat.reduceAdd, Nat.reduceMul, Nat.reduceSub, reduceCtorEq, putAt, unE, Nat.reduceBEq, convE, buildE, List.replicate, Int.reduceLT, Int.reduceLE, Int.reduceToNat, mkE, mapSetE, hN, hF, ty_3, ty_4, ty_9, ty_74, ty_97, notIf, isEq, k1, h1, q1, eqg_mk, q2, Bool.true_and]
    refine drawnP_intro (by kernel_rfl) (by kernel_rfl) ?_
    simp only [runA, runB, runC, runD, runE, runF, fieldE, storeE, binE, ↓reduceIte, Nat.reduceLT, Nat.reduceLeDiff, Nat.reduceEqDiff, Nat.reduceAdd, Nat.reduceMul, Nat.reduceSub, reduceCtorEq, putAt, unE, Nat.reduceBEq, convE, buildE, List.replicate, Int.reduceLT, Int.reduceLE, Int.reduceToNat, mkE, mapSetE, hN, hF, ty_3, ty_4, ty_9, ty_74, ty_97, notIf, isEq, k1, h1, q1, eqg_mk, q2, Bool.true_and]
    simp only [runB, finC, finD, Option.isSome_some, Option.isSome_none, ↓reduceIte, Nat.reduceEqDiff, Nat.reduceAdd, Nat.reduceMul, forall_eq_or_imp, forall_eq, implies_true, Nat.reduceBEq, reduceCtorEq, false_implies, List.zip_cons_cons, List.zip_nil_left, List.zip_nil_right, Nat.reduceLeDiff, List.forall_mem_nil, rs_168, ty_3, ty_4, ty_9, ty_74, ty_97]
  | false =>
    simp only [runA, runB, runC, runD, runE, runF, fieldE, storeE, binE, ↓reduceIte, Nat.reduceLT, Nat.reduceLeDiff, Nat.reduceEqDiff, Nat.reduceAdd, Nat.reduceMul, Nat.reduceSub, reduceCtorEq, putAt, unE, Nat.reduceBEq, convE, buildE, List.replicate, Int.reduceLT, Int.reduceLE, Int.reduceToNat, mkE, mapSetE, hN, hF, ty_3, ty_4, ty_9, ty_74, ty_97, notIf, isEq, k1, Bool.false_and]
    refine drawnP_intro (by kernel_rfl) (by kernel_rfl) ?_
    simp only [runA, runB, runC, runD, runE, runF, fieldE, storeE, binE, ↓reduceIte, Nat.reduceLT, Nat.reduceLeDiff, Nat.reduceEqDiff, Nat.reduceAdd, Nat.reduceMul, Nat.reduceSub, reduceCtorEq, putAt, unE, Nat.reduceBEq, convE, buildE, List.replicate, Int.reduceLT, Int.reduceLE, Int.reduceToNat, mkE, mapSetE, hN, hF, ty_3, ty_4, ty_9, ty_74, ty_97, notIf, isEq, k1, Bool.false_and]
    simp only [runB, finC, finD, Option.isSome_some, Option.isSome_none, ↓reduceIte, Nat.reduceEqDiff, Nat.reduceAdd, Nat.reduceMul, forall_eq_or_imp, forall_eq, implies_true, Nat.reduceBEq, reduceCtorEq, false_implies, List.zip_cons_cons, List.zip_nil_left, List.zip_nil_right, Nat.reduceLeDiff, List.forall_mem_nil, rs_168, ty_3, ty_4, ty_9, ty_74, ty_97]

noncomputable def abtC : Contract := mkC (α := Mk) (fun _ => True) (fun m => [m.av]) (fun _ => []) (fun m => ⟨[.pv (.clo 168 [[.int .i64 m.vw, .int .i64 m.ht, .str m.bl]])], []⟩)
theorem abt_at (a b : Int) (c : List UInt8) : abtC [.agg [.c (.int .i64 a), .c (.int .i64 b), .c (.str c)]] [] = some ⟨[.pv (.clo 168 [[.int .i64 a, .int .i64 b, .str c]])], []⟩ :=
  mkC_at (α := Mk) ⟨a, b, c⟩ trivial (by
    rintro t' _ h _
    have h' : [t'.av] = [Mk.av ⟨a, b, c⟩] := h
    simp only [List.cons.injEq, Mk.av_iff, and_true] at h'
    rw [h'])
set_option maxHeartbeats 4000000 in
theorem abt_sound : SoundC Tryz.prog 120 abtC := by
  refine sound_fn Tryz.func120 (by kernel_rfl) rfl rfl ?_
  intro args objs r hr
  obtain ⟨⟨m1, m2, m3⟩, _, rfl, rfl, rfl⟩ := mkC_inv hr
  refine ⟨rfl, by show 1 ≤ _; decide, fun E hN hns hF => ?_⟩
  refine vc_sound none0_sound mixed _ _ _ ?_
  have hN := hN.trans nt_120
  unfold Mk.av
  dsimp only
  simp only [runA, runB, runC, runD, runE, runF, fieldE, storeE, binE, ↓reduceIte, Nat.reduceLT, Nat.reduceLeDiff, Nat.reduceEqDiff, Nat.reduceAdd, Nat.reduceMul, Nat.reduceSub, reduceCtorEq, putAt, unE, Nat.reduceBEq, convE, buildE, List.replicate, Int.reduceLT, Int.reduceLE, Int.reduceToNat, mkE, mapSetE, hN, hF, ty_3, ty_9, ty_74, notIf, isEq, op_makeFuncC, capE_nil, capE_ptr]
  simp only [runB, finC, finD, Option.isSome_some, Option.isSome_none, ↓reduceIte, Nat.reduceEqDiff, Nat.reduceAdd, Nat.reduceMul, forall_eq_or_imp, forall_eq, implies_true, Nat.reduceBEq, reduceCtorEq, false_implies, List.zip_cons_cons, List.zip_nil_left, List.zip_nil_right, Nat.reduceLeDiff, List.forall_mem_nil, rs_120, ty_3, ty_9, ty_74]


variable {Γ : FuncId → Contract}


theorem stepC_def (cvw cht : Int) (cbl : List UInt8) (cvs : List Vt) (roots : List (List UInt8)) (i : Nat) : stepC ⟨cvw, cht, cbl, cvs⟩ roots i = (isV ⟨cvw, cht, cbl⟩ (cvs.getD i zeroV) && ((decide (i = 0) || decide ((cvs.getD (i - 1) zeroV).sg < (cvs.getD i zeroV).sg)) && validV (cvs.getD i zeroV) roots)) := rfl
theorem votesG (l : List Vt) (i : Nat) (h : i < l.length) : (votes l)[i]? = some [.int .i64 (l.getD i zeroV).kd, .int .i64 (l.getD i zeroV).vw, .int .i64 (l.getD i zeroV).ht, .str (l.getD i zeroV).bl, .int .i64 (l.getD i zeroV).tk, .int .i64 (l.getD i zeroV).sg, .str (l.getD i zeroV).sig] := votesD l i h
noncomputable def ceckC : Contract := mkC (α := Ct × List (List UInt8) × Int) (fun p => p.1.vs.length ≤ 9223372036854775807 ∧ p.2.1.length ≤ 9223372036854775807) (fun p => [p.1.av, .c (.sl (texts p.2.1)), .c (.int .i64 p.2.2)]) (fun p => []) (fun p => ⟨[.pv (.c (.int .i64 (ctS p.1 p.2.1 p.2.2)))], []⟩)
theorem ceck_at (cvw : Int) (cht : Int) (cbl : List UInt8) (cvs : List Vt) (roots : List (List UInt8)) (q : Int) (g0 : cvs.length ≤ 9223372036854775807) (g1 : roots.length ≤ 9223372036854775807) : ceckC [(.agg [.c (.int .i64 cvw), .c (.int .i64 cht), .c (.str cbl), .c (.sl (votes cvs))]), .c (.sl (texts roots)), .c (.int .i64 q)] [] = some ⟨[.pv (.c (.int .i64 (ctS (⟨cvw, cht, cbl, cvs⟩ : Ct) roots q)))], []⟩ := by
  exact mkC_at (α := Ct × List (List UInt8) × Int) (⟨cvw, cht, cbl, cvs⟩, roots, q) ⟨g0, g1⟩ (by
    rintro ⟨c', roots', q'⟩ _ h ho
    have hh := And.intro h ho
    clear h ho
    simp only [List.cons.injEq, AV.c.injEq, AV.agg.injEq, PC.int.injEq, PC.str.injEq, PC.bool.injEq, PC.sl.injEq, OV.c.injEq, OV.own.injEq, OV.mp.injEq, bytes_iff, texts_iff, true_and, and_true, and_self, beq_self_eq_true, Ct.av_iff] at hh
    simp only [hh])

set_option maxRecDepth 100000 in
set_option maxHeartbeats 4000000 in
theorem ceck_sound (hΓ : SoundG Tryz.prog Γ) (h2 : Γ 80 = cmkC) (h3 : Γ 81 = cfirstC) (h5 : Γ 120 = abtC) (h6 : Γ 168 = abtIC) (h7 : Γ 121 = voVaC) : SoundC Tryz.prog 65 ceckC := by
  refine sound_fn Tryz.func65 (by kernel_rfl) rfl rfl ?_
  intro args objs r0 hr
  obtain ⟨⟨⟨cvw, cht, cbl, cvs⟩, roots, q⟩, ⟨hvs, hro⟩, rfl, rfl, rfl⟩ := mkC_inv hr
  refine ⟨rfl, by show 3 ≤ _; decide, fun E hN hns hF => ?_⟩
  refine vc_sound hΓ mixed _ _ _ ?_
  have hN := hN.trans nt_65
  have hvs : cvs.length ≤ 9223372036854775807 := hvs
  have hro : roots.length ≤ 9223372036854775807 := hro
  have hlen := votes_length cvs
  have qm := cmk_at cvw cht cbl cvs
  have qm0 := cmk_at 0 0 genS []
  have qf : cfirstC [] [] = some ⟨[.pv (.agg [.c (.int .i64 0), .c (.int .i64 0), .c (.str genS), .c (.sl [])])], []⟩ := rfl
  have qe := eq_mk ⟨cvw, cht, cbl⟩ ⟨0, 0, genS⟩
  have qa := abt_at cvw cht cbl
  rw [votes_nil] at qm0
  have nt1 : (!true) = false := rfl
  have ntf : (!false) = true := rfl
  unfold Ct.av
  unfold Mk.av at qm qm0
  dsimp only at qm qm0 qe ⊢
  obtain ⟨R, hR⟩ : ∃ R, R = ctS ⟨cvw, cht, cbl, cvs⟩ roots q := ⟨_, rfl⟩
  rw [← hR]
  by_cases c1 : cvs = []
  · have g1 : ((cvs.length : Int) == 0) = true := by rw [c1]; rfl
    by_cases c0 : (⟨cvw, cht, cbl⟩ : Mk) = ⟨0, 0, genS⟩
    · have hr : R = 0 := by rw [hR]; unfold ctS; rw [if_pos ⟨c1, c0⟩]
      rw [decide_eq_true c0] at qe
      rw [hr]
      generalize genS = gg at qf qm0 qe
      simp only [runA, runB, runC, runD, runE, runF, fieldE, storeE, binE, ↓reduceIte, Nat.reduceLT, Nat.reduceLeDiff, Nat.reduceEqDiff, Nat.reduceAdd, Nat.reduceMul, Nat.reduceSub, reduceCtorEq, putAt, unE, Nat.reduceBEq, convE, buildE, List.replicate, Int.reduceLT, Int.reduceLE, Int.reduceToNat, mkE, mapSetE, hN, hF, ty_3, ty_4, ty_9, ty_24, ty_29, ty_31, ty_37, ty_74, ty_97, notIf, isEq, hlen, g1, h2, qm, h3, qf, qm0, eqg_mk, qe]
      simp only [runB, finC, finD, Option.isSome_some, Option.isSome_none, ↓reduceIte, Nat.reduceEqDiff, Nat.reduceAdd, Nat.reduceMul, forall_eq_or_imp, forall_eq, implies_true, Nat.reduceBEq, reduceCtorEq, false_implies, List.zip_cons_cons, List.zip_nil_left, List.zip_nil_right, Nat.reduceLeDiff, List.forall_mem_nil, rs_65, ty_3, ty_4, ty_9, ty_24, ty_29, ty_31, ty_37, ty_74, ty_97]
    · have hnf : ¬ (cvs = [] ∧ (⟨cvw, cht, cbl⟩ : Mk) = ⟨0, 0, genS⟩) := fun h => c0 h.2
      rw [decide_eq_false c0] at qe
      by_cases c2 : q < 1
      · have k2 : decide (q < 1) = true := decide_eq_true c2
        have hr : R = 41 := by rw [hR]; unfold ctS; rw [if_neg hnf, if_pos (.inl c2)]
        rw [hr]
        simp only [runA, runB, runC, runD, runE, runF, fieldE, storeE, binE, ↓reduceIte, Nat.reduceLT, Nat.reduceLeDiff, Nat.reduceEqDiff, Nat.reduceAdd, Nat.reduceMul, Nat.reduceSub, reduceCtorEq, putAt, unE, Nat.reduceBEq, convE, buildE, List.replicate, Int.reduceLT, Int.reduceLE, Int.reduceToNat, mkE, mapSetE, hN, hF, ty_3, ty_4, ty_9, ty_24, ty_29, ty_31, ty_37, ty_74, ty_97, notIf, isEq, hlen, nt1, ntf, g1, h2, qm, h3, qf, qm0, eqg_mk, qe, k2]
        simp only [runB, finC, finD, Option.isSome_some, Option.isSome_none, ↓reduceIte, Nat.reduceEqDiff, Nat.reduceAdd, Nat.reduceMul, forall_eq_or_imp, forall_eq, implies_true, Nat.reduceBEq, reduceCtorEq, false_implies, List.zip_cons_cons, List.zip_nil_left, List.zip_nil_right, Nat.reduceLeDiff, List.forall_mem_nil, rs_65, ty_3, ty_4, ty_9, ty_24, ty_29, ty_31, ty_37, ty_74, ty_97]
      have k2 : decide (q < 1) = false := decide_eq_false c2
      by_cases c3 : (cvs.length : Int) = q
      case neg =>
        have k3 : ((cvs.length : Int) != q) = true := by rw [bne_iff_ne]; exact c3
        have hr : R = 41 := by rw [hR]; unfold ctS; rw [if_neg hnf, if_pos (.inr c3)]
        rw [hr]
        simp only [runA, runB, runC, runD, runE, runF, fieldE, storeE, binE, ↓reduceIte, Nat.reduceLT, Nat.reduceLeDiff, Nat.reduceEqDiff, Nat.reduceAdd, Nat.reduceMul, Nat.reduceSub, reduceCtorEq, putAt, unE, Nat.reduceBEq, convE, buildE, List.replicate, Int.reduceLT, Int.reduceLE, Int.reduceToNat, mkE, mapSetE, hN, hF, ty_3, ty_4, ty_9, ty_24, ty_29, ty_31, ty_37, ty_74, ty_97, notIf, isEq, hlen, nt1, ntf, g1, h2, qm, h3, qf, qm0, eqg_mk, qe, k2, k3]
        simp only [runB, finC, finD, Option.isSome_some, Option.isSome_none, ↓reduceIte, Nat.reduceEqDiff, Nat.reduceAdd, Nat.reduceMul, forall_eq_or_imp, forall_eq, implies_true, Nat.reduceBEq, reduceCtorEq, false_implies, List.zip_cons_cons, List.zip_nil_left, List.zip_nil_right, Nat.reduceLeDiff, List.forall_mem_nil, rs_65, ty_3, ty_4, ty_9, ty_24, ty_29, ty_31, ty_37, ty_74, ty_97]
      have k3 : ((cvs.length : Int) != q) = false := by rw [c3, bne_self_eq_false]
      have hR2 : R = (if ∀ i, i < cvs.length → stepC ⟨cvw, cht, cbl, cvs⟩ roots i = true then 0 else 41) := by rw [hR]; unfold ctS; rw [if_neg hnf, if_neg (by rintro (h | h); exact c2 h; exact h c3)]
      simp only [runA, runB, runC, runD, runE, runF, fieldE, storeE, binE, ↓reduceIte, Nat.reduceLT, Nat.reduceLeDiff, Nat.reduceEqDiff, Nat.reduceAdd, Nat.reduceMul, Nat.reduceSub, reduceCtorEq, putAt, unE, Nat.reduceBEq, convE, buildE, List.replicate, Int.reduceLT, Int.reduceLE, Int.reduceToNat, mkE, mapSetE, hN, hF, ty_3, ty_4, ty_9, ty_24, ty_29, ty_31, ty_37, ty_74, ty_97, notIf, isEq, hlen, nt1, ntf, g1, h2, qm, h3, qf, qm0, eqg_mk, qe, k2, k3, qa, h5]
      refine AWP.loop (fun k st => ∃ i : Nat, (i ≤ cvs.length ∧ ∀ j, j < i → stepC ⟨cvw, cht, cbl, cvs⟩ roots j = true) ∧ k = cvs.length - i ∧ st = ⟨[(1, .c (.sl (texts roots))), (3, .ptr 192 0), (7, .clo 168 [[.int .i64 cvw, .int .i64 cht, .str cbl]]), (34, .c (.sl (votes cvs))), (35, .c (.int .i64 (cvs.length : Int))), (36, .c (.int .i64 (i : Int)))], [(192, .obj [.c (.int .i64 cvw), .c (.int .i64 cht), .c (.str cbl), .c (.sl (votes cvs))] false)]⟩) ⟨cvs.length, _, ?w, 0, ⟨Nat.zero_le _, fun j hj => absurd hj (by omega)⟩, rfl, rfl⟩ ?r
      case w =>
        rw [hns]
        simp only [runB, finC, finD, AS.get, AS.mem, false_implies, implies_true, ↓reduceIte, Nat.reduceEqDiff, Option.isSome_some, Option.isSome_none, forall_eq_or_imp, forall_eq, reduceCtorEq, Nat.reduceAdd, Nat.reduceMul, List.zip_cons_cons, List.zip_nil_left, List.zip_nil_right, List.forall_mem_nil]
        first | done | simp
      case r =>
        rintro k st ⟨i, ⟨hi, hall⟩, rfl, rfl⟩
        refine vc_sound hΓ mixed _ _ _ ?_
        by_cases hlt : i < cvs.length
        case neg =>
          obtain rfl : i = cvs.length := by omega
          have k4 : decide (((cvs.length : Nat) : Int) < (cvs.length : Int)) = false := decide_eq_false (by omega)
          have hr : R = 0 := by rw [hR2]; exact if_pos hall
          rw [hr]
          simp only [runA, runB, runC, runD, runE, runF, fieldE, storeE, binE, ↓reduceIte, Nat.reduceLT, Nat.reduceLeDiff, Nat.reduceEqDiff, Nat.reduceAdd, Nat.reduceMul, Nat.reduceSub, reduceCtorEq, putAt, unE, Nat.reduceBEq, convE, buildE, List.replicate, Int.reduceLT, Int.reduceLE, Int.reduceToNat, mkE, mapSetE, hN, hF, ty_3, ty_4, ty_9, ty_24, ty_29, ty_31, ty_37, ty_74, ty_97, notIf, isEq, hlen, nt1, ntf, g1, h2, qm, h3, qf, qm0, eqg_mk, qe, k4]
          simp only [runB, finC, finD, Option.isSome_some, Option.isSome_none, ↓reduceIte, Nat.reduceEqDiff, Nat.reduceAdd, Nat.reduceMul, forall_eq_or_imp, forall_eq, implies_true, Nat.reduceBEq, reduceCtorEq, false_implies, List.zip_cons_cons, List.zip_nil_left, List.zip_nil_right, Nat.reduceLeDiff, List.forall_mem_nil, rs_65, ty_3, ty_4, ty_9, ty_24, ty_29, ty_31, ty_37, ty_74, ty_97]
        have k4 : decide ((i : Int) < (cvs.length : Int)) = true := decide_eq_true (by omega)
        have e1 : IntKind.i64.wrap ((i : Int) + 1) = (i : Int) + 1 := wrapI (by omega)
        have hy := votesG cvs i hlt
        have hs := stepC_def cvw cht cbl cvs roots i
        have hbad : stepC ⟨cvw, cht, cbl, cvs⟩ roots i = false → R = 41 := fun h => by rw [hR2]; exact if_neg (fun ha => by rw [ha i hlt] at h; cases h)
        have hnext : stepC ⟨cvw, cht, cbl, cvs⟩ roots i = true → ∀ j, j < i + 1 → stepC ⟨cvw, cht, cbl, cvs⟩ roots j = true := fun h j hj => by
          by_cases e : j = i
          · rw [e]; exact h
          · exact hall j (by omega)
        have hprev : 0 < i → (votes cvs)[i - 1]? = some [.int .i64 (cvs.getD (i - 1) zeroV).kd, .int .i64 (cvs.getD (i - 1) zeroV).vw, .int .i64 (cvs.getD (i - 1) zeroV).ht, .str (cvs.getD (i - 1) zeroV).bl, .int .i64 (cvs.getD (i - 1) zeroV).tk, .int .i64 (cvs.getD (i - 1) zeroV).sg, .str (cvs.getD (i - 1) zeroV).sig] := fun h => votesG cvs (i - 1) (by omega)
        generalize cvs.getD i zeroV = y at hy hs
        generalize cvs.getD (i - 1) zeroV = p at hs hprev
        have qv := voVa_at y roots hro
        have q1 := abtI_at y ⟨cvw, cht, cbl⟩
        dsimp only at q1
        cases v1 : isV ⟨cvw, cht, cbl⟩ y with
        | false =>
          rw [v1] at q1
          rw [hbad (by rw [hs, v1]; simp)]
          simp only [runA, runB, runC, runD, runE, runF, fieldE, storeE, binE, ↓reduceIte, Nat.reduceLT, Nat.reduceLeDiff, Nat.reduceEqDiff, Nat.reduceAdd, Nat.reduceMul, Nat.reduceSub, reduceCtorEq, putAt, unE, Nat.reduceBEq, convE, buildE, List.replicate, Int.reduceLT, Int.reduceLE, Int.reduceToNat, mkE, mapSetE, hN, hF, ty_3, ty_4, ty_9, ty_24, ty_29, ty_31, ty_37, ty_74, ty_97, notIf, isEq, hlen, nt1, ntf, g1, h2, qm, h3, qf, qm0, eqg_mk, qe, k4, e1, hy, h6, q1]
          refine drawnP_intro (by kernel_rfl) (by kernel_rfl) ?_
          simp only [runA, runB, runC, runD, runE, runF, fieldE, storeE, binE, ↓reduceIte, Nat.reduceLT, Nat.reduceLeDiff, Nat.reduceEqDiff, Nat.reduceAdd, Nat.reduceMul, Nat.reduceSub, reduceCtorEq, putAt, unE, Nat.reduceBEq, convE, buildE, List.replicate, Int.reduceLT, Int.reduceLE, Int.reduceToNat, mkE, mapSetE, hN, hF, ty_3, ty_4, ty_9, ty_24, ty_29, ty_31, ty_37, ty_74, ty_97, notIf, isEq, hlen, nt1, ntf, g1, h2, qm, h3, qf, qm0, eqg_mk, qe, k4, e1, hy, h6, q1]
          simp only [runB, finC, finD, Option.isSome_some, Option.isSome_none, ↓reduceIte, Nat.reduceEqDiff, Nat.reduceAdd, Nat.reduceMul, forall_eq_or_imp, forall_eq, implies_true, Nat.reduceBEq, reduceCtorEq, false_implies, List.zip_cons_cons, List.zip_nil_left, List.zip_nil_right, Nat.reduceLeDiff, List.forall_mem_nil, rs_65, ty_3, ty_4, ty_9, ty_24, ty_29, ty_31, ty_37, ty_74, ty_97]
        | true =>
          rw [v1] at q1
          by_cases hi0 : i = 0
          · have g5 : decide ((i : Int) > 0) = false := decide_eq_false (by omega)
            cases v2 : validV y roots with
            | false =>
              rw [v2] at qv
              rw [hbad (by rw [hs, v1, decide_eq_true hi0, v2]; simp)]
              simp only [runA, runB, runC, runD, runE, runF, fieldE, storeE, binE, ↓reduceIte, Nat.reduceLT, Nat.reduceLeDiff, Nat.reduceEqDiff, Nat.reduceAdd, Nat.reduceMul, Nat.reduceSub, reduceCtorEq, putAt, unE, Nat.reduceBEq, convE, buildE, List.replicate, Int.reduceLT, Int.reduceLE, Int.reduceToNat, mkE, mapSetE, hN, hF, ty_3, ty_4, ty_9, ty_24, ty_29, ty_31, ty_37, ty_74, ty_97, notIf, isEq, hlen, nt1, ntf, g1, h2, qm, h3, qf, qm0, eqg_mk, qe, k4, e1, hy, h6, q1, g5, h7, qv]
              refine drawnP_intro (by kernel_rfl) (by kernel_rfl) ?_
              simp only [runA, runB, runC, runD, runE, runF, fieldE, storeE, binE, ↓reduceIte, Nat.reduceLT, Nat.reduceLeDiff, Nat.reduceEqDiff, Nat.reduceAdd, Nat.reduceMul, Nat.reduceSub, reduceCtorEq, putAt, unE, Nat.reduceBEq, convE, buildE, List.replicate, Int.reduceLT, Int.reduceLE, Int.reduceToNat, mkE, mapSetE, hN, hF, ty_3, ty_4, ty_9, ty_24, ty_29, ty_31, ty_37, ty_74, ty_97, notIf, isEq, hlen, nt1, ntf, g1, h2, qm, h3, qf, qm0, eqg_mk, qe, k4, e1, hy, h6, q1, g5, h7, qv]
              simp only [runB, finC, finD, Option.isSome_some, Option.isSome_none, ↓reduceIte, Nat.reduceEqDiff, Nat.reduceAdd, Nat.reduceMul, forall_eq_or_imp, forall_eq, implies_true, Nat.reduceBEq, reduceCtorEq, false_implies, List.zip_cons_cons, List.zip_nil_left, List.zip_nil_right, Nat.reduceLeDiff, List.forall_mem_nil, rs_65, ty_3, ty_4, ty_9, ty_24, ty_29, ty_31, ty_37, ty_74, ty_97]
            | true =>
              rw [v2] at qv
              have hst := hnext (by rw [hs, v1, decide_eq_true hi0, v2]; simp)
              simp only [runA, runB, runC, runD, runE, runF, fieldE, storeE, binE, ↓reduceIte, Nat.reduceLT, Nat.reduceLeDiff, Nat.reduceEqDiff, Nat.reduceAdd, Nat.reduceMul, Nat.reduceSub, reduceCtorEq, putAt, unE, Nat.reduceBEq, convE, buildE, List.replicate, Int.reduceLT, Int.reduceLE, Int.reduceToNat, mkE, mapSetE, hN, hF, ty_3, ty_4, ty_9, ty_24, ty_29, ty_31, ty_37, ty_74, ty_97, notIf, isEq, hlen, nt1, ntf, g1, h2, qm, h3, qf, qm0, eqg_mk, qe, k4, e1, hy, h6, q1, g5, h7, qv]
              refine drawnP_intro (by kernel_rfl) (by kernel_rfl) ?_
              simp only [runA, runB, runC, runD, runE, runF, fieldE, storeE, binE, ↓reduceIte, Nat.reduceLT, Nat.reduceLeDiff, Nat.reduceEqDiff, Nat.reduceAdd, Nat.reduceMul, Nat.reduceSub, reduceCtorEq, putAt, unE, Nat.reduceBEq, convE, buildE, List.replicate, Int.reduceLT, Int.reduceLE, Int.reduceToNat, mkE, mapSetE, hN, hF, ty_3, ty_4, ty_9, ty_24, ty_29, ty_31, ty_37, ty_74, ty_97, notIf, isEq, hlen, nt1, ntf, g1, h2, qm, h3, qf, qm0, eqg_mk, qe, k4, e1, hy, h6, q1, g5, h7, qv]
              refine ⟨cvs.length - (i + 1), _, by omega, ?_, i + 1, ⟨by omega, hst⟩, rfl, rfl⟩
              rw [hns]
              simp only [runB, finC, finD, AS.get, AS.mem, false_implies, implies_true, ↓reduceIte, Nat.reduceEqDiff, Option.isSome_some, Option.isSome_none, forall_eq_or_imp, forall_eq, reduceCtorEq, Nat.reduceAdd, Nat.reduceMul, List.zip_cons_cons, List.zip_nil_left, List.zip_nil_right, List.forall_mem_nil]
              first | done | simp
          · have g5 : decide ((i : Int) > 0) = true := decide_eq_true (by omega)
            have e6 : IntKind.i64.wrap ((i : Int) - 1) = ((i - 1 : Nat) : Int) := by rw [wrapI (by omega)]; omega
            have hp := hprev (by omega)
            by_cases hsg : p.sg < y.sg
            case neg =>
              have g6 : decide (p.sg ≥ y.sg) = true := decide_eq_true (by omega)
              rw [hbad (by rw [hs, v1, decide_eq_false hi0, decide_eq_false hsg]; simp)]
              simp only [runA, runB, runC, runD, runE, runF, fieldE, storeE, binE, ↓reduceIte, Nat.reduceLT, Nat.reduceLeDiff, Nat.reduceEqDiff, Nat.reduceAdd, Nat.reduceMul, Nat.reduceSub, reduceCtorEq, putAt, unE, Nat.reduceBEq, convE, buildE, List.replicate, Int.reduceLT, Int.reduceLE, Int.reduceToNat, mkE, mapSetE, hN, hF, ty_3, ty_4, ty_9, ty_24, ty_29, ty_31, ty_37, ty_74, ty_97, notIf, isEq, hlen, nt1, ntf, g1, h2, qm, h3, qf, qm0, eqg_mk, qe, k4, e1, hy, h6, q1, g5, e6, hp, g6]
              refine drawnP_intro (by kernel_rfl) (by kernel_rfl) ?_
              simp only [runA, runB, runC, runD, runE, runF, fieldE, storeE, binE, ↓reduceIte, Nat.reduceLT, Nat.reduceLeDiff, Nat.reduceEqDiff, Nat.reduceAdd, Nat.reduceMul, Nat.reduceSub, reduceCtorEq, putAt, unE, Nat.reduceBEq, convE, buildE, List.replicate, Int.reduceLT, Int.reduceLE, Int.reduceToNat, mkE, mapSetE, hN, hF, ty_3, ty_4, ty_9, ty_24, ty_29, ty_31, ty_37, ty_74, ty_97, notIf, isEq, hlen, nt1, ntf, g1, h2, qm, h3, qf, qm0, eqg_mk, qe, k4, e1, hy, h6, q1, g5, e6, hp, g6]
              simp only [runB, finC, finD, Option.isSome_some, Option.isSome_none, ↓reduceIte, Nat.reduceEqDiff, Nat.reduceAdd, Nat.reduceMul, forall_eq_or_imp, forall_eq, implies_true, Nat.reduceBEq, reduceCtorEq, false_implies, List.zip_cons_cons, List.zip_nil_left, List.zip_nil_right, Nat.reduceLeDiff, List.forall_mem_nil, rs_65, ty_3, ty_4, ty_9, ty_24, ty_29, ty_31, ty_37, ty_74, ty_97]
            have g6 : decide (p.sg ≥ y.sg) = false := decide_eq_false (by omega)
            cases v2 : validV y roots with
            | false =>
              rw [v2] at qv
              rw [hbad (by rw [hs, v1, decide_eq_false hi0, decide_eq_true hsg, v2]; simp)]
              simp only [runA, runB, runC, runD, runE, runF, fieldE, storeE, binE, ↓reduceIte, Nat.reduceLT, Nat.reduceLeDiff, Nat.reduceEqDiff, Nat.reduceAdd, Nat.reduceMul, Nat.reduceSub, reduceCtorEq, putAt, unE, Nat.reduceBEq, convE, buildE, List.replicate, Int.reduceLT, Int.reduceLE, Int.reduceToNat, mkE, mapSetE, hN, hF, ty_3, ty_4, ty_9, ty_24, ty_29, ty_31, ty_37, ty_74, ty_97, notIf, isEq, hlen, nt1, ntf, g1, h2, qm, h3, qf, qm0, eqg_mk, qe, k4, e1, hy, h6, q1, g5, e6, hp, g6, h7, qv]
              refine drawnP_intro (by kernel_rfl) (by kernel_rfl) ?_
              simp only [runA, runB, runC, runD, runE, runF, fieldE, storeE, binE, ↓reduceIte, Nat.reduceLT, Nat.reduceLeDiff, Nat.reduceEqDiff, Nat.reduceAdd, Nat.reduceMul, Nat.reduceSub, reduceCtorEq, putAt, unE, Nat.reduceBEq, convE, buildE, List.replicate, Int.reduceLT, Int.reduceLE, Int.reduceToNat, mkE, mapSetE, hN, hF, ty_3, ty_4, ty_9, ty_24, ty_29, ty_31, ty_37, ty_74, ty_97, notIf, isEq, hlen, nt1, ntf, g1, h2, qm, h3, qf, qm0, eqg_mk, qe, k4, e1, hy, h6, q1, g5, e6, hp, g6, h7, qv]
              simp only [runB, finC, finD, Option.isSome_some, Option.isSome_none, ↓reduceIte, Nat.reduceEqDiff, Nat.reduceAdd, Nat.reduceMul, forall_eq_or_imp, forall_eq, implies_true, Nat.reduceBEq, reduceCtorEq, false_implies, List.zip_cons_cons, List.zip_nil_left, List.zip_nil_right, Nat.reduceLeDiff, List.forall_mem_nil, rs_65, ty_3, ty_4, ty_9, ty_24, ty_29, ty_31, ty_37, ty_74, ty_97]
            | true =>
              rw [v2] at qv
              have hst := hnext (by rw [hs, v1, decide_eq_false hi0, decide_eq_true hsg, v2]; simp)
              simp only [runA, runB, runC, runD, runE, runF, fieldE, storeE, binE, ↓reduceIte, Nat.reduceLT, Nat.reduceLeDiff, Nat.reduceEqDiff, Nat.reduceAdd, Nat.reduceMul, Nat.reduceSub, reduceCtorEq, putAt, unE, Nat.reduceBEq, convE, buildE, List.replicate, Int.reduceLT, Int.reduceLE, Int.reduceToNat, mkE, mapSetE, hN, hF, ty_3, ty_4, ty_9, ty_24, ty_29, ty_31, ty_37, ty_74, ty_97, notIf, isEq, hlen, nt1, ntf, g1, h2, qm, h3, qf, qm0, eqg_mk, qe, k4, e1, hy, h6, q1, g5, e6, hp, g6, h7, qv]
              refine drawnP_intro (by kernel_rfl) (by kernel_rfl) ?_
              simp only [runA, runB, runC, runD, runE, runF, fieldE, storeE, binE, ↓reduceIte, Nat.reduceLT, Nat.reduceLeDiff, Nat.reduceEqDiff, Nat.reduceAdd, Nat.reduceMul, Nat.reduceSub, reduceCtorEq, putAt, unE, Nat.reduceBEq, convE, buildE, List.replicate, Int.reduceLT, Int.reduceLE, Int.reduceToNat, mkE, mapSetE, hN, hF, ty_3, ty_4, ty_9, ty_24, ty_29, ty_31, ty_37, ty_74, ty_97, notIf, isEq, hlen, nt1, ntf, g1, h2, qm, h3, qf, qm0, eqg_mk, qe, k4, e1, hy, h6, q1, g5, e6, hp, g6, h7, qv]
              refine ⟨cvs.length - (i + 1), _, by omega, ?_, i + 1, ⟨by omega, hst⟩, rfl, rfl⟩
              rw [hns]
              simp only [runB, finC, finD, AS.get, AS.mem, false_implies, implies_true, ↓reduceIte, Nat.reduceEqDiff, Option.isSome_some, Option.isSome_none, forall_eq_or_imp, forall_eq, reduceCtorEq, Nat.reduceAdd, Nat.reduceMul, List.zip_cons_cons, List.zip_nil_left, List.zip_nil_right, List.forall_mem_nil]
              first | done | simp
  · have g1 : ((cvs.length : Int) == 0) = false := beq_eq_false_iff_ne.2 (fun h => c1 (List.length_eq_zero_iff.1 (by omega)))
    have hnf : ¬ (cvs = [] ∧ (⟨cvw, cht, cbl⟩ : Mk) = ⟨0, 0, genS⟩) := fun h => c1 h.1
    by_cases c2 : q < 1
    · have k2 : decide (q < 1) = true := decide_eq_true c2
      have hr : R = 41 := by rw [hR]; unfold ctS; rw [if_neg hnf, if_pos (.inl c2)]
      rw [hr]
      simp only [runA, runB, runC, runD, runE, runF, fieldE, storeE, binE, ↓reduceIte, Nat.reduceLT, Nat.reduceLeDiff, Nat.reduceEqDiff, Nat.reduceAdd, Nat.reduceMul, Nat.reduceSub, reduceCtorEq, putAt, unE, Nat.reduceBEq, convE, buildE, List.replicate, Int.reduceLT, Int.reduceLE, Int.reduceToNat, mkE, mapSetE, hN, hF, ty_3, ty_4, ty_9, ty_24, ty_29, ty_31, ty_37, ty_74, ty_97, notIf, isEq, hlen, nt1, ntf, g1, h2, qm, k2]
      simp only [runB, finC, finD, Option.isSome_some, Option.isSome_none, ↓reduceIte, Nat.reduceEqDiff, Nat.reduceAdd, Nat.reduceMul, forall_eq_or_imp, forall_eq, implies_true, Nat.reduceBEq, reduceCtorEq, false_implies, List.zip_cons_cons, List.zip_nil_left, List.zip_nil_right, Nat.reduceLeDiff, List.forall_mem_nil, rs_65, ty_3, ty_4, ty_9, ty_24, ty_29, ty_31, ty_37, ty_74, ty_97]
    have k2 : decide (q < 1) = false := decide_eq_false c2
    by_cases c3 : (cvs.length : Int) = q
    case neg =>
      have k3 : ((cvs.length : Int) != q) = true := by rw [bne_iff_ne]; exact c3
      have hr : R = 41 := by rw [hR]; unfold ctS; rw [if_neg hnf, if_pos (.inr c3)]
      rw [hr]
      simp only [runA, runB, runC, runD, runE, runF, fieldE, storeE, binE, ↓reduceIte, Nat.reduceLT, Nat.reduceLeDiff, Nat.reduceEqDiff, Nat.reduceAdd, Nat.reduceMul, Nat.reduceSub, reduceCtorEq, putAt, unE, Nat.reduceBEq, convE, buildE, List.replicate, Int.reduceLT, Int.reduceLE, Int.reduceToNat, mkE, mapSetE, hN, hF, ty_3, ty_4, ty_9, ty_24, ty_29, ty_31, ty_37, ty_74, ty_97, notIf, isEq, hlen, nt1, ntf, g1, h2, qm, k2, k3]
      simp only [runB, finC, finD, Option.isSome_some, Option.isSome_none, ↓reduceIte, Nat.reduceEqDiff, Nat.reduceAdd, Nat.reduceMul, forall_eq_or_imp, forall_eq, implies_true, Nat.reduceBEq, reduceCtorEq, false_implies, List.zip_cons_cons, List.zip_nil_left, List.zip_nil_right, Nat.reduceLeDiff, List.forall_mem_nil, rs_65, ty_3, ty_4, ty_9, ty_24, ty_29, ty_31, ty_37, ty_74, ty_97]
    have k3 : ((cvs.length : Int) != q) = false := by rw [c3, bne_self_eq_false]
    have hR2 : R = (if ∀ i, i < cvs.length → stepC ⟨cvw, cht, cbl, cvs⟩ roots i = true then 0 else 41) := by rw [hR]; unfold ctS; rw [if_neg hnf, if_neg (by rintro (h | h); exact c2 h; exact h c3)]
    simp only [runA, runB, runC, runD, runE, runF, fieldE, storeE, binE, ↓reduceIte, Nat.reduceLT, Nat.reduceLeDiff, Nat.reduceEqDiff, Nat.reduceAdd, Nat.reduceMul, Nat.reduceSub, reduceCtorEq, putAt, unE, Nat.reduceBEq, convE, buildE, List.replicate, Int.reduceLT, Int.reduceLE, Int.reduceToNat, mkE, mapSetE, hN, hF, ty_3, ty_4, ty_9, ty_24, ty_29, ty_31, ty_37, ty_74, ty_97, notIf, isEq, hlen, nt1, ntf, g1, h2, qm, k2, k3, qa, h5]
    refine AWP.loop (fun k st => ∃ i : Nat, (i ≤ cvs.length ∧ ∀ j, j < i → stepC ⟨cvw, cht, cbl, cvs⟩ roots j = true) ∧ k = cvs.length - i ∧ st = ⟨[(1, .c (.sl (texts roots))), (3, .ptr 192 0), (7, .clo 168 [[.int .i64 cvw, .int .i64 cht, .str cbl]]), (34, .c (.sl (votes cvs))), (35, .c (.int .i64 (cvs.length : Int))), (36, .c (.int .i64 (i : Int)))], [(192, .obj [.c (.int .i64 cvw), .c (.int .i64 cht), .c (.str cbl), .c (.sl (votes cvs))] false)]⟩) ⟨cvs.length, _, ?w, 0, ⟨Nat.zero_le _, fun j hj => absurd hj (by omega)⟩, rfl, rfl⟩ ?r
    case w =>
      rw [hns]
      simp only [runB, finC, finD, AS.get, AS.mem, false_implies, implies_true, ↓reduceIte, Nat.reduceEqDiff, Option.isSome_some, Option.isSome_none, forall_eq_or_imp, forall_eq, reduceCtorEq, Nat.reduceAdd, Nat.reduceMul, List.zip_cons_cons, List.zip_nil_left, List.zip_nil_right, List.forall_mem_nil]
      first | done | simp
    case r =>
      rintro k st ⟨i, ⟨hi, hall⟩, rfl, rfl⟩
      refine vc_sound hΓ mixed _ _ _ ?_
      by_cases hlt : i < cvs.length
      case neg =>
        obtain rfl : i = cvs.length := by omega
        have k4 : decide (((cvs.length : Nat) : Int) < (cvs.length : Int)) = false := decide_eq_false (by omega)
        have hr : R = 0 := by rw [hR2]; exact if_pos hall
        rw [hr]
        simp only [runA, runB, runC, runD, runE, runF, fieldE, storeE, binE, ↓reduceIte, Nat.reduceLT, Nat.reduceLeDiff, Nat.reduceEqDiff, Nat.reduceAdd, Nat.reduceMul, Nat.reduceSub, reduceCtorEq, putAt, unE, Nat.reduceBEq, convE, buildE, List.replicate, Int.reduceLT, Int.reduceLE, Int.reduceToNat, mkE, mapSetE, hN, hF, ty_3, ty_4, ty_9, ty_24, ty_29, ty_31, ty_37, ty_74, ty_97, notIf, isEq, hlen, nt1, ntf, g1, h2, qm, k4]
        simp only [runB, finC, finD, Option.isSome_some, Option.isSome_none, ↓reduceIte, Nat.reduceEqDiff, Nat.reduceAdd, Nat.reduceMul, forall_eq_or_imp, forall_eq, implies_true, Nat.reduceBEq, reduceCtorEq, false_implies, List.zip_cons_cons, List.zip_nil_left, List.zip_nil_right, Nat.reduceLeDiff, List.forall_mem_nil, rs_65, ty_3, ty_4, ty_9, ty_24, ty_29, ty_31, ty_37, ty_74, ty_97]
      have k4 : decide ((i : Int) < (cvs.length : Int)) = true := decide_eq_true (by omega)
      have e1 : IntKind.i64.wrap ((i : Int) + 1) = (i : Int) + 1 := wrapI (by omega)
      have hy := votesG cvs i hlt
      have hs := stepC_def cvw cht cbl cvs roots i
      have hbad : stepC ⟨cvw, cht, cbl, cvs⟩ roots i = false → R = 41 := fun h => by rw [hR2]; exact if_neg (fun ha => by rw [ha i hlt] at h; cases h)
      have hnext : stepC ⟨cvw, cht, cbl, cvs⟩ roots i = true → ∀ j, j < i + 1 → stepC ⟨cvw, cht, cbl, cvs⟩ roots j = true := fun h j hj => by
        by_cases e : j = i
        · rw [e]; exact h
        · exact hall j (by omega)
      have hprev : 0 < i → (votes cvs)[i - 1]? = some [.int .i64 (cvs.getD (i - 1) zeroV).kd, .int .i64 (cvs.getD (i - 1) zeroV).vw, .int .i64 (cvs.getD (i - 1) zeroV).ht, .str (cvs.getD (i - 1) zeroV).bl, .int .i64 (cvs.getD (i - 1) zeroV).tk, .int .i64 (cvs.getD (i - 1) zeroV).sg, .str (cvs.getD (i - 1) zeroV).sig] := fun h => votesG cvs (i - 1) (by omega)
      generalize cvs.getD i zeroV = y at hy hs
      generalize cvs.getD (i - 1) zeroV = p at hs hprev
      have qv := voVa_at y roots hro
      have q1 := abtI_at y ⟨cvw, cht, cbl⟩
      dsimp only at q1
      cases v1 : isV ⟨cvw, cht, cbl⟩ y with
      | false =>
        rw [v1] at q1
        rw [hbad (by rw [hs, v1]; simp)]
        simp only [runA, runB, runC, runD, runE, runF, fieldE, storeE, binE, ↓reduceIte, Nat.reduceLT, Nat.reduceLeDiff, Nat.reduceEqDiff, Nat.reduceAdd, Nat.reduceMul, Nat.reduceSub, reduceCtorEq, putAt, unE, Nat.reduceBEq, convE, buildE, List.replicate, Int.reduceLT, Int.reduceLE, Int.reduceToNat, mkE, mapSetE, hN, hF, ty_3, ty_4, ty_9, ty_24, ty_29, ty_31, ty_37, ty_74, ty_97, notIf, isEq, hlen, nt1, ntf, g1, h2, qm, k4, e1, hy, h6, q1]
        refine drawnP_intro (by kernel_rfl) (by kernel_rfl) ?_
        simp only [runA, runB, runC, runD, runE, runF, fieldE, storeE, binE, ↓reduceIte, Nat.reduceLT, Nat.reduceLeDiff, Nat.reduceEqDiff, Nat.reduceAdd, Nat.reduceMul, Nat.reduceSub, reduceCtorEq, putAt, unE, Nat.reduceBEq, convE, buildE, List.replicate, Int.reduceLT, Int.reduceLE, Int.reduceToNat, mkE, mapSetE, hN, hF, ty_3, ty_4, ty_9, ty_24, ty_29, ty_31, ty_37, ty_74, ty_97, notIf, isEq, hlen, nt1, ntf, g1, h2, qm, k4, e1, hy, h6, q1]
        simp only [runB, finC, finD, Option.isSome_some, Option.isSome_none, ↓reduceIte, Nat.reduceEqDiff, Nat.reduceAdd, Nat.reduceMul, forall_eq_or_imp, forall_eq, implies_true, Nat.reduceBEq, reduceCtorEq, false_implies, List.zip_cons_cons, List.zip_nil_left, List.zip_nil_right, Nat.reduceLeDiff, List.forall_mem_nil, rs_65, ty_3, ty_4, ty_9, ty_24, ty_29, ty_31, ty_37, ty_74, ty_97]
      | true =>
        rw [v1] at q1
        by_cases hi0 : i = 0
        · have g5 : decide ((i : Int) > 0) = false := decide_eq_false (by omega)
          cases v2 : validV y roots with
          | false =>
            rw [v2] at qv
            rw [hbad (by rw [hs, v1, decide_eq_true hi0, v2]; simp)]
            simp only [runA, runB, runC, runD, runE, runF, fieldE, storeE, binE, ↓reduceIte, Nat.reduceLT, Nat.reduceLeDiff, Nat.reduceEqDiff, Nat.reduceAdd, Nat.reduceMul, Nat.reduceSub, reduceCtorEq, putAt, unE, Nat.reduceBEq, convE, buildE, List.replicate, Int.reduceLT, Int.reduceLE, Int.reduceToNat, mkE, mapSetE, hN, hF, ty_3, ty_4, ty_9, ty_24, ty_29, ty_31, ty_37, ty_74, ty_97, notIf, isEq, hlen, nt1, ntf, g1, h2, qm, k4, e1, hy, h6, q1, g5, h7, qv]
            refine drawnP_intro (by kernel_rfl) (by kernel_rfl) ?_
            simp only [runA, runB, runC, runD, runE, runF, fieldE, storeE, binE, ↓reduceIte, Nat.reduceLT, Nat.reduceLeDiff, Nat.reduceEqDiff, Nat.reduceAdd, Nat.reduceMul, Nat.reduceSub, reduceCtorEq, putAt, unE, Nat.reduceBEq, convE, buildE, List.replicate, Int.reduceLT, Int.reduceLE, Int.reduceToNat, mkE, mapSetE, hN, hF, ty_3, ty_4, ty_9, ty_24, ty_29, ty_31, ty_37, ty_74, ty_97, notIf, isEq, hlen, nt1, ntf, g1, h2, qm, k4, e1, hy, h6, q1, g5, h7, qv]
            simp only [runB, finC, finD, Option.isSome_some, Option.isSome_none, ↓reduceIte, Nat.reduceEqDiff, Nat.reduceAdd, Nat.reduceMul, forall_eq_or_imp, forall_eq, implies_true, Nat.reduceBEq, reduceCtorEq, false_implies, List.zip_cons_cons, List.zip_nil_left, List.zip_nil_right, Nat.reduceLeDiff, List.forall_mem_nil, rs_65, ty_3, ty_4, ty_9, ty_24, ty_29, ty_31, ty_37, ty_74, ty_97]
          | true =>
            rw [v2] at qv
            have hst := hnext (by rw [hs, v1, decide_eq_true hi0, v2]; simp)
            simp only [runA, runB, runC, runD, runE, runF, fieldE, storeE, binE, ↓reduceIte, Nat.reduceLT, Nat.reduceLeDiff, Nat.reduceEqDiff, Nat.reduceAdd, Nat.reduceMul, Nat.reduceSub, reduceCtorEq, putAt, unE, Nat.reduceBEq, convE, buildE, List.replicate, Int.reduceLT, Int.reduceLE, Int.reduceToNat, mkE, mapSetE, hN, hF, ty_3, ty_4, ty_9, ty_24, ty_29, ty_31, ty_37, ty_74, ty_97, notIf, isEq, hlen, nt1, ntf, g1, h2, qm, k4, e1, hy, h6, q1, g5, h7, qv]
            refine drawnP_intro (by kernel_rfl) (by kernel_rfl) ?_
            simp only [runA, runB, runC, runD, runE, runF, fieldE, storeE, binE, ↓reduceIte, Nat.reduceLT, Nat.reduceLeDiff, Nat.reduceEqDiff, Nat.reduceAdd, Nat.reduceMul, Nat.reduceSub, reduceCtorEq, putAt, unE, Nat.reduceBEq, convE, buildE, List.replicate, Int.reduceLT, Int.reduceLE, Int.reduceToNat, mkE, mapSetE, hN, hF, ty_3, ty_4, ty_9, ty_24, ty_29, ty_31, ty_37, ty_74, ty_97, notIf, isEq, hlen, nt1, ntf, g1, h2, qm, k4, e1, hy, h6, q1, g5, h7, qv]
            refine ⟨cvs.length - (i + 1), _, by omega, ?_, i + 1, ⟨by omega, hst⟩, rfl, rfl⟩
            rw [hns]
            simp only [runB, finC, finD, AS.get, AS.mem, false_implies, implies_true, ↓reduceIte, Nat.reduceEqDiff, Option.isSome_some, Option.isSome_none, forall_eq_or_imp, forall_eq, reduceCtorEq, Nat.reduceAdd, Nat.reduceMul, List.zip_cons_cons, List.zip_nil_left, List.zip_nil_right, List.forall_mem_nil]
            first | done | simp
        · have g5 : decide ((i : Int) > 0) = true := decide_eq_true (by omega)
          have e6 : IntKind.i64.wrap ((i : Int) - 1) = ((i - 1 : Nat) : Int) := by rw [wrapI (by omega)]; omega
          have hp := hprev (by omega)
          by_cases hsg : p.sg < y.sg
          case neg =>
            have g6 : decide (p.sg ≥ y.sg) = true := decide_eq_true (by omega)
            rw [hbad (by rw [hs, v1, decide_eq_false hi0, decide_eq_false hsg]; simp)]
            simp only [runA, runB, runC, runD, runE, runF, fieldE, storeE, binE, ↓reduceIte, Nat.reduceLT, Nat.reduceLeDiff, Nat.reduceEqDiff, Nat.reduceAdd, Nat.reduceMul, Nat.reduceSub, reduceCtorEq, putAt, unE, Nat.reduceBEq, convE, buildE, List.replicate, Int.reduceLT, Int.reduceLE, Int.reduceToNat, mkE, mapSetE, hN, hF, ty_3, ty_4, ty_9, ty_24, ty_29, ty_31, ty_37, ty_74, ty_97, notIf, isEq, hlen, nt1, ntf, g1, h2, qm, k4, e1, hy, h6, q1, g5, e6, hp, g6]
            refine drawnP_intro (by kernel_rfl) (by kernel_rfl) ?_
            simp only [runA, runB, runC, runD, runE, runF, fieldE, storeE, binE, ↓reduceIte, Nat.reduceLT, Nat.reduceLeDiff, Nat.reduceEqDiff, Nat.reduceAdd, Nat.reduceMul, Nat.reduceSub, reduceCtorEq, putAt, unE, Nat.reduceBEq, convE, buildE, List.replicate, Int.reduceLT, Int.reduceLE, Int.reduceToNat, mkE, mapSetE, hN, hF, ty_3, ty_4, ty_9, ty_24, ty_29, ty_31, ty_37, ty_74, ty_97, notIf, isEq, hlen, nt1, ntf, g1, h2, qm, k4, e1, hy, h6, q1, g5, e6, hp, g6]
            simp only [runB, finC, finD, Option.isSome_some, Option.isSome_none, ↓reduceIte, Nat.reduceEqDiff, Nat.reduceAdd, Nat.reduceMul, forall_eq_or_imp, forall_eq, implies_true, Nat.reduceBEq, reduceCtorEq, false_implies, List.zip_cons_cons, List.zip_nil_left, List.zip_nil_right, Nat.reduceLeDiff, List.forall_mem_nil, rs_65, ty_3, ty_4, ty_9, ty_24, ty_29, ty_31, ty_37, ty_74, ty_97]
          have g6 : decide (p.sg ≥ y.sg) = false := decide_eq_false (by omega)
          cases v2 : validV y roots with
          | false =>
            rw [v2] at qv
            rw [hbad (by rw [hs, v1, decide_eq_false hi0, decide_eq_true hsg, v2]; simp)]
            simp only [runA, runB, runC, runD, runE, runF, fieldE, storeE, binE, ↓reduceIte, Nat.reduceLT, Nat.reduceLeDiff, Nat.reduceEqDiff, Nat.reduceAdd, Nat.reduceMul, Nat.reduceSub, reduceCtorEq, putAt, unE, Nat.reduceBEq, convE, buildE, List.replicate, Int.reduceLT, Int.reduceLE, Int.reduceToNat, mkE, mapSetE, hN, hF, ty_3, ty_4, ty_9, ty_24, ty_29, ty_31, ty_37, ty_74, ty_97, notIf, isEq, hlen, nt1, ntf, g1, h2, qm, k4, e1, hy, h6, q1, g5, e6, hp, g6, h7, qv]
            refine drawnP_intro (by kernel_rfl) (by kernel_rfl) ?_
            simp only [runA, runB, runC, runD, runE, runF, fieldE, storeE, binE, ↓reduceIte, Nat.reduceLT, Nat.reduceLeDiff, Nat.reduceEqDiff, Nat.reduceAdd, Nat.reduceMul, Nat.reduceSub, reduceCtorEq, putAt, unE, Nat.reduceBEq, convE, buildE, List.replicate, Int.reduceLT, Int.reduceLE, Int.reduceToNat, mkE, mapSetE, hN, hF, ty_3, ty_4, ty_9, ty_24, ty_29, ty_31, ty_37, ty_74, ty_97, notIf, isEq, hlen, nt1, ntf, g1, h2, qm, k4, e1, hy, h6, q1, g5, e6, hp, g6, h7, qv]
            simp only [runB, finC, finD, Option.isSome_some, Option.isSome_none, ↓reduceIte, Nat.reduceEqDiff, Nat.reduceAdd, Nat.reduceMul, forall_eq_or_imp, forall_eq, implies_true, Nat.reduceBEq, reduceCtorEq, false_implies, List.zip_cons_cons, List.zip_nil_left, List.zip_nil_right, Nat.reduceLeDiff, List.forall_mem_nil, rs_65, ty_3, ty_4, ty_9, ty_24, ty_29, ty_31, ty_37, ty_74, ty_97]
          | true =>
            rw [v2] at qv
            have hst := hnext (by rw [hs, v1, decide_eq_false hi0, decide_eq_true hsg, v2]; simp)
            simp only [runA, runB, runC, runD, runE, runF, fieldE, storeE, binE, ↓reduceIte, Nat.reduceLT, Nat.reduceLeDiff, Nat.reduceEqDiff, Nat.reduceAdd, Nat.reduceMul, Nat.reduceSub, reduceCtorEq, putAt, unE, Nat.reduceBEq, convE, buildE, List.replicate, Int.reduceLT, Int.reduceLE, Int.reduceToNat, mkE, mapSetE, hN, hF, ty_3, ty_4, ty_9, ty_24, ty_29, ty_31, ty_37, ty_74, ty_97, notIf, isEq, hlen, nt1, ntf, g1, h2, qm, k4, e1, hy, h6, q1, g5, e6, hp, g6, h7, qv]
            refine drawnP_intro (by kernel_rfl) (by kernel_rfl) ?_
            simp only [runA, runB, runC, runD, runE, runF, fieldE, storeE, binE, ↓reduceIte, Nat.reduceLT, Nat.reduceLeDiff, Nat.reduceEqDiff, Nat.reduceAdd, Nat.reduceMul, Nat.reduceSub, reduceCtorEq, putAt, unE, Nat.reduceBEq, convE, buildE, List.replicate, Int.reduceLT, Int.reduceLE, Int.reduceToNat, mkE, mapSetE, hN, hF, ty_3, ty_4, ty_9, ty_24, ty_29, ty_31, ty_37, ty_74, ty_97, notIf, isEq, hlen, nt1, ntf, g1, h2, qm, k4, e1, hy, h6, q1, g5, e6, hp, g6, h7, qv]
            refine ⟨cvs.length - (i + 1), _, by omega, ?_, i + 1, ⟨by omega, hst⟩, rfl, rfl⟩
            rw [hns]
            simp only [runB, finC, finD, AS.get, AS.mem, false_implies, implies_true, ↓reduceIte, Nat.reduceEqDiff, Option.isSome_some, Option.isSome_none, forall_eq_or_imp, forall_eq, reduceCtorEq, Nat.reduceAdd, Nat.reduceMul, List.zip_cons_cons, List.zip_nil_left, List.zip_nil_right, List.forall_mem_nil]
            first | done | simp

end Go.Proofs.YtenmlgalcjkdbaaGreat.AM
