/-
  QI: Bv5.
-/
import Derived.Test.YtenmlgalcjkdbaaGreatQH
set_option linter.unusedVariables false
set_option linter.unusedSimpArgs false
namespace Go.Proofs.YtenmlgalcjkdbaaGreat.AM
open Go

variable {Γ : FuncId → Contract}


set_option maxRecDepth 100000 in
set_option maxHeartbeats 4000000 in
theorem rCeck_sound (hΓ : SoundG Tryz.prog Γ) (h4 : Γ 9 = genC) (h7 : Γ 72 = voVaC) : SoundC Tryz.prog 26 ceckC := by
  refine sound_fn Tryz.func26 (by kernel_rfl) rfl rfl ?_
  intro args objs r0 hr
  obtain ⟨⟨⟨cvw, cht, cbl, cvs⟩, roots, q⟩, ⟨hvs, hro⟩, rfl, rfl, rfl⟩ := mkC_inv hr
  refine ⟨rfl, by show 3 ≤ _; decide, fun E hN hns hF => ?_⟩
  refine vc_sound hΓ mixed _ _ _ ?_
  have hN := hN.trans nt_26
  have hvs : cvs.length ≤ 9223372036854775807 := hvs
  have hro : roots.length ≤ 9223372036854775807 := hro
  have hlen := votes_length cvs
  have qg : genC [] [] = some ⟨[.pv (.c (.str genS))], []⟩ := rfl
  have nt1 : (!true) = false := rfl
  have ntf : (!false) = true := rfl
  unfold Ct.av
  dsimp only
  obtain ⟨R, hR⟩ : ∃ R, R = ctS ⟨cvw, cht, cbl, cvs⟩ roots q := ⟨_, rfl⟩
  rw [← hR]
  by_cases c1 : cvs = []
  case neg =>
    have g1 : ((cvs.length : Int) == 0) = false := beq_eq_false_iff_ne.2 (fun h => c1 (List.length_eq_zero_iff.1 (by omega)))
    have hnf : ¬ (cvs = [] ∧ (⟨cvw, cht, cbl⟩ : Mk) = ⟨0, 0, genS⟩) := fun h => c1 h.1
    by_cases c2 : q < 1
    · have k2 : decide (q < 1) = true := decide_eq_true c2
      have hr : R = 41 := by rw [hR]; unfold ctS; rw [if_neg hnf, if_pos (.inl c2)]
      rw [hr]
      simp only [runA, runB, runC, runD, runE, runF, fieldE, storeE, binE, ↓reduceIte, Nat.reduceLT, Nat.reduceLeDiff, Nat.reduceEqDiff, Nat.reduceAdd, Nat.reduceMul, Nat.reduceSub, reduceCtorEq, putAt, unE, Nat.reduceBEq, convE, buildE, List.replicate, Int.reduceLT, Int.reduceLE, Int.reduceToNat, mkE, mapSetE, hN, hF, ty_3, ty_4, ty_9, ty_24, ty_29, ty_31, ty_97, notIf, isEq, hlen, nt1, ntf, g1, k2]
      refine drawnP_intro (by kernel_rfl) (by kernel_rfl) ?_
      simp only [runA, runB, runC, runD, runE, runF, fieldE, storeE, binE, ↓reduceIte, Nat.reduceLT, Nat.reduceLeDiff, Nat.reduceEqDiff, Nat.reduceAdd, Nat.reduceMul, Nat.reduceSub, reduceCtorEq, putAt, unE, Nat.reduceBEq, convE, buildE, List.replicate, Int.reduceLT, Int.reduceLE, Int.reduceToNat, mkE, mapSetE, hN, hF, ty_3, ty_4, ty_9, ty_24, ty_29, ty_31, ty_97, notIf, isEq, hlen, nt1, ntf, g1, k2]
      simp only [runB, finC, finD, Option.isSome_some, Option.isSome_none, ↓reduceIte, Nat.reduceEqDiff, Nat.reduceAdd, Nat.reduceMul, forall_eq_or_imp, forall_eq, implies_true, Nat.reduceBEq, reduceCtorEq, false_implies, List.zip_cons_cons, List.zip_nil_left, List.zip_nil_right, Nat.reduceLeDiff, List.forall_mem_nil, rs_26, ty_3, ty_4, ty_9, ty_24, ty_29, ty_31, ty_97]
    have k2 : decide (q < 1) = false := decide_eq_false c2
    by_cases c3 : (cvs.length : Int) = q
    case neg =>
      have k3 : ((cvs.length : Int) != q) = true := by rw [bne_iff_ne]; exact c3
      have hr : R = 41 := by rw [hR]; unfold ctS; rw [if_neg hnf, if_pos (.inr c3)]
      rw [hr]
      simp only [runA, runB, runC, runD, runE, runF, fieldE, storeE, binE, ↓reduceIte, Nat.reduceLT, Nat.reduceLeDiff, Nat.reduceEqDiff, Nat.reduceAdd, Nat.reduceMul, Nat.reduceSub, reduceCtorEq, putAt, unE, Nat.reduceBEq, convE, buildE, List.replicate, Int.reduceLT, Int.reduceLE, Int.reduceToNat, mkE, mapSetE, hN, hF, ty_3, ty_4, ty_9, ty_24, ty_29, ty_31, ty_97, notIf, isEq, hlen, nt1, ntf, g1, k2, k3]
      refine drawnP_intro (by kernel_rfl) (by kernel_rfl) ?_
      simp only [runA, runB, runC, runD, runE, runF, fieldE, storeE, binE, ↓reduceIte, Nat.reduceLT, Nat.reduceLeDiff, Nat.reduceEqDiff, Nat.reduceAdd, Nat.reduceMul, Nat.reduceSub, reduceCtorEq, putAt, unE, Nat.reduceBEq, convE, buildE, List.replicate, Int.reduceLT, Int.reduceLE, Int.reduceToNat, mkE, mapSetE, hN, hF, ty_3, ty_4, ty_9, ty_24, ty_29, ty_31, ty_97, notIf, isEq, hlen, nt1, ntf, g1, k2, k3]
      simp only [runB, finC, finD, Option.isSome_some, Option.isSome_none, ↓reduceIte, Nat.reduceEqDiff, Nat.reduceAdd, Nat.reduceMul, forall_eq_or_imp, forall_eq, implies_true, Nat.reduceBEq, reduceCtorEq, false_implies, List.zip_cons_cons, List.zip_nil_left, List.zip_nil_right, Nat.reduceLeDiff, List.forall_mem_nil, rs_26, ty_3, ty_4, ty_9, ty_24, ty_29, ty_31, ty_97]
    have k3 : ((cvs.length : Int) != q) = false := by rw [c3, bne_self_eq_false]
    have hR2 : R = (if ∀ i, i < cvs.length → stepC ⟨cvw, cht, cbl, cvs⟩ roots i = true then 0 else 41) := by rw [hR]; unfold ctS; rw [if_neg hnf, if_neg (by rintro (h | h); exact c2 h; exact h c3)]
    simp only [runA, runB, runC, runD, runE, runF, fieldE, storeE, binE, ↓reduceIte, Nat.reduceLT, Nat.reduceLeDiff, Nat.reduceEqDiff, Nat.reduceAdd, Nat.reduceMul, Nat.reduceSub, reduceCtorEq, putAt, unE, Nat.reduceBEq, convE, buildE, List.replicate, Int.reduceLT, Int.reduceLE, Int.reduceToNat, mkE, mapSetE, hN, hF, ty_3, ty_4, ty_9, ty_24, ty_29, ty_31, ty_97, notIf, isEq, hlen, nt1, ntf, g1, k2, k3]
    refine drawnP_intro (by kernel_rfl) (by kernel_rfl) ?_
    simp only [runA, runB, runC, runD, runE, runF, fieldE, storeE, binE, ↓reduceIte, Nat.reduceLT, Nat.reduceLeDiff, Nat.reduceEqDiff, Nat.reduceAdd, Nat.reduceMul, Nat.reduceSub, reduceCtorEq, putAt, unE, Nat.reduceBEq, convE, buildE, List.replicate, Int.reduceLT, Int.reduceLE, Int.reduceToNat, mkE, mapSetE, hN, hF, ty_3, ty_4, ty_9, ty_24, ty_29, ty_31, ty_97, notIf, isEq, hlen, nt1, ntf, g1, k2, k3]
    refine AWP.loop (fun k st => ∃ i : Nat, (i ≤ cvs.length ∧ ∀ j, j < i → stepC ⟨cvw, cht, cbl, cvs⟩ roots j = true) ∧ k = cvs.length - i ∧ st = ⟨[(1, .c (.sl (texts roots))), (3, .ptr 192 0), (7, .c (.int .i64 (i : Int)))], [(192, .obj [.c (.int .i64 cvw), .c (.int .i64 cht), .c (.str cbl), .c (.sl (votes cvs))] false)]⟩) ⟨cvs.length, _, ?w, 0, ⟨Nat.zero_le _, fun j hj => absurd hj (by omega)⟩, rfl, rfl⟩ ?r
    case w =>
      rw [hns]
      simp only [runB, finC, finD, AS.get, AS.mem, false_implies, implies_true, ↓reduceIte, Nat.reduceEqDiff, Option.isSome_some, Option.isSome_none, forall_eq_or_imp, forall_eq, reduceCtorEq, Nat.reduceAdd, Nat.reduceMul, List.zip_cons_cons, List.zip_nil_left, List.zip_nil_right, List.forall_mem_nil]
      first | done | simp
    case r =>
      rintro k st ⟨i, ⟨hi, hall⟩, rfl, rfl⟩
      refine vc_sound hΓ mixed _ _ _ ?_
      by_cases hlt : i < cvs.length
      case neg =>
        obtain rfl : i = cvs.length := by omega
        have k4 : decide (((cvs.length : Nat) : Int) < (cvs.length : Int)) = false := decide_eq_false (by omega)
        have hr : R = 0 := by rw [hR2]; exact if_pos hall
        rw [hr]
        simp only [runA, runB, runC, runD, runE, runF, fieldE, storeE, binE, ↓reduceIte, Nat.reduceLT, Nat.reduceLeDiff, Nat.reduceEqDiff, Nat.reduceAdd, Nat.reduceMul, Nat.reduceSub, reduceCtorEq, putAt, unE, Nat.reduceBEq, convE, buildE, List.replicate, Int.reduceLT, Int.reduceLE, Int.reduceToNat, mkE, mapSetE, hN, hF, ty_3, ty_4, ty_9, ty_24, ty_29, ty_31, ty_97, notIf, isEq, hlen, nt1, ntf, g1, k4]
        simp only [runB, finC, finD, Option.isSome_some, Option.isSome_none, ↓reduceIte, Nat.reduceEqDiff, Nat.reduceAdd, Nat.reduceMul, forall_eq_or_imp, forall_eq, implies_true, Nat.reduceBEq, reduceCtorEq, false_implies, List.zip_cons_cons, List.zip_nil_left, List.zip_nil_right, Nat.reduceLeDiff, List.forall_mem_nil, rs_26, ty_3, ty_4, ty_9, ty_24, ty_29, ty_31, ty_97]
      have k4 : decide ((i : Int) < (cvs.length : Int)) = true := decide_eq_true (by omega)
      have e1 : IntKind.i64.wrap ((i : Int) + 1) = (i : Int) + 1 := wrapI (by omega)
      have hy := votesG cvs i hlt
      have hs := stepC_def cvw cht cbl cvs roots i
      have hbad : stepC ⟨cvw, cht, cbl, cvs⟩ roots i = false → R = 41 := fun h => by rw [hR2]; exact if_neg (fun ha => by rw [ha i hlt] at h; cases h)
      have hnext : stepC ⟨cvw, cht, cbl, cvs⟩ roots i = true → ∀ j, j < i + 1 → stepC ⟨cvw, cht, cbl, cvs⟩ roots j = true := fun h j hj => by
        by_cases e : j = i
        · rw [e]; exact h
        · exact hall j (by omega)
      have hprev : 0 < i → (votes cvs)[i - 1]? = some [.int .i64 (cvs.getD (i - 1) zeroV).kd, .int .i64 (cvs.getD (i - 1) zeroV).vw, .int .i64 (cvs.getD (i - 1) zeroV).ht, .str (cvs.getD (i - 1) zeroV).bl, .int .i64 (cvs.getD (i - 1) zeroV).tk, .int .i64 (cvs.getD (i - 1) zeroV).sg, .str (cvs.getD (i - 1) zeroV).sig] := fun h => votesG cvs (i - 1) (by omega)
      generalize cvs.getD i zeroV = y at hy hs
      generalize cvs.getD (i - 1) zeroV = p at hs hprev
      have qv := voVa_at y roots hro
      unfold isV at hs
      cases b1 : y.kd == 1 with
      | false =>
        have b1' : (y.kd != 1) = true := by unfold bne; rw [b1]; rfl
        rw [hbad (by rw [hs, b1]; simp)]
        simp only [runA, runB, runC, runD, runE, runF, fieldE, storeE, binE, ↓reduceIte, Nat.reduceLT, Nat.reduceLeDiff, Nat.reduceEqDiff, Nat.reduceAdd, Nat.reduceMul, Nat.reduceSub, reduceCtorEq, putAt, unE, Nat.reduceBEq, convE, buildE, List.replicate, Int.reduceLT, Int.reduceLE, Int.reduceToNat, mkE, mapSetE, hN, hF, ty_3, ty_4, ty_9, ty_24, ty_29, ty_31, ty_97, notIf, isEq, hlen, nt1, ntf, g1, k4, e1, hy, b1']
        refine drawnP_intro (by kernel_rfl) (by kernel_rfl) ?_
        simp only [runA, runB, runC, runD, runE, runF, fieldE, storeE, binE, ↓reduceIte, Nat.reduceLT, Nat.reduceLeDiff, Nat.reduceEqDiff, Nat.reduceAdd, Nat.reduceMul, Nat.reduceSub, reduceCtorEq, putAt, unE, Nat.reduceBEq, convE, buildE, List.replicate, Int.reduceLT, Int.reduceLE, Int.reduceToNat, mkE, mapSetE, hN, hF, ty_3, ty_4, ty_9, ty_24, ty_29, ty_31, ty_97, notIf, isEq, hlen, nt1, ntf, g1, k4, e1, hy, b1']
        simp only [runB, finC, finD, Option.isSome_some, Option.isSome_none, ↓reduceIte, Nat.reduceEqDiff, Nat.reduceAdd, Nat.reduceMul, forall_eq_or_imp, forall_eq, implies_true, Nat.reduceBEq, reduceCtorEq, false_implies, List.zip_cons_cons, List.zip_nil_left, List.zip_nil_right, Nat.reduceLeDiff, List.forall_mem_nil, rs_26, ty_3, ty_4, ty_9, ty_24, ty_29, ty_31, ty_97]
      | true =>
      have b1' : (y.kd != 1) = false := by unfold bne; rw [b1]; rfl
      by_cases b2 : y.vw = cvw
      case neg =>
        have b2' : (y.vw != cvw) = true := by rw [bne_iff_ne]; exact b2
        have hmk : decide ((⟨y.vw, y.ht, y.bl⟩ : Mk) = ⟨cvw, cht, cbl⟩) = false := decide_eq_false (fun h => b2 (by injection h))
        rw [hbad (by rw [hs, b1, hmk]; simp)]
        simp only [runA, runB, runC, runD, runE, runF, fieldE, storeE, binE, ↓reduceIte, Nat.reduceLT, Nat.reduceLeDiff, Nat.reduceEqDiff, Nat.reduceAdd, Nat.reduceMul, Nat.reduceSub, reduceCtorEq, putAt, unE, Nat.reduceBEq, convE, buildE, List.replicate, Int.reduceLT, Int.reduceLE, Int.reduceToNat, mkE, mapSetE, hN, hF, ty_3, ty_4, ty_9, ty_24, ty_29, ty_31, ty_97, notIf, isEq, hlen, nt1, ntf, g1, k4, e1, hy, b1', b2']
        refine drawnP_intro (by kernel_rfl) (by kernel_rfl) ?_
        simp only [runA, runB, runC, runD, runE, runF, fieldE, storeE, binE, ↓reduceIte, Nat.reduceLT, Nat.reduceLeDiff, Nat.reduceEqDiff, Nat.reduceAdd, Nat.reduceMul, Nat.reduceSub, reduceCtorEq, putAt, unE, Nat.reduceBEq, convE, buildE, List.replicate, Int.reduceLT, Int.reduceLE, Int.reduceToNat, mkE, mapSetE, hN, hF, ty_3, ty_4, ty_9, ty_24, ty_29, ty_31, ty_97, notIf, isEq, hlen, nt1, ntf, g1, k4, e1, hy, b1', b2']
        simp only [runB, finC, finD, Option.isSome_some, Option.isSome_none, ↓reduceIte, Nat.reduceEqDiff, Nat.reduceAdd, Nat.reduceMul, forall_eq_or_imp, forall_eq, implies_true, Nat.reduceBEq, reduceCtorEq, false_implies, List.zip_cons_cons, List.zip_nil_left, List.zip_nil_right, Nat.reduceLeDiff, List.forall_mem_nil, rs_26, ty_3, ty_4, ty_9, ty_24, ty_29, ty_31, ty_97]
      have b2' : (y.vw != cvw) = false := by rw [b2, bne_self_eq_false]
      by_cases b3 : y.ht = cht
      case neg =>
        have b3' : (y.ht != cht) = true := by rw [bne_iff_ne]; exact b3
        have hmk : decide ((⟨y.vw, y.ht, y.bl⟩ : Mk) = ⟨cvw, cht, cbl⟩) = false := decide_eq_false (fun h => b3 (by injection h))
        rw [hbad (by rw [hs, b1, hmk]; simp)]
        simp only [runA, runB, runC, runD, runE, runF, fieldE, storeE, binE, ↓reduceIte, Nat.reduceLT, Nat.reduceLeDiff, Nat.reduceEqDiff, Nat.reduceAdd, Nat.reduceMul, Nat.reduceSub, reduceCtorEq, putAt, unE, Nat.reduceBEq, convE, buildE, List.replicate, Int.reduceLT, Int.reduceLE, Int.reduceToNat, mkE, mapSetE, hN, hF, ty_3, ty_4, ty_9, ty_24, ty_29, ty_31, ty_97, notIf, isEq, hlen, nt1, ntf, g1, k4, e1, hy, b1', b2', b3']
        refine drawnP_intro (by kernel_rfl) (by kernel_rfl) ?_
        simp only [runA, runB, runC, runD, runE, runF, fieldE, storeE, binE, ↓reduceIte, Nat.reduceLT, Nat.reduceLeDiff, Nat.reduceEqDiff, Nat.reduceAdd, Nat.reduceMul, Nat.reduceSub, reduceCtorEq, putAt, unE, Nat.reduceBEq, convE, buildE, List.replicate, Int.reduceLT, Int.reduceLE, Int.reduceToNat, mkE, mapSetE, hN, hF, ty_3, ty_4, ty_9, ty_24, ty_29, ty_31, ty_97, notIf, isEq, hlen, nt1, ntf, g1, k4, e1, hy, b1', b2', b3']
        simp only [runB, finC, finD, Option.isSome_some, Option.isSome_none, ↓reduceIte, Nat.reduceEqDiff, Nat.reduceAdd, Nat.reduceMul, forall_eq_or_imp, forall_eq, implies_true, Nat.reduceBEq, reduceCtorEq, false_implies, List.zip_cons_cons, List.zip_nil_left, List.zip_nil_right, Nat.reduceLeDiff, List.forall_mem_nil, rs_26, ty_3, ty_4, ty_9, ty_24, ty_29, ty_31, ty_97]
      have b3' : (y.ht != cht) = false := by rw [b3, bne_self_eq_false]
      by_cases b4 : y.bl = cbl
      case neg =>
        have b4' : (y.bl == cbl) = false := beq_eq_false_iff_ne.2 b4
        have hmk : decide ((⟨y.vw, y.ht, y.bl⟩ : Mk) = ⟨cvw, cht, cbl⟩) = false := decide_eq_false (fun h => b4 (by injection h))
        rw [hbad (by rw [hs, b1, hmk]; simp)]
        simp only [runA, runB, runC, runD, runE, runF, fieldE, storeE, binE, ↓reduceIte, Nat.reduceLT, Nat.reduceLeDiff, Nat.reduceEqDiff, Nat.reduceAdd, Nat.reduceMul, Nat.reduceSub, reduceCtorEq, putAt, unE, Nat.reduceBEq, convE, buildE, List.replicate, Int.reduceLT, Int.reduceLE, Int.reduceToNat, mkE, mapSetE, hN, hF, ty_3, ty_4, ty_9, ty_24, ty_29, ty_31, ty_97, notIf, isEq, hlen, nt1, ntf, g1, k4, e1, hy, b1', b2', b3', b4']
        refine drawnP_intro (by kernel_rfl) (by kernel_rfl) ?_
        simp only [runA, runB, runC, runD, runE, runF, fieldE, storeE, binE, ↓reduceIte, Nat.reduceLT, Nat.reduceLeDiff, Nat.reduceEqDiff, Nat.reduceAdd, Nat.reduceMul, Nat.reduceSub, reduceCtorEq, putAt, unE, Nat.reduceBEq, convE, buildE, List.replicate, Int.reduceLT, Int.reduceLE, Int.reduceToNat, mkE, mapSetE, hN, hF, ty_3, ty_4, ty_9, ty_24, ty_29, ty_31, ty_97, notIf, isEq, hlen, nt1, ntf, g1, k4, e1, hy, b1', b2', b3', b4']
        simp only [runB, finC, finD, Option.isSome_some, Option.isSome_none, ↓reduceIte, Nat.reduceEqDiff, Nat.reduceAdd, Nat.reduceMul, forall_eq_or_imp, forall_eq, implies_true, Nat.reduceBEq, reduceCtorEq, false_implies, List.zip_cons_cons, List.zip_nil_left, List.zip_nil_right, Nat.reduceLeDiff, List.forall_mem_nil, rs_26, ty_3, ty_4, ty_9, ty_24, ty_29, ty_31, ty_97]
      have b4' : (y.bl == cbl) = true := beq_iff_eq.2 b4
      have hmk : decide ((⟨y.vw, y.ht, y.bl⟩ : Mk) = ⟨cvw, cht, cbl⟩) = true := decide_eq_true (by rw [b2, b3, b4])
      cases v2 : validV y roots with
      | false =>
        rw [v2] at qv
        rw [hbad (by rw [hs, b1, hmk, v2]; simp)]
        simp only [runA, runB, runC, runD, runE, runF, fieldE, storeE, binE, ↓reduceIte, Nat.reduceLT, Nat.reduceLeDiff, Nat.reduceEqDiff, Nat.reduceAdd, Nat.reduceMul, Nat.reduceSub, reduceCtorEq, putAt, unE, Nat.reduceBEq, convE, buildE, List.replicate, Int.reduceLT, Int.reduceLE, Int.reduceToNat, mkE, mapSetE, hN, hF, ty_3, ty_4, ty_9, ty_24, ty_29, ty_31, ty_97, notIf, isEq, hlen, nt1, ntf, g1, k4, e1, hy, b1', b2', b3', b4', h7, qv]
        refine drawnP_intro (by kernel_rfl) (by kernel_rfl) ?_
        simp only [runA, runB, runC, runD, runE, runF, fieldE, storeE, binE, ↓reduceIte, Nat.reduceLT, Nat.reduceLeDiff, Nat.reduceEqDiff, Nat.reduceAdd, Nat.reduceMul, Nat.reduceSub, reduceCtorEq, putAt, unE, Nat.reduceBEq, convE, buildE, List.replicate, Int.reduceLT, Int.reduceLE, Int.reduceToNat, mkE, mapSetE, hN, hF, ty_3, ty_4, ty_9, ty_24, ty_29, ty_31, ty_97, notIf, isEq, hlen, nt1, ntf, g1, k4, e1, hy, b1', b2', b3', b4', h7, qv]
        simp only [runB, finC, finD, Option.isSome_some, Option.isSome_none, ↓reduceIte, Nat.reduceEqDiff, Nat.reduceAdd, Nat.reduceMul, forall_eq_or_imp, forall_eq, implies_true, Nat.reduceBEq, reduceCtorEq, false_implies, List.zip_cons_cons, List.zip_nil_left, List.zip_nil_right, Nat.reduceLeDiff, List.forall_mem_nil, rs_26, ty_3, ty_4, ty_9, ty_24, ty_29, ty_31, ty_97]
      | true =>
        rw [v2] at qv
        by_cases hi0 : i = 0
        · have g5 : decide ((i : Int) > 0) = false := decide_eq_false (by omega)
          have hst := hnext (by rw [hs, b1, hmk, v2, decide_eq_true hi0]; simp)
          simp only [runA, runB, runC, runD, runE, runF, fieldE, storeE, binE, ↓reduceIte, Nat.reduceLT, Nat.reduceLeDiff, Nat.reduceEqDiff, Nat.reduceAdd, Nat.reduceMul, Nat.reduceSub, reduceCtorEq, putAt, unE, Nat.reduceBEq, convE, buildE, List.replicate, Int.reduceLT, Int.reduceLE, Int.reduceToNat, mkE, mapSetE, hN, hF, ty_3, ty_4, ty_9, ty_24, ty_29, ty_31, ty_97, notIf, isEq, hlen, nt1, ntf, g1, k4, e1, hy, b1', b2', b3', b4', h7, qv, g5]
          refine drawnP_intro (by kernel_rfl) (by kernel_rfl) ?_
          simp only [runA, runB, runC, runD, runE, runF, fieldE, storeE, binE, ↓reduceIte, Nat.reduceLT, Nat.reduceLeDiff, Nat.reduceEqDiff, Nat.reduceAdd, Nat.reduceMul, Nat.reduceSub, reduceCtorEq, putAt, unE, Nat.reduceBEq, convE, buildE, List.replicate, Int.reduceLT, Int.reduceLE, Int.reduceToNat, mkE, mapSetE, hN, hF, ty_3, ty_4, ty_9, ty_24, ty_29, ty_31, ty_97, notIf, isEq, hlen, nt1, ntf, g1, k4, e1, hy, b1', b2', b3', b4', h7, qv, g5]
          refine ⟨cvs.length - (i + 1), _, by omega, ?_, i + 1, ⟨by omega, hst⟩, rfl, rfl⟩
          rw [hns]
          simp only [runB, finC, finD, AS.get, AS.mem, false_implies, implies_true, ↓reduceIte, Nat.reduceEqDiff, Option.isSome_some, Option.isSome_none, forall_eq_or_imp, forall_eq, reduceCtorEq, Nat.reduceAdd, Nat.reduceMul, List.zip_cons_cons, List.zip_nil_left, List.zip_nil_right, List.forall_mem_nil]
          first | done | simp
        · have g5 : decide ((i : Int) > 0) = true := decide_eq_true (by omega)
          have e6 : IntKind.i64.wrap ((i : Int) - 1) = ((i - 1 : Nat) : Int) := by rw [wrapI (by omega)]; omega
          have hp := hprev (by omega)
          by_cases hsg : p.sg < y.sg
          case neg =>
            have g6 : decide (p.sg ≥ y.sg) = true := decide_eq_true (by omega)
            rw [hbad (by rw [hs, b1, hmk, v2, decide_eq_false hi0, decide_eq_false hsg]; simp)]
            simp only [runA, runB, runC, runD, runE, runF, fieldE, storeE, binE, ↓reduceIte, Nat.reduceLT, Nat.reduceLeDiff, Nat.reduceEqDiff, Nat.reduceAdd, Nat.reduceMul, Nat.reduceSub, reduceCtorEq, putAt, unE, Nat.reduceBEq, convE, buildE, List.replicate, Int.reduceLT, Int.reduceLE, Int.reduceToNat, mkE, mapSetE, hN, hF, ty_3, ty_4, ty_9, ty_24, ty_29, ty_31, ty_97, notIf, isEq, hlen, nt1, ntf, g1, k4, e1, hy, b1', b2', b3', b4', h7, qv, g5, e6, hp, g6]
            refine drawnP_intro (by kernel_rfl) (by kernel_rfl) ?_
            simp only [runA, runB, runC, runD, runE, runF, fieldE, storeE, binE, ↓reduceIte, Nat.reduceLT, Nat.reduceLeDiff, Nat.reduceEqDiff, Nat.reduceAdd, Nat.reduceMul, Nat.reduceSub, reduceCtorEq, putAt, unE, Nat.reduceBEq, convE, buildE, List.replicate, Int.reduceLT, Int.reduceLE, Int.reduceToNat, mkE, mapSetE, hN, hF, ty_3, ty_4, ty_9, ty_24, ty_29, ty_31, ty_97, notIf, isEq, hlen, nt1, ntf, g1, k4, e1, hy, b1', b2', b3', b4', h7, qv, g5, e6, hp, g6]
            simp only [runB, finC, finD, Option.isSome_some, Option.isSome_none, ↓reduceIte, Nat.reduceEqDiff, Nat.reduceAdd, Nat.reduceMul, forall_eq_or_imp, forall_eq, implies_true, Nat.reduceBEq, reduceCtorEq, false_implies, List.zip_cons_cons, List.zip_nil_left, List.zip_nil_right, Nat.reduceLeDiff, List.forall_mem_nil, rs_26, ty_3, ty_4, ty_9, ty_24, ty_29, ty_31, ty_97]
          have g6 : decide (p.sg ≥ y.sg) = false := decide_eq_false (by omega)
          have hst := hnext (by rw [hs, b1, hmk, v2, decide_eq_false hi0, decide_eq_true hsg]; simp)
          simp only [runA, runB, runC, runD, runE, runF, fieldE, storeE, binE, ↓reduceIte, Nat.reduceLT, Nat.reduceLeDiff, Nat.reduceEqDiff, Nat.reduceAdd, Nat.reduceMul, Nat.reduceSub, reduceCtorEq, putAt, unE, Nat.reduceBEq, convE, buildE, List.replicate, Int.reduceLT, Int.reduceLE, Int.reduceToNat, mkE, mapSetE, hN, hF, ty_3, ty_4, ty_9, ty_24, ty_29, ty_31, ty_97, notIf, isEq, hlen, nt1, ntf, g1, k4, e1, hy, b1', b2', b3', b4', h7, qv, g5, e6, hp, g6]
          refine drawnP_intro (by kernel_rfl) (by kernel_rfl) ?_
          simp only [runA, runB, runC, runD, runE, runF, fieldE, storeE, binE, ↓reduceIte, Nat.reduceLT, Nat.reduceLeDiff, Nat.reduceEqDiff, Nat.reduceAdd, Nat.reduceMul, Nat.reduceSub, reduceCtorEq, putAt, unE, Nat.reduceBEq, convE, buildE, List.replicate, Int.reduceLT, Int.reduceLE, Int.reduceToNat, mkE, mapSetE, hN, hF, ty_3, ty_4, ty_9, ty_24, ty_29, ty_31, ty_97, notIf, isEq, hlen, nt1, ntf, g1, k4, e1, hy, b1', b2', b3', b4', h7, qv, g5, e6, hp, g6]
          refine ⟨cvs.length - (i + 1), _, by omega, ?_, i + 1, ⟨by omega, hst⟩, rfl, rfl⟩
          rw [hns]
          simp only [runB, finC, finD, AS.get, AS.mem, false_implies, implies_true, ↓reduceIte, Nat.reduceEqDiff, Option.isSome_some, Option.isSome_none, forall_eq_or_imp, forall_eq, reduceCtorEq, Nat.reduceAdd, Nat.reduceMul, List.zip_cons_cons, List.zip_nil_left, List.zip_nil_right, List.forall_mem_nil]
          first | done | simp
  have g1 : ((cvs.length : Int) == 0) = true := by rw [c1]; rfl
  by_cases a1 : cvw = 0
  case neg =>
    have a1' : (cvw == 0) = false := beq_eq_false_iff_ne.2 a1
    have hnf : ¬ (cvs = [] ∧ (⟨cvw, cht, cbl⟩ : Mk) = ⟨0, 0, genS⟩) := fun h => a1 (by injection h.2)
    by_cases c2 : q < 1
    · have k2 : decide (q < 1) = true := decide_eq_true c2
      have hr : R = 41 := by rw [hR]; unfold ctS; rw [if_neg hnf, if_pos (.inl c2)]
      rw [hr]
      simp only [runA, runB, runC, runD, runE, runF, fieldE, storeE, binE, ↓reduceIte, Nat.reduceLT, Nat.reduceLeDiff, Nat.reduceEqDiff, Nat.reduceAdd, Nat.reduceMul, Nat.reduceSub, reduceCtorEq, putAt, unE, Nat.reduceBEq, convE, buildE, List.replicate, Int.reduceLT, Int.reduceLE, Int.reduceToNat, mkE, mapSetE, hN, hF, ty_3, ty_4, ty_9, ty_24, ty_29, ty_31, ty_97, notIf, isEq, hlen, nt1, ntf, g1, a1', k2]
      refine drawnP_intro (by kernel_rfl) (by kernel_rfl) ?_
      simp only [runA, runB, runC, runD, runE, runF, fieldE, storeE, binE, ↓reduceIte, Nat.reduceLT, Nat.reduceLeDiff, Nat.reduceEqDiff, Nat.reduceAdd, Nat.reduceMul, Nat.reduceSub, reduceCtorEq, putAt, unE, Nat.reduceBEq, convE, buildE, List.replicate, Int.reduceLT, Int.reduceLE, Int.reduceToNat, mkE, mapSetE, hN, hF, ty_3, ty_4, ty_9, ty_24, ty_29, ty_31, ty_97, notIf, isEq, hlen, nt1, ntf, g1, a1', k2]
      simp only [runB, finC, finD, Option.isSome_some, Option.isSome_none, ↓reduceIte, Nat.reduceEqDiff, Nat.reduceAdd, Nat.reduceMul, forall_eq_or_imp, forall_eq, implies_true, Nat.reduceBEq, reduceCtorEq, false_implies, List.zip_cons_cons, List.zip_nil_left, List.zip_nil_right, Nat.reduceLeDiff, List.forall_mem_nil, rs_26, ty_3, ty_4, ty_9, ty_24, ty_29, ty_31, ty_97]
    have k2 : decide (q < 1) = false := decide_eq_false c2
    by_cases c3 : (cvs.length : Int) = q
    case neg =>
      have k3 : ((cvs.length : Int) != q) = true := by rw [bne_iff_ne]; exact c3
      have hr : R = 41 := by rw [hR]; unfold ctS; rw [if_neg hnf, if_pos (.inr c3)]
      rw [hr]
      simp only [runA, runB, runC, runD, runE, runF, fieldE, storeE, binE, ↓reduceIte, Nat.reduceLT, Nat.reduceLeDiff, Nat.reduceEqDiff, Nat.reduceAdd, Nat.reduceMul, Nat.reduceSub, reduceCtorEq, putAt, unE, Nat.reduceBEq, convE, buildE, List.replicate, Int.reduceLT, Int.reduceLE, Int.reduceToNat, mkE, mapSetE, hN, hF, ty_3, ty_4, ty_9, ty_24, ty_29, ty_31, ty_97, notIf, isEq, hlen, nt1, ntf, g1, a1', k2, k3]
      refine drawnP_intro (by kernel_rfl) (by kernel_rfl) ?_
      simp only [runA, runB, runC, runD, runE, runF, fieldE, storeE, binE, ↓reduceIte, Nat.reduceLT, Nat.reduceLeDiff, Nat.reduceEqDiff, Nat.reduceAdd, Nat.reduceMul, Nat.reduceSub, reduceCtorEq, putAt, unE, Nat.reduceBEq, convE, buildE, List.replicate, Int.reduceLT, Int.reduceLE, Int.reduceToNat, mkE, mapSetE, hN, hF, ty_3, ty_4, ty_9, ty_24, ty_29, ty_31, ty_97, notIf, isEq, hlen, nt1, ntf, g1, a1', k2, k3]
      simp only [runB, finC, finD, Option.isSome_some, Option.isSome_none, ↓reduceIte, Nat.reduceEqDiff, Nat.reduceAdd, Nat.reduceMul, forall_eq_or_imp, forall_eq, implies_true, Nat.reduceBEq, reduceCtorEq, false_implies, List.zip_cons_cons, List.zip_nil_left, List.zip_nil_right, Nat.reduceLeDiff, List.forall_mem_nil, rs_26, ty_3, ty_4, ty_9, ty_24, ty_29, ty_31, ty_97]
    have k3 : ((cvs.length : Int) != q) = false := by rw [c3, bne_self_eq_false]
    have hR2 : R = (if ∀ i, i < cvs.length → stepC ⟨cvw, cht, cbl, cvs⟩ roots i = true then 0 else 41) := by rw [hR]; unfold ctS; rw [if_neg hnf, if_neg (by rintro (h | h); exact c2 h; exact h c3)]
    simp only [runA, runB, runC, runD, runE, runF, fieldE, storeE, binE, ↓reduceIte, Nat.reduceLT, Nat.reduceLeDiff, Nat.reduceEqDiff, Nat.reduceAdd, Nat.reduceMul, Nat.reduceSub, reduceCtorEq, putAt, unE, Nat.reduceBEq, convE, buildE, List.replicate, Int.reduceLT, Int.reduceLE, Int.reduceToNat, mkE, mapSetE, hN, hF, ty_3, ty_4, ty_9, ty_24, ty_29, ty_31, ty_97, notIf, isEq, hlen, nt1, ntf, g1, a1', k2, k3]
    refine drawnP_intro (by kernel_rfl) (by kernel_rfl) ?_
    simp only [runA, runB, runC, runD, runE, runF, fieldE, storeE, binE, ↓reduceIte, Nat.reduceLT, Nat.reduceLeDiff, Nat.reduceEqDiff, Nat.reduceAdd, Nat.reduceMul, Nat.reduceSub, reduceCtorEq, putAt, unE, Nat.reduceBEq, convE, buildE, List.replicate, Int.reduceLT, Int.reduceLE, Int.reduceToNat, mkE, mapSetE, hN, hF, ty_3, ty_4, ty_9, ty_24, ty_29, ty_31, ty_97, notIf, isEq, hlen, nt1, ntf, g1, a1', k2, k3]
    refine AWP.loop (fun k st => ∃ i : Nat, (i ≤ cvs.length ∧ ∀ j, j < i → stepC ⟨cvw, cht, cbl, cvs⟩ roots j = true) ∧ k = cvs.length - i ∧ st = ⟨[(1, .c (.sl (texts roots))), (3, .ptr 192 0), (7, .c (.int .i64 (i : Int)))], [(192, .obj [.c (.int .i64 cvw), .c (.int .i64 cht), .c (.str cbl), .c (.sl (votes cvs))] false)]⟩) ⟨cvs.length, _, ?w, 0, ⟨Nat.zero_le _, fun j hj => absurd hj (by omega)⟩, rfl, rfl⟩ ?r
    case w =>
      rw [hns]
      simp only [runB, finC, finD, AS.get, AS.mem, false_implies, implies_true, ↓reduceIte, Nat.reduceEqDiff, Option.isSome_some, Option.isSome_none, forall_eq_or_imp, forall_eq, reduceCtorEq, Nat.reduceAdd, Nat.reduceMul, List.zip_cons_cons, List.zip_nil_left, List.zip_nil_right, List.forall_mem_nil]
      first | done | simp
    case r =>
      rintro k st ⟨i, ⟨hi, hall⟩, rfl, rfl⟩
      refine vc_sound hΓ mixed _ _ _ ?_
      by_cases hlt : i < cvs.length
      case neg =>
        obtain rfl : i = cvs.length := by omega
        have k4 : decide (((cvs.length : Nat) : Int) < (cvs.length : Int)) = false := decide_eq_false (by omega)
        have hr : R = 0 := by rw [hR2]; exact if_pos hall
        rw [hr]
        simp only [runA, runB, runC, runD, runE, runF, fieldE, storeE, binE, ↓reduceIte, Nat.reduceLT, Nat.reduceLeDiff, Nat.reduceEqDiff, Nat.reduceAdd, Nat.reduceMul, Nat.reduceSub, reduceCtorEq, putAt, unE, Nat.reduceBEq, convE, buildE, List.replicate, Int.reduceLT, Int.reduceLE, Int.reduceToNat, mkE, mapSetE, hN, hF, ty_3, ty_4, ty_9, ty_24, ty_29, ty_31, ty_97, notIf, isEq, hlen, nt1, ntf, g1, a1', k4]
        simp only [runB, finC, finD, Option.isSome_some, Option.isSome_none, ↓reduceIte, Nat.reduceEqDiff, Nat.reduceAdd, Nat.reduceMul, forall_eq_or_imp, forall_eq, implies_true, Nat.reduceBEq, reduceCtorEq, false_implies, List.zip_cons_cons, List.zip_nil_left, List.zip_nil_right, Nat.reduceLeDiff, List.forall_mem_nil, rs_26, ty_3, ty_4, ty_9, ty_24, ty_29, ty_31, ty_97]
      have k4 : decide ((i : Int) < (cvs.length : Int)) = true := decide_eq_true (by omega)
      have e1 : IntKind.i64.wrap ((i : Int) + 1) = (i : Int) + 1 := wrapI (by omega)
      have hy := votesG cvs i hlt
      have hs := stepC_def cvw cht cbl cvs roots i
      have hbad : stepC ⟨cvw, cht, cbl, cvs⟩ roots i = false → R = 41 := fun h => by rw [hR2]; exact if_neg (fun ha => by rw [ha i hlt] at h; cases h)
      have hnext : stepC ⟨cvw, cht, cbl, cvs⟩ roots i = true → ∀ j, j < i + 1 → stepC ⟨cvw, cht, cbl, cvs⟩ roots j = true := fun h j hj => by
        by_cases e : j = i
        · rw [e]; exact h
        · exact hall j (by omega)
      have hprev : 0 < i → (votes cvs)[i - 1]? = some [.int .i64 (cvs.getD (i - 1) zeroV).kd, .int .i64 (cvs.getD (i - 1) zeroV).vw, .int .i64 (cvs.getD (i - 1) zeroV).ht, .str (cvs.getD (i - 1) zeroV).bl, .int .i64 (cvs.getD (i - 1) zeroV).tk, .int .i64 (cvs.getD (i - 1) zeroV).sg, .str (cvs.getD (i - 1) zeroV).sig] := fun h => votesG cvs (i - 1) (by omega)
      generalize cvs.getD i zeroV = y at hy hs
      generalize cvs.getD (i - 1) zeroV = p at hs hprev
      have qv := voVa_at y roots hro
      unfold isV at hs
      cases b1 : y.kd == 1 with
      | false =>
        have b1' : (y.kd != 1) = true := by unfold bne; rw [b1]; rfl
        rw [hbad (by rw [hs, b1]; simp)]
        simp only [runA, runB, runC, runD, runE, runF, fieldE, storeE, binE, ↓reduceIte, Nat.reduceLT, Nat.reduceLeDiff, Nat.reduceEqDiff, Nat.reduceAdd, Nat.reduceMul, Nat.reduceSub, reduceCtorEq, putAt, unE, Nat.reduceBEq, convE, buildE, List.replicate, Int.reduceLT, Int.reduceLE, Int.reduceToNat, mkE, mapSetE, hN, hF, ty_3, ty_4, ty_9, ty_24, ty_29, ty_31, ty_97, notIf, isEq, hlen, nt1, ntf, g1, a1', k4, e1, hy, b1']
        refine drawnP_intro (by kernel_rfl) (by kernel_rfl) ?_
        simp only [runA, runB, runC, runD, runE, runF, fieldE, storeE, binE, ↓reduceIte, Nat.reduceLT, Nat.reduceLeDiff, Nat.reduceEqDiff, Nat.reduceAdd, Nat.reduceMul, Nat.reduceSub, reduceCtorEq, putAt, unE, Nat.reduceBEq, convE, buildE, List.replicate, Int.reduceLT, Int.reduceLE, Int.reduceToNat, mkE, mapSetE, hN, hF, ty_3, ty_4, ty_9, ty_24, ty_29, ty_31, ty_97, notIf, isEq, hlen, nt1, ntf, g1, a1', k4, e1, hy, b1']
        simp only [runB, finC, finD, Option.isSome_some, Option.isSome_none, ↓reduceIte, Nat.reduceEqDiff, Nat.reduceAdd, Nat.reduceMul, forall_eq_or_imp, forall_eq, implies_true, Nat.reduceBEq, reduceCtorEq, false_implies, List.zip_cons_cons, List.zip_nil_left, List.zip_nil_right, Nat.reduceLeDiff, List.forall_mem_nil, rs_26, ty_3, ty_4, ty_9, ty_24, ty_29, ty_31, ty_97]
      | true =>
      have b1' : (y.kd != 1) = false := by unfold bne; rw [b1]; rfl
      by_cases b2 : y.vw = cvw
      case neg =>
        have b2' : (y.vw != cvw) = true := by rw [bne_iff_ne]; exact b2
        have hmk : decide ((⟨y.vw, y.ht, y.bl⟩ : Mk) = ⟨cvw, cht, cbl⟩) = false := decide_eq_false (fun h => b2 (by injection h))
        rw [hbad (by rw [hs, b1, hmk]; simp)]
        simp only [runA, runB, runC, runD, runE, runF, fieldE, storeE, binE, ↓reduceIte, Nat.reduceLT, Nat.reduceLeDiff, Nat.reduceEqDiff, Nat.reduceAdd, Nat.reduceMul, Nat.reduceSub, reduceCtorEq, putAt, unE, Nat.reduceBEq, convE, buildE, List.replicate, Int.reduceLT, Int.reduceLE, Int.reduceToNat, mkE, mapSetE, hN, hF, ty_3, ty_4, ty_9, ty_24, ty_29, ty_31, ty_97, notIf, isEq, hlen, nt1, ntf, g1, a1', k4, e1, hy, b1', b2']
        refine drawnP_intro (by kernel_rfl) (by kernel_rfl) ?_
        simp only [runA, runB, runC, runD, runE, runF, fieldE, storeE, binE, ↓reduceIte, Nat.reduceLT, Nat.reduceLeDiff, Nat.reduceEqDiff, Nat.reduceAdd, Nat.reduceMul, Nat.reduceSub, reduceCtorEq, putAt, unE, Nat.reduceBEq, convE, buildE, List.replicate, Int.reduceLT, Int.reduceLE, Int.reduceToNat, mkE, mapSetE, hN, hF, ty_3, ty_4, ty_9, ty_24, ty_29, ty_31, ty_97, notIf, isEq, hlen, nt1, ntf, g1, a1', k4, e1, hy, b1', b2']
        simp only [runB, finC, finD, Option.isSome_some, Option.isSome_none, ↓reduceIte, Nat.reduceEqDiff, Nat.reduceAdd, Nat.reduceMul, forall_eq_or_imp, forall_eq, implies_true, Nat.reduceBEq, reduceCtorEq, false_implies, List.zip_cons_cons, List.zip_nil_left, List.zip_nil_right, Nat.reduceLeDiff, List.forall_mem_nil, rs_26, ty_3, ty_4, ty_9, ty_24, ty_29, ty_31, ty_97]
      have b2' : (y.vw != cvw) = false := by rw [b2, bne_self_eq_false]
      by_cases b3 : y.ht = cht
      case neg =>
        have b3' : (y.ht != cht) = true := by rw [bne_iff_ne]; exact b3
        have hmk : decide ((⟨y.vw, y.ht, y.bl⟩ : Mk) = ⟨cvw, cht, cbl⟩) = false := decide_eq_false (fun h => b3 (by injection h))
        rw [hbad (by rw [hs, b1, hmk]; simp)]
        simp only [runA, runB, runC, runD, runE, runF, fieldE, storeE, binE, ↓reduceIte, Nat.reduceLT, Nat.reduceLeDiff, Nat.reduceEqDiff, Nat.reduceAdd, Nat.reduceMul, Nat.reduceSub, reduceCtorEq, putAt, unE, Nat.reduceBEq, convE, buildE, List.replicate, Int.reduceLT, Int.reduceLE, Int.reduceToNat, mkE, mapSetE, hN, hF, ty_3, ty_4, ty_9, ty_24, ty_29, ty_31, ty_97, notIf, isEq, hlen, nt1, ntf, g1, a1', k4, e1, hy, b1', b2', b3']
        refine drawnP_intro (by kernel_rfl) (by kernel_rfl) ?_
        simp only [runA, runB, runC, runD, runE, runF, fieldE, storeE, binE, ↓reduceIte, Nat.reduceLT, Nat.reduceLeDiff, Nat.reduceEqDiff, Nat.reduceAdd, Nat.reduceMul, Nat.reduceSub, reduceCtorEq, putAt, unE, Nat.reduceBEq, convE, buildE, List.replicate, Int.reduceLT, Int.reduceLE, Int.reduceToNat, mkE, mapSetE, hN, hF, ty_3, ty_4, ty_9, ty_24, ty_29, ty_31, ty_97, notIf, isEq, hlen, nt1, ntf, g1, a1', k4, e1, hy, b1', b2', b3']
        simp only [runB, finC, finD, Option.isSome_some, Option.isSome_none, ↓reduceIte, Nat.reduceEqDiff, Nat.reduceAdd, Nat.reduceMul, forall_eq_or_imp, forall_eq, implies_true, Nat.reduceBEq, reduceCtorEq, false_implies, List.zip_cons_cons, List.zip_nil_left, List.zip_nil_right, Nat.reduceLeDiff, List.forall_mem_nil, rs_26, ty_3, ty_4, ty_9, ty_24, ty_29, ty_31, ty_97]
      have b3' : (y.ht != cht) = false := by rw [b3, bne_self_eq_false]
      by_cases b4 : y.bl = cbl
      case neg =>
        have b4' : (y.bl == cbl) = false := beq_eq_false_iff_ne.2 b4
        have hmk : decide ((⟨y.vw, y.ht, y.bl⟩ : Mk) = ⟨cvw, cht, cbl⟩) = false := decide_eq_false (fun h => b4 (by injection h))
        rw [hbad (by rw [hs, b1, hmk]; simp)]
        simp only [runA, runB, runC, runD, runE, runF, fieldE, storeE, binE, ↓reduceIte, Nat.reduceLT, Nat.reduceLeDiff, Nat.reduceEqDiff, Nat.reduceAdd, Nat.reduceMul, Nat.reduceSub, reduceCtorEq, putAt, unE, Nat.reduceBEq, convE, buildE, List.replicate, Int.reduceLT, Int.reduceLE, Int.reduceToNat, mkE, mapSetE, hN, hF, ty_3, ty_4, ty_9, ty_24, ty_29, ty_31, ty_97, notIf, isEq, hlen, nt1, ntf, g1, a1', k4, e1, hy, b1', b2', b3', b4']
        refine drawnP_intro (by kernel_rfl) (by kernel_rfl) ?_
        simp only [runA, runB, runC, runD, runE, runF, fieldE, storeE, binE, ↓reduceIte, Nat.reduceLT, Nat.reduceLeDiff, Nat.reduceEqDiff, Nat.reduceAdd, Nat.reduceMul, Nat.reduceSub, reduceCtorEq, putAt, unE, Nat.reduceBEq, convE, buildE, List.replicate, Int.reduceLT, Int.reduceLE, Int.reduceToNat, mkE, mapSetE, hN, hF, ty_3, ty_4, ty_9, ty_24, ty_29, ty_31, ty_97, notIf, isEq, hlen, nt1, ntf, g1, a1', k4, e1, hy, b1', b2', b3', b4']
        simp only [runB, finC, finD, Option.isSome_some, Option.isSome_none, ↓reduceIte, Nat.reduceEqDiff, Nat.reduceAdd, Nat.reduceMul, forall_eq_or_imp, forall_eq, implies_true, Nat.reduceBEq, reduceCtorEq, false_implies, List.zip_cons_cons, List.zip_nil_left, List.zip_nil_right, Nat.reduceLeDiff, List.forall_mem_nil, rs_26, ty_3, ty_4, ty_9, ty_24, ty_29, ty_31, ty_97]
      have b4' : (y.bl == cbl) = true := beq_iff_eq.2 b4
      have hmk : decide ((⟨y.vw, y.ht, y.bl⟩ : Mk) = ⟨cvw, cht, cbl⟩) = true := decide_eq_true (by rw [b2, b3, b4])
      cases v2 : validV y roots with
      | false =>
        rw [v2] at qv
        rw [hbad (by rw [hs, b1, hmk, v2]; simp)]
        simp only [runA, runB, runC, runD, runE, runF, fieldE, storeE, binE, ↓reduceIte, Nat.reduceLT, Nat.reduceLeDiff, Nat.reduceEqDiff, Nat.reduceAdd, Nat.reduceMul, Nat.reduceSub, reduceCtorEq, putAt, unE, Nat.reduceBEq, convE, buildE, List.replicate, Int.reduceLT, Int.reduceLE, Int.reduceToNat, mkE, mapSetE, hN, hF, ty_3, ty_4, ty_9, ty_24, ty_29, ty_31, ty_97, notIf, isEq, hlen, nt1, ntf, g1, a1', k4, e1, hy, b1', b2', b3', b4', h7, qv]
        refine drawnP_intro (by kernel_rfl) (by kernel_rfl) ?_
        simp only [runA, runB, runC, runD, runE, runF, fieldE, storeE, binE, ↓reduceIte, Nat.reduceLT, Nat.reduceLeDiff, Nat.reduceEqDiff, Nat.reduceAdd, Nat.reduceMul, Nat.reduceSub, reduceCtorEq, putAt, unE, Nat.reduceBEq, convE, buildE, List.replicate, Int.reduceLT, Int.reduceLE, Int.reduceToNat, mkE, mapSetE, hN, hF, ty_3, ty_4, ty_9, ty_24, ty_29, ty_31, ty_97, notIf, isEq, hlen, nt1, ntf, g1, a1', k4, e1, hy, b1', b2', b3', b4', h7, qv]
        simp only [runB, finC, finD, Option.isSome_some, Option.isSome_none, ↓reduceIte, Nat.reduceEqDiff, Nat.reduceAdd, Nat.reduceMul, forall_eq_or_imp, forall_eq, implies_true, Nat.reduceBEq, reduceCtorEq, false_implies, List.zip_cons_cons, List.zip_nil_left, List.zip_nil_right, Nat.reduceLeDiff, List.forall_mem_nil, rs_26, ty_3, ty_4, ty_9, ty_24, ty_29, ty_31, ty_97]
      | true =>
        rw [v2] at qv
        by_cases hi0 : i = 0
        · have g5 : decide ((i : Int) > 0) = false := decide_eq_false (by omega)
          have hst := hnext (by rw [hs, b1, hmk, v2, decide_eq_true hi0]; simp)
          simp only [runA, runB, runC, runD, runE, runF, fieldE, storeE, binE, ↓reduceIte, Nat.reduceLT, Nat.reduceLeDiff, Nat.reduceEqDiff, Nat.reduceAdd, Nat.reduceMul, Nat.reduceSub, reduceCtorEq, putAt, unE, Nat.reduceBEq, convE, buildE, List.replicate, Int.reduceLT, Int.reduceLE, Int.reduceToNat, mkE, mapSetE, hN, hF, ty_3, ty_4, ty_9, ty_24, ty_29, ty_31, ty_97, notIf, isEq, hlen, nt1, ntf, g1, a1', k4, e1, hy, b1', b2', b3', b4', h7, qv, g5]
          refine drawnP_intro (by kernel_rfl) (by kernel_rfl) ?_
          simp only [runA, runB, runC, runD, runE, runF, fieldE, storeE, binE, ↓reduceIte, Nat.reduceLT, Nat.reduceLeDiff, Nat.reduceEqDiff, Nat.reduceAdd, Nat.reduceMul, Nat.reduceSub, reduceCtorEq, putAt, unE, Nat.reduceBEq, convE, buildE, List.replicate, Int.reduceLT, Int.reduceLE, Int.reduceToNat, mkE, mapSetE, hN, hF, ty_3, ty_4, ty_9, ty_24, ty_29, ty_31, ty_97, notIf, isEq, hlen, nt1, ntf, g1, a1', k4, e1, hy, b1', b2', b3', b4', h7, qv, g5]
          refine ⟨cvs.length - (i + 1), _, by omega, ?_, i + 1, ⟨by omega, hst⟩, rfl, rfl⟩
          rw [hns]
          simp only [runB, finC, finD, AS.get, AS.mem, false_implies, implies_true, ↓reduceIte, Nat.reduceEqDiff, Option.isSome_some, Option.isSome_none, forall_eq_or_imp, forall_eq, reduceCtorEq, Nat.reduceAdd, Nat.reduceMul, List.zip_cons_cons, List.zip_nil_left, List.zip_nil_right, List.forall_mem_nil]
          first | done | simp
        · have g5 : decide ((i : Int) > 0) = true := decide_eq_true (by omega)
          have e6 : IntKind.i64.wrap ((i : Int) - 1) = ((i - 1 : Nat) : Int) := by rw [wrapI (by omega)]; omega
          have hp := hprev (by omega)
          by_cases hsg : p.sg < y.sg
          case neg =>
            have g6 : decide (p.sg ≥ y.sg) = true := decide_eq_true (by omega)
            rw [hbad (by rw [hs, b1, hmk, v2, decide_eq_false hi0, decide_eq_false hsg]; simp)]
            simp only [runA, runB, runC, runD, runE, runF, fieldE, storeE, binE, ↓reduceIte, Nat.reduceLT, Nat.reduceLeDiff, Nat.reduceEqDiff, Nat.reduceAdd, Nat.reduceMul, Nat.reduceSub, reduceCtorEq, putAt, unE, Nat.reduceBEq, convE, buildE, List.replicate, Int.reduceLT, Int.reduceLE, Int.reduceToNat, mkE, mapSetE, hN, hF, ty_3, ty_4, ty_9, ty_24, ty_29, ty_31, ty_97, notIf, isEq, hlen, nt1, ntf, g1, a1', k4, e1, hy, b1', b2', b3', b4', h7, qv, g5, e6, hp, g6]
            refine drawnP_intro (by kernel_rfl) (by kernel_rfl) ?_
            simp only [runA, runB, runC, runD, runE, runF, fieldE, storeE, binE, ↓reduceIte, Nat.reduceLT, Nat.reduceLeDiff, Nat.reduceEqDiff, Nat.reduceAdd, Nat.reduceMul, Nat.reduceSub, reduceCtorEq, putAt, unE, Nat.reduceBEq, convE, buildE, List.replicate, Int.reduceLT, Int.reduceLE, Int.reduceToNat, mkE, mapSetE, hN, hF, ty_3, ty_4, ty_9, ty_24, ty_29, ty_31, ty_97, notIf, isEq, hlen, nt1, ntf, g1, a1', k4, e1, hy, b1', b2', b3', b4', h7, qv, g5, e6, hp, g6]
            simp only [runB, finC, finD, Option.isSome_some, Option.isSome_none, ↓reduceIte, Nat.reduceEqDiff, Nat.reduceAdd, Nat.reduceMul, forall_eq_or_imp, forall_eq, implies_true, Nat.reduceBEq, reduceCtorEq, false_implies, List.zip_cons_cons, List.zip_nil_left, List.zip_nil_right, Nat.reduceLeDiff, List.forall_mem_nil, rs_26, ty_3, ty_4, ty_9, ty_24, ty_29, ty_31, ty_97]
          have g6 : decide (p.sg ≥ y.sg) = false := decide_eq_false (by omega)
          have hst := hnext (by rw [hs, b1, hmk, v2, decide_eq_false hi0, decide_eq_true hsg]; simp)
          simp only [runA, runB, runC, runD, runE, runF, fieldE, storeE, binE, ↓reduceIte, Nat.reduceLT, Nat.reduceLeDiff, Nat.reduceEqDiff, Nat.reduceAdd, Nat.reduceMul, Nat.reduceSub, reduceCtorEq, putAt, unE, Nat.reduceBEq, convE, buildE, List.replicate, Int.reduceLT, Int.reduceLE, Int.reduceToNat, mkE, mapSetE, hN, hF, ty_3, ty_4, ty_9, ty_24, ty_29, ty_31, ty_97, notIf, isEq, hlen, nt1, ntf, g1, a1', k4, e1, hy, b1', b2', b3', b4', h7, qv, g5, e6, hp, g6]
          refine drawnP_intro (by kernel_rfl) (by kernel_rfl) ?_
          simp only [runA, runB, runC, runD, runE, runF, fieldE, storeE, binE, ↓reduceIte, Nat.reduceLT, Nat.reduceLeDiff, Nat.reduceEqDiff, Nat.reduceAdd, Nat.reduceMul, Nat.reduceSub, reduceCtorEq, putAt, unE, Nat.reduceBEq, convE, buildE, List.replicate, Int.reduceLT, Int.reduceLE, Int.reduceToNat, mkE, mapSetE, hN, hF, ty_3, ty_4, ty_9, ty_24, ty_29, ty_31, ty_97, notIf, isEq, hlen, nt1, ntf, g1, a1', k4, e1, hy, b1', b2', b3', b4', h7, qv, g5, e6, hp, g6]
          refine ⟨cvs.length - (i + 1), _, by omega, ?_, i + 1, ⟨by omega, hst⟩, rfl, rfl⟩
          rw [hns]
          simp only [runB, finC, finD, AS.get, AS.mem, false_implies, implies_true, ↓reduceIte, Nat.reduceEqDiff, Option.isSome_some, Option.isSome_none, forall_eq_or_imp, forall_eq, reduceCtorEq, Nat.reduceAdd, Nat.reduceMul, List.zip_cons_cons, List.zip_nil_left, List.zip_nil_right, List.forall_mem_nil]
          first | done | simp
  have a1' : (cvw == 0) = true := beq_iff_eq.2 a1
  by_cases a2 : cht = 0
  case neg =>
    have a2' : (cht == 0) = false := beq_eq_false_iff_ne.2 a2
    have hnf : ¬ (cvs = [] ∧ (⟨cvw, cht, cbl⟩ : Mk) = ⟨0, 0, genS⟩) := fun h => a2 (by injection h.2)
    by_cases c2 : q < 1
    · have k2 : decide (q < 1) = true := decide_eq_true c2
      have hr : R = 41 := by rw [hR]; unfold ctS; rw [if_neg hnf, if_pos (.inl c2)]
      rw [hr]
      simp only [runA, runB, runC, runD, runE, runF, fieldE, storeE, binE, ↓reduceIte, Nat.reduceLT, Nat.reduceLeDiff, Nat.reduceEqDiff, Nat.reduceAdd, Nat.reduceMul, Nat.reduceSub, reduceCtorEq, putAt, unE, Nat.reduceBEq, convE, buildE, List.replicate, Int.reduceLT, Int.reduceLE, Int.reduceToNat, mkE, mapSetE, hN, hF, ty_3, ty_4, ty_9, ty_24, ty_29, ty_31, ty_97, notIf, isEq, hlen, nt1, ntf, g1, a1', a2', k2]
      refine drawnP_intro (by kernel_rfl) (by kernel_rfl) ?_
      simp only [runA, runB, runC, runD, runE, runF, fieldE, storeE, binE, ↓reduceIte, Nat.reduceLT, Nat.reduceLeDiff, Nat.reduceEqDiff, Nat.reduceAdd, Nat.reduceMul, Nat.reduceSub, reduceCtorEq, putAt, unE, Nat.reduceBEq, convE, buildE, List.replicate, Int.reduceLT, Int.reduceLE, Int.reduceToNat, mkE, mapSetE, hN, hF, ty_3, ty_4, ty_9, ty_24, ty_29, ty_31, ty_97, notIf, isEq, hlen, nt1, ntf, g1, a1', a2', k2]
      simp only [runB, finC, finD, Option.isSome_some, Option.isSome_none, ↓reduceIte, Nat.reduceEqDiff, Nat.reduceAdd, Nat.reduceMul, forall_eq_or_imp, forall_eq, implies_true, Nat.reduceBEq, reduceCtorEq, false_implies, List.zip_cons_cons, List.zip_nil_left, List.zip_nil_right, Nat.reduceLeDiff, List.forall_mem_nil, rs_26, ty_3, ty_4, ty_9, ty_24, ty_29, ty_31, ty_97]
    have k2 : decide (q < 1) = false := decide_eq_false c2
    by_cases c3 : (cvs.length : Int) = q
    case neg =>
      have k3 : ((cvs.length : Int) != q) = true := by rw [bne_iff_ne]; exact c3
      have hr : R = 41 := by rw [hR]; unfold ctS; rw [if_neg hnf, if_pos (.inr c3)]
      rw [hr]
      simp only [runA, runB, runC, runD, runE, runF, fieldE, storeE, binE, ↓reduceIte, Nat.reduceLT, Nat.reduceLeDiff, Nat.reduceEqDiff, Nat.reduceAdd, Nat.reduceMul, Nat.reduceSub, reduceCtorEq, putAt, unE, Nat.reduceBEq, convE, buildE, List.replicate, Int.reduceLT, Int.reduceLE, Int.reduceToNat, mkE, mapSetE, hN, hF, ty_3, ty_4, ty_9, ty_24, ty_29, ty_31, ty_97, notIf, isEq, hlen, nt1, ntf, g1, a1', a2', k2, k3]
      refine drawnP_intro (by kernel_rfl) (by kernel_rfl) ?_
      simp only [runA, runB, runC, runD, runE, runF, fieldE, storeE, binE, ↓reduceIte, Nat.reduceLT, Nat.reduceLeDiff, Nat.reduceEqDiff, Nat.reduceAdd, Nat.reduceMul, Nat.reduceSub, reduceCtorEq, putAt, unE, Nat.reduceBEq, convE, buildE, List.replicate, Int.reduceLT, Int.reduceLE, Int.reduceToNat, mkE, mapSetE, hN, hF, ty_3, ty_4, ty_9, ty_24, ty_29, ty_31, ty_97, notIf, isEq, hlen, nt1, ntf, g1, a1', a2', k2, k3]
      simp only [runB, finC, finD, Option.isSome_some, Option.isSome_none, ↓reduceIte, Nat.reduceEqDiff, Nat.reduceAdd, Nat.reduceMul, forall_eq_or_imp, forall_eq, implies_true, Nat.reduceBEq, reduceCtorEq, false_implies, List.zip_cons_cons, List.zip_nil_left, List.zip_nil_right, Nat.reduceLeDiff, List.forall_mem_nil, rs_26, ty_3, ty_4, ty_9, ty_24, ty_29, ty_31, ty_97]
    have k3 : ((cvs.length : Int) != q) = false := by rw [c3, bne_self_eq_false]
    have hR2 : R = (if ∀ i, i < cvs.length → stepC ⟨cvw, cht, cbl, cvs⟩ roots i = true then 0 else 41) := by rw [hR]; unfold ctS; rw [if_neg hnf, if_neg (by rintro (h | h); exact c2 h; exact h c3)]
    simp only [runA, runB, runC, runD, runE, runF, fieldE, storeE, binE, ↓reduceIte, Nat.reduceLT, Nat.reduceLeDiff, Nat.reduceEqDiff, Nat.reduceAdd, Nat.reduceMul, Nat.reduceSub, reduceCtorEq, putAt, unE, Nat.reduceBEq, convE, buildE, List.replicate, Int.reduceLT, Int.reduceLE, Int.reduceToNat, mkE, mapSetE, hN, hF, ty_3, ty_4, ty_9, ty_24, ty_29, ty_31, ty_97, notIf, isEq, hlen, nt1, ntf, g1, a1', a2', k2, k3]
    refine drawnP_intro (by kernel_rfl) (by kernel_rfl) ?_
    simp only [runA, runB, runC, runD, runE, runF, fieldE, storeE, binE, ↓reduceIte, Nat.reduceLT, Nat.reduceLeDiff, Nat.reduceEqDiff, Nat.reduceAdd, Nat.reduceMul, Nat.reduceSub, reduceCtorEq, putAt, unE, Nat.reduceBEq, convE, buildE, List.replicate, Int.reduceLT, Int.reduceLE, Int.reduceToNat, mkE, mapSetE, hN, hF, ty_3, ty_4, ty_9, ty_24, ty_29, ty_31, ty_97, notIf, isEq, hlen, nt1, ntf, g1, a1', a2', k2, k3]
    refine AWP.loop (fun k st => ∃ i : Nat, (i ≤ cvs.length ∧ ∀ j, j < i → stepC ⟨cvw, cht, cbl, cvs⟩ roots j = true) ∧ k = cvs.length - i ∧ st = ⟨[(1, .c (.sl (texts roots))), (3, .ptr 192 0), (7, .c (.int .i64 (i : Int)))], [(192, .obj [.c (.int .i64 cvw), .c (.int .i64 cht), .c (.str cbl), .c (.sl (votes cvs))] false)]⟩) ⟨cvs.length, _, ?w, 0, ⟨Nat.zero_le _, fun j hj => absurd hj (by omega)⟩, rfl, rfl⟩ ?r
    case w =>
      rw [hns]
      simp only [runB, finC, finD, AS.get, AS.mem, false_implies, implies_true, ↓reduceIte, Nat.reduceEqDiff, Option.isSome_some, Option.isSome_none, forall_eq_or_imp, forall_eq, reduceCtorEq, Nat.reduceAdd, Nat.reduceMul, List.zip_cons_cons, List.zip_nil_left, List.zip_nil_right, List.forall_mem_nil]
      first | done | simp
    case r =>
      rintro k st ⟨i, ⟨hi, hall⟩, rfl, rfl⟩
      refine vc_sound hΓ mixed _ _ _ ?_
      by_cases hlt : i < cvs.length
      case neg =>
        obtain rfl : i = cvs.length := by omega
        have k4 : decide (((cvs.length : Nat) : Int) < (cvs.length : Int)) = false := decide_eq_false (by omega)
        have hr : R = 0 := by rw [hR2]; exact if_pos hall
        rw [hr]
        simp only [runA, runB, runC, runD, runE, runF, fieldE, storeE, binE, ↓reduceIte, Nat.reduceLT, Nat.reduceLeDiff, Nat.reduceEqDiff, Nat.reduceAdd, Nat.reduceMul, Nat.reduceSub, reduceCtorEq, putAt, unE, Nat.reduceBEq, convE, buildE, List.replicate, Int.reduceLT, Int.reduceLE, Int.reduceToNat, mkE, mapSetE, hN, hF, ty_3, ty_4, ty_9, ty_24, ty_29, ty_31, ty_97, notIf, isEq, hlen, nt1, ntf, g1, a1', a2', k4]
        simp only [runB, finC, finD, Option.isSome_some, Option.isSome_none, ↓reduceIte, Nat.reduceEqDiff, Nat.reduceAdd, Nat.reduceMul, forall_eq_or_imp, forall_eq, implies_true, Nat.reduceBEq, reduceCtorEq, false_implies, List.zip_cons_cons, List.zip_nil_left, List.zip_nil_right, Nat.reduceLeDiff, List.forall_mem_nil, rs_26, ty_3, ty_4, ty_9, ty_24, ty_29, ty_31, ty_97]
      have k4 : decide ((i : Int) < (cvs.length : Int)) = true := decide_eq_true (by omega)
      have e1 : IntKind.i64.wrap ((i : Int) + 1) = (i : Int) + 1 := wrapI (by omega)
      have hy := votesG cvs i hlt
      have hs := stepC_def cvw cht cbl cvs roots i
      have hbad : stepC ⟨cvw, cht, cbl, cvs⟩ roots i = false → R = 41 := fun h => by rw [hR2]; exact if_neg (fun ha => by rw [ha i hlt] at h; cases h)
      have hnext : stepC ⟨cvw, cht, cbl, cvs⟩ roots i = true → ∀ j, j < i + 1 → stepC ⟨cvw, cht, cbl, cvs⟩ roots j = true := fun h j hj => by
        by_cases e : j = i
        · rw [e]; exact h
        · exact hall j (by omega)
      have hprev : 0 < i → (votes cvs)[i - 1]? = some [.int .i64 (cvs.getD (i - 1) zeroV).kd, .int .i64 (cvs.getD (i - 1) zeroV).vw, .int .i64 (cvs.getD (i - 1) zeroV).ht, .str (cvs.getD (i - 1) zeroV).bl, .int .i64 (cvs.getD (i - 1) zeroV).tk, .int .i64 (cvs.getD (i - 1) zeroV).sg, .str (cvs.getD (i - 1) zeroV).sig] := fun h => votesG cvs (i - 1) (by omega)
      generalize cvs.getD i zeroV = y at hy hs
      generalize cvs.getD (i - 1) zeroV = p at hs hprev
      have qv := voVa_at y roots hro
      unfold isV at hs
      cases b1 : y.kd == 1 with
      | false =>
        have b1' : (y.kd != 1) = true := by unfold bne; rw [b1]; rfl
        rw [hbad (by rw [hs, b1]; simp)]
        simp only [runA, runB, runC, runD, runE, runF, fieldE, storeE, binE, ↓reduceIte, Nat.reduceLT, Nat.reduceLeDiff, Nat.reduceEqDiff, Nat.reduceAdd, Nat.reduceMul, Nat.reduceSub, reduceCtorEq, putAt, unE, Nat.reduceBEq, convE, buildE, List.replicate, Int.reduceLT, Int.reduceLE, Int.reduceToNat, mkE, mapSetE, hN, hF, ty_3, ty_4, ty_9, ty_24, ty_29, ty_31, ty_97, notIf, isEq, hlen, nt1, ntf, g1, a1', a2', k4, e1, hy, b1']
        refine drawnP_intro (by kernel_rfl) (by kernel_rfl) ?_
        simp only [runA, runB, runC, runD, runE, runF, fieldE, storeE, binE, ↓reduceIte, Nat.reduceLT, Nat.reduceLeDiff, Nat.reduceEqDiff, Nat.reduceAdd, Nat.reduceMul, Nat.reduceSub, reduceCtorEq, putAt, unE, Nat.reduceBEq, convE, buildE, List.replicate, Int.reduceLT, Int.reduceLE, Int.reduceToNat, mkE, mapSetE, hN, hF, ty_3, ty_4, ty_9, ty_24, ty_29, ty_31, ty_97, notIf, isEq, hlen, nt1, ntf, g1, a1', a2', k4, e1, hy, b1']
        simp only [runB, finC, finD, Option.isSome_some, Option.isSome_none, ↓reduceIte, Nat.reduceEqDiff, Nat.reduceAdd, Nat.reduceMul, forall_eq_or_imp, forall_eq, implies_true, Nat.reduceBEq, reduceCtorEq, false_implies, List.zip_cons_cons, List.zip_nil_left, List.zip_nil_right, Nat.reduceLeDiff, List.forall_mem_nil, rs_26, ty_3, ty_4, ty_9, ty_24, ty_29, ty_31, ty_97]
      | true =>
      have b1' : (y.kd != 1) = false := by unfold bne; rw [b1]; rfl
      by_cases b2 : y.vw = cvw
      case neg =>
        have b2' : (y.vw != cvw) = true := by rw [bne_iff_ne]; exact b2
        have hmk : decide ((⟨y.vw, y.ht, y.bl⟩ : Mk) = ⟨cvw, cht, cbl⟩) = false := decide_eq_false (fun h => b2 (by injection h))
        rw [hbad (by rw [hs, b1, hmk]; simp)]
        simp only [runA, runB, runC, runD, runE, runF, fieldE, storeE, binE, ↓reduceIte, Nat.reduceLT, Nat.reduceLeDiff, Nat.reduceEqDiff, Nat.reduceAdd, Nat.reduceMul, Nat.reduceSub, reduceCtorEq, putAt, unE, Nat.reduceBEq, convE, buildE, List.replicate, Int.reduceLT, Int.reduceLE, Int.reduceToNat, mkE, mapSetE, hN, hF, ty_3, ty_4, ty_9, ty_24, ty_29, ty_31, ty_97, notIf, isEq, hlen, nt1, ntf, g1, a1', a2', k4, e1, hy, b1', b2']
        refine drawnP_intro (by kernel_rfl) (by kernel_rfl) ?_
        simp only [runA, runB, runC, runD, runE, runF, fieldE, storeE, binE, ↓reduceIte, Nat.reduceLT, Nat.reduceLeDiff, Nat.reduceEqDiff, Nat.reduceAdd, Nat.reduceMul, Nat.reduceSub, reduceCtorEq, putAt, unE, Nat.reduceBEq, convE, buildE, List.replicate, Int.reduceLT, Int.reduceLE, Int.reduceToNat, mkE, mapSetE, hN, hF, ty_3, ty_4, ty_9, ty_24, ty_29, ty_31, ty_97, notIf, isEq, hlen, nt1, ntf, g1, a1', a2', k4, e1, hy, b1', b2']
        simp only [runB, finC, finD, Option.isSome_some, Option.isSome_none, ↓reduceIte, Nat.reduceEqDiff, Nat.reduceAdd, Nat.reduceMul, forall_eq_or_imp, forall_eq, implies_true, Nat.reduceBEq, reduceCtorEq, false_implies, List.zip_cons_cons, List.zip_nil_left, List.zip_nil_right, Nat.reduceLeDiff, List.forall_mem_nil, rs_26, ty_3, ty_4, ty_9, ty_24, ty_29, ty_31, ty_97]
      have b2' : (y.vw != cvw) = false := by rw [b2, bne_self_eq_false]
      by_cases b3 : y.ht = cht
      case neg =>
        have b3' : (y.ht != cht) = true := by rw [bne_iff_ne]; exact b3
        have hmk : decide ((⟨y.vw, y.ht, y.bl⟩ : Mk) = ⟨cvw, cht, cbl⟩) = false := decide_eq_false (fun h => b3 (by injection h))
        rw [hbad (by rw [hs, b1, hmk]; simp)]
        simp only [runA, runB, runC, runD, runE, runF, fieldE, storeE, binE, ↓reduceIte, Nat.reduceLT, Nat.reduceLeDiff, Nat.reduceEqDiff, Nat.reduceAdd, Nat.reduceMul, Nat.reduceSub, reduceCtorEq, putAt, unE, Nat.reduceBEq, convE, buildE, List.replicate, Int.reduceLT, Int.reduceLE, Int.reduceToNat, mkE, mapSetE, hN, hF, ty_3, ty_4, ty_9, ty_24, ty_29, ty_31, ty_97, notIf, isEq, hlen, nt1, ntf, g1, a1', a2', k4, e1, hy, b1', b2', b3']
        refine drawnP_intro (by kernel_rfl) (by kernel_rfl) ?_
        simp only [runA, runB, runC, runD, runE, runF, fieldE, storeE, binE, ↓reduceIte, Nat.reduceLT, Nat.reduceLeDiff, Nat.reduceEqDiff, Nat.reduceAdd, Nat.reduceMul, Nat.reduceSub, reduceCtorEq, putAt, unE, Nat.reduceBEq, convE, buildE, List.replicate, Int.reduceLT, Int.reduceLE, Int.reduceToNat, mkE, mapSetE, hN, hF, ty_3, ty_4, ty_9, ty_24, ty_29, ty_31, ty_97, notIf, isEq, hlen, nt1, ntf, g1, a1', a2', k4, e1, hy, b1', b2', b3']
        simp only [runB, finC, finD, Option.isSome_some, Option.isSome_none, ↓reduceIte, Nat.reduceEqDiff, Nat.reduceAdd, Nat.reduceMul, forall_eq_or_imp, forall_eq, implies_true, Nat.reduceBEq, reduceCtorEq, false_implies, List.zip_cons_cons, List.zip_nil_left, List.zip_nil_right, Nat.reduceLeDiff, List.forall_mem_nil, rs_26, ty_3, ty_4, ty_9, ty_24, ty_29, ty_31, ty_97]
      have b3' : (y.ht != cht) = false := by rw [b3, bne_self_eq_false]
      by_cases b4 : y.bl = cbl
      case neg =>
        have b4' : (y.bl == cbl) = false := beq_eq_false_iff_ne.2 b4
        have hmk : decide ((⟨y.vw, y.ht, y.bl⟩ : Mk) = ⟨cvw, cht, cbl⟩) = false := decide_eq_false (fun h => b4 (by injection h))
        rw [hbad (by rw [hs, b1, hmk]; simp)]
        simp only [runA, runB, runC, runD, runE, runF, fieldE, storeE, binE, ↓reduceIte, Nat.reduceLT, Nat.reduceLeDiff, Nat.reduceEqDiff, Nat.reduceAdd, Nat.reduceMul, Nat.reduceSub, reduceCtorEq, putAt, unE, Nat.reduceBEq, convE, buildE, List.replicate, Int.reduceLT, Int.reduceLE, Int.reduceToNat, mkE, mapSetE, hN, hF, ty_3, ty_4, ty_9, ty_24, ty_29, ty_31, ty_97, notIf, isEq, hlen, nt1, ntf, g1, a1', a2', k4, e1, hy, b1', b2', b3', b4']
        refine drawnP_intro (by kernel_rfl) (by kernel_rfl) ?_
        simp only [runA, runB, runC, runD, runE, runF, fieldE, storeE, binE, ↓reduceIte, Nat.reduceLT, Nat.reduceLeDiff, Nat.reduceEqDiff, Nat.reduceAdd, Nat.reduceMul, Nat.reduceSub, reduceCtorEq, putAt, unE, Nat.reduceBEq, convE, buildE, List.replicate, Int.reduceLT, Int.reduceLE, Int.reduceToNat, mkE, mapSetE, hN, hF, ty_3, ty_4, ty_9, ty_24, ty_29, ty_31, ty_97, notIf, isEq, hlen, nt1, ntf, g1, a1', a2', k4, e1, hy, b1', b2', b3', b4']
        simp only [runB, finC, finD, Option.isSome_some, Option.isSome_none, ↓reduceIte, Nat.reduceEqDiff, Nat.reduceAdd, Nat.reduceMul, forall_eq_or_imp, forall_eq, implies_true, Nat.reduceBEq, reduceCtorEq, false_implies, List.zip_cons_cons, List.zip_nil_left, List.zip_nil_right, Nat.reduceLeDiff, List.forall_mem_nil, rs_26, ty_3, ty_4, ty_9, ty_24, ty_29, ty_31, ty_97]
      have b4' : (y.bl == cbl) = true := beq_iff_eq.2 b4
      have hmk : decide ((⟨y.vw, y.ht, y.bl⟩ : Mk) = ⟨cvw, cht, cbl⟩) = true := decide_eq_true (by rw [b2, b3, b4])
      cases v2 : validV y roots with
      | false =>
        rw [v2] at qv
        rw [hbad (by rw [hs, b1, hmk, v2]; simp)]
        simp only [runA, runB, runC, runD, runE, runF, fieldE, storeE, binE, ↓reduceIte, Nat.reduceLT, Nat.reduceLeDiff, Nat.reduceEqDiff, Nat.reduceAdd, Nat.reduceMul, Nat.reduceSub, reduceCtorEq, putAt, unE, Nat.reduceBEq, convE, buildE, List.replicate, Int.reduceLT, Int.reduceLE, Int.reduceToNat, mkE, mapSetE, hN, hF, ty_3, ty_4, ty_9, ty_24, ty_29, ty_31, ty_97, notIf, isEq, hlen, nt1, ntf, g1, a1', a2', k4, e1, hy, b1', b2', b3', b4', h7, qv]
        refine drawnP_intro (by kernel_rfl) (by kernel_rfl) ?_
        simp only [runA, runB, runC, runD, runE, runF, fieldE, storeE, binE, ↓reduceIte, Nat.reduceLT, Nat.reduceLeDiff, Nat.reduceEqDiff, Nat.reduceAdd, Nat.reduceMul, Nat.reduceSub, reduceCtorEq, putAt, unE, Nat.reduceBEq, convE, buildE, List.replicate, Int.reduceLT, Int.reduceLE, Int.reduceToNat, mkE, mapSetE, hN, hF, ty_3, ty_4, ty_9, ty_24, ty_29, ty_31, ty_97, notIf, isEq, hlen, nt1, ntf, g1, a1', a2', k4, e1, hy, b1', b2', b3', b4', h7, qv]
        simp only [runB, finC, finD, Option.isSome_some, Option.isSome_none, ↓reduceIte, Nat.reduceEqDiff, Nat.reduceAdd, Nat.reduceMul, forall_eq_or_imp, forall_eq, implies_true, Nat.reduceBEq, reduceCtorEq, false_implies, List.zip_cons_cons, List.zip_nil_left, List.zip_nil_right, Nat.reduceLeDiff, List.forall_mem_nil, rs_26, ty_3, ty_4, ty_9, ty_24, ty_29, ty_31, ty_97]
      | true =>
        rw [v2] at qv
        by_cases hi0 : i = 0
        · have g5 : decide ((i : Int) > 0) = false := decide_eq_false (by omega)
          have hst := hnext (by rw [hs, b1, hmk, v2, decide_eq_true hi0]; simp)
          simp only [runA, runB, runC, runD, runE, runF, fieldE, storeE, binE, ↓reduceIte, Nat.reduceLT, Nat.reduceLeDiff, Nat.reduceEqDiff, Nat.reduceAdd, Nat.reduceMul, Nat.reduceSub, reduceCtorEq, putAt, unE, Nat.reduceBEq, convE, buildE, List.replicate, Int.reduceLT, Int.reduceLE, Int.reduceToNat, mkE, mapSetE, hN, hF, ty_3, ty_4, ty_9, ty_24, ty_29, ty_31, ty_97, notIf, isEq, hlen, nt1, ntf, g1, a1', a2', k4, e1, hy, b1', b2', b3', b4', h7, qv, g5]
          refine drawnP_intro (by kernel_rfl) (by kernel_rfl) ?_
          simp only [runA, runB, runC, runD, runE, runF, fieldE, storeE, binE, ↓reduceIte, Nat.reduceLT, Nat.reduceLeDiff, Nat.reduceEqDiff, Nat.reduceAdd, Nat.reduceMul, Nat.reduceSub, reduceCtorEq, putAt, unE, Nat.reduceBEq, convE, buildE, List.replicate, Int.reduceLT, Int.reduceLE, Int.reduceToNat, mkE, mapSetE, hN, hF, ty_3, ty_4, ty_9, ty_24, ty_29, ty_31, ty_97, notIf, isEq, hlen, nt1, ntf, g1, a1', a2', k4, e1, hy, b1', b2', b3', b4', h7, qv, g5]
          refine ⟨cvs.length - (i + 1), _, by omega, ?_, i + 1, ⟨by omega, hst⟩, rfl, rfl⟩
          rw [hns]
          simp only [runB, finC, finD, AS.get, AS.mem, false_implies, implies_true, ↓reduceIte, Nat.reduceEqDiff, Option.isSome_some, Option.isSome_none, forall_eq_or_imp, forall_eq, reduceCtorEq, Nat.reduceAdd, Nat.reduceMul, List.zip_cons_cons, List.zip_nil_left, List.zip_nil_right, List.forall_mem_nil]
          first | done | simp
        · have g5 : decide ((i : Int) > 0) = true := decide_eq_true (by omega)
          have e6 : IntKind.i64.wrap ((i : Int) - 1) = ((i - 1 : Nat) : Int) := by rw [wrapI (by omega)]; omega
          have hp := hprev (by omega)
          by_cases hsg : p.sg < y.sg
          case neg =>
            have g6 : decide (p.sg ≥ y.sg) = true := decide_eq_true (by omega)
            rw [hbad (by rw [hs, b1, hmk, v2, decide_eq_false hi0, decide_eq_false hsg]; simp)]
            simp only [runA, runB, runC, runD, runE, runF, fieldE, storeE, binE, ↓reduceIte, Nat.reduceLT, Nat.reduceLeDiff, Nat.reduceEqDiff, Nat.reduceAdd, Nat.reduceMul, Nat.reduceSub, reduceCtorEq, putAt, unE, Nat.reduceBEq, convE, buildE, List.replicate, Int.reduceLT, Int.reduceLE, Int.reduceToNat, mkE, mapSetE, hN, hF, ty_3, ty_4, ty_9, ty_24, ty_29, ty_31, ty_97, notIf, isEq, hlen, nt1, ntf, g1, a1', a2', k4, e1, hy, b1', b2', b3', b4', h7, qv, g5, e6, hp, g6]
            refine drawnP_intro (by kernel_rfl) (by kernel_rfl) ?_
            simp only [runA, runB, runC, runD, runE, runF, fieldE, storeE, binE, ↓reduceIte, Nat.reduceLT, Nat.reduceLeDiff, Nat.reduceEqDiff, Nat.reduceAdd, Nat.reduceMul, Nat.reduceSub, reduceCtorEq, putAt, unE, Nat.reduceBEq, convE, buildE, List.replicate, Int.reduceLT, Int.reduceLE, Int.reduceToNat, mkE, mapSetE, hN, hF, ty_3, ty_4, ty_9, ty_24, ty_29, ty_31, ty_97, notIf, isEq, hlen, nt1, ntf, g1, a1', a2', k4, e1, hy, b1', b2', b3', b4', h7, qv, g5, e6, hp, g6]
            simp only [runB, finC, finD, Option.isSome_some, Option.isSome_none, ↓reduceIte, Nat.reduceEqDiff, Nat.reduceAdd, Nat.reduceMul, forall_eq_or_imp, forall_eq, implies_true, Nat.reduceBEq, reduceCtorEq, false_implies, List.zip_cons_cons, List.zip_nil_left, List.zip_nil_right, Nat.reduceLeDiff, List.forall_mem_nil, rs_26, ty_3, ty_4, ty_9, ty_24, ty_29, ty_31, ty_97]
          have g6 : decide (p.sg ≥ y.sg) = false := decide_eq_false (by omega)
          have hst := hnext (by rw [hs, b1, hmk, v2, decide_eq_false hi0, decide_eq_true hsg]; simp)
          simp only [runA, runB, runC, runD, runE, runF, fieldE, storeE, binE, ↓reduceIte, Nat.reduceLT, Nat.reduceLeDiff, Nat.reduceEqDiff, Nat.reduceAdd, Nat.reduceMul, Nat.reduceSub, reduceCtorEq, putAt, unE, Nat.reduceBEq, convE, buildE, List.replicate, Int.reduceLT, Int.reduceLE, Int.reduceToNat, mkE, mapSetE, hN, hF, ty_3, ty_4, ty_9, ty_24, ty_29, ty_31, ty_97, notIf, isEq, hlen, nt1, ntf, g1, a1', a2', k4, e1, hy, b1', b2', b3', b4', h7, qv, g5, e6, hp, g6]
          refine drawnP_intro (by kernel_rfl) (by kernel_rfl) ?_
          simp only [runA, runB, runC, runD, runE, runF, fieldE, storeE, binE, ↓reduceIte, Nat.reduceLT, Nat.reduceLeDiff, Nat.reduceEqDiff, Nat.reduceAdd, Nat.reduceMul, Nat.reduceSub, reduceCtorEq, putAt, unE, Nat.reduceBEq, convE, buildE, List.replicate, Int.reduceLT, Int.reduceLE, Int.reduceToNat, mkE, mapSetE, hN, hF, ty_3, ty_4, ty_9, ty_24, ty_29, ty_31, ty_97, notIf, isEq, hlen, nt1, ntf, g1, a1', a2', k4, e1, hy, b1', b2', b3', b4', h7, qv, g5, e6, hp, g6]
          refine ⟨cvs.length - (i + 1), _, by omega, ?_, i + 1, ⟨by omega, hst⟩, rfl, rfl⟩
          rw [hns]
          simp only [runB, finC, finD, AS.get, AS.mem, false_implies, implies_true, ↓reduceIte, Nat.reduceEqDiff, Option.isSome_some, Option.isSome_none, forall_eq_or_imp, forall_eq, reduceCtorEq, Nat.reduceAdd, Nat.reduceMul, List.zip_cons_cons, List.zip_nil_left, List.zip_nil_right, List.forall_mem_nil]
          first | done | simp
  have a2' : (cht == 0) = true := beq_iff_eq.2 a2
  by_cases a3 : cbl = genS
  case neg =>
    have a3' : (cbl == genS) = false := beq_eq_false_iff_ne.2 a3
    have hnf : ¬ (cvs = [] ∧ (⟨cvw, cht, cbl⟩ : Mk) = ⟨0, 0, genS⟩) := fun h => a3 (by injection h.2)
    by_cases c2 : q < 1
    · have k2 : decide (q < 1) = true := decide_eq_true c2
      have hr : R = 41 := by rw [hR]; unfold ctS; rw [if_neg hnf, if_pos (.inl c2)]
      rw [hr]
      simp only [runA, runB, runC, runD, runE, runF, fieldE, storeE, binE, ↓reduceIte, Nat.reduceLT, Nat.reduceLeDiff, Nat.reduceEqDiff, Nat.reduceAdd, Nat.reduceMul, Nat.reduceSub, reduceCtorEq, putAt, unE, Nat.reduceBEq, convE, buildE, List.replicate, Int.reduceLT, Int.reduceLE, Int.reduceToNat, mkE, mapSetE, hN, hF, ty_3, ty_4, ty_9, ty_24, ty_29, ty_31, ty_97, notIf, isEq, hlen, nt1, ntf, g1, a1', a2', a3', h4, qg, k2]
      refine drawnP_intro (by kernel_rfl) (by kernel_rfl) ?_
      simp only [runA, runB, runC, runD, runE, runF, fieldE, storeE, binE, ↓reduceIte, Nat.reduceLT, Nat.reduceLeDiff, Nat.reduceEqDiff, Nat.reduceAdd, Nat.reduceMul, Nat.reduceSub, reduceCtorEq, putAt, unE, Nat.reduceBEq, convE, buildE, List.replicate, Int.reduceLT, Int.reduceLE, Int.reduceToNat, mkE, mapSetE, hN, hF, ty_3, ty_4, ty_9, ty_24, ty_29, ty_31, ty_97, notIf, isEq, hlen, nt1, ntf, g1, a1', a2', a3', h4, qg, k2]
      simp only [runB, finC, finD, Option.isSome_some, Option.isSome_none, ↓reduceIte, Nat.reduceEqDiff, Nat.reduceAdd, Nat.reduceMul, forall_eq_or_imp, forall_eq, implies_true, Nat.reduceBEq, reduceCtorEq, false_implies, List.zip_cons_cons, List.zip_nil_left, List.zip_nil_right, Nat.reduceLeDiff, List.forall_mem_nil, rs_26, ty_3, ty_4, ty_9, ty_24, ty_29, ty_31, ty_97]
    have k2 : decide (q < 1) = false := decide_eq_false c2
    by_cases c3 : (cvs.length : Int) = q
    case neg =>
      have k3 : ((cvs.length : Int) != q) = true := by rw [bne_iff_ne]; exact c3
      have hr : R = 41 := by rw [hR]; unfold ctS; rw [if_neg hnf, if_pos (.inr c3)]
      rw [hr]
      simp only [runA, runB, runC, runD, runE, runF, fieldE, storeE, binE, ↓reduceIte, Nat.reduceLT, Nat.reduceLeDiff, Nat.reduceEqDiff, Nat.reduceAdd, Nat.reduceMul, Nat.reduceSub, reduceCtorEq, putAt, unE, Nat.reduceBEq, convE, buildE, List.replicate, Int.reduceLT, Int.reduceLE, Int.reduceToNat, mkE, mapSetE, hN, hF, ty_3, ty_4, ty_9, ty_24, ty_29, ty_31, ty_97, notIf, isEq, hlen, nt1, ntf, g1, a1', a2', a3', h4, qg, k2, k3]
      refine drawnP_intro (by kernel_rfl) (by kernel_rfl) ?_
      simp only [runA, runB, runC, runD, runE, runF, fieldE, storeE, binE, ↓reduceIte, Nat.reduceLT, Nat.reduceLeDiff, Nat.reduceEqDiff, Nat.reduceAdd, Nat.reduceMul, Nat.reduceSub, reduceCtorEq, putAt, unE, Nat.reduceBEq, convE, buildE, List.replicate, Int.reduceLT, Int.reduceLE, Int.reduceToNat, mkE, mapSetE, hN, hF, ty_3, ty_4, ty_9, ty_24, ty_29, ty_31, ty_97, notIf, isEq, hlen, nt1, ntf, g1, a1', a2', a3', h4, qg, k2, k3]
      simp only [runB, finC, finD, Option.isSome_some, Option.isSome_none, ↓reduceIte, Nat.reduceEqDiff, Nat.reduceAdd, Nat.reduceMul, forall_eq_or_imp, forall_eq, implies_true, Nat.reduceBEq, reduceCtorEq, false_implies, List.zip_cons_cons, List.zip_nil_left, List.zip_nil_right, Nat.reduceLeDiff, List.forall_mem_nil, rs_26, ty_3, ty_4, ty_9, ty_24, ty_29, ty_31, ty_97]
    have k3 : ((cvs.length : Int) != q) = false := by rw [c3, bne_self_eq_false]
    have hR2 : R = (if ∀ i, i < cvs.length → stepC ⟨cvw, cht, cbl, cvs⟩ roots i = true then 0 else 41) := by rw [hR]; unfold ctS; rw [if_neg hnf, if_neg (by rintro (h | h); exact c2 h; exact h c3)]
    simp only [runA, runB, runC, runD, runE, runF, fieldE, storeE, binE, ↓reduceIte, Nat.reduceLT, Nat.reduceLeDiff, Nat.reduceEqDiff, Nat.reduceAdd, Nat.reduceMul, Nat.reduceSub, reduceCtorEq, putAt, unE, Nat.reduceBEq, convE, buildE, List.replicate, Int.reduceLT, Int.reduceLE, Int.reduceToNat, mkE, mapSetE, hN, hF, ty_3, ty_4, ty_9, ty_24, ty_29, ty_31, ty_97, notIf, isEq, hlen, nt1, ntf, g1, a1', a2', a3', h4, qg, k2, k3]
    refine drawnP_intro (by kernel_rfl) (by kernel_rfl) ?_
    simp only [runA, runB, runC, runD, runE, runF, fieldE, storeE, binE, ↓reduceIte, Nat.reduceLT, Nat.reduceLeDiff, Nat.reduceEqDiff, Nat.reduceAdd, Nat.reduceMul, Nat.reduceSub, reduceCtorEq, putAt, unE, Nat.reduceBEq, convE, buildE, List.replicate, Int.reduceLT, Int.reduceLE, Int.reduceToNat, mkE, mapSetE, hN, hF, ty_3, ty_4, ty_9, ty_24, ty_29, ty_31, ty_97, notIf, isEq, hlen, nt1, ntf, g1, a1', a2', a3', h4, qg, k2, k3]
    refine AWP.loop (fun k st => ∃ i : Nat, (i ≤ cvs.length ∧ ∀ j, j < i → stepC ⟨cvw, cht, cbl, cvs⟩ roots j = true) ∧ k = cvs.length - i ∧ st = ⟨[(1, .c (.sl (texts roots))), (3, .ptr 192 0), (7, .c (.int .i64 (i : Int)))], [(192, .obj [.c (.int .i64 cvw), .c (.int .i64 cht), .c (.str cbl), .c (.sl (votes cvs))] false)]⟩) ⟨cvs.length, _, ?w, 0, ⟨Nat.zero_le _, fun j hj => absurd hj (by omega)⟩, rfl, rfl⟩ ?r
    case w =>
      rw [hns]
      simp only [runB, finC, finD, AS.get, AS.mem, false_implies, implies_true, ↓reduceIte, Nat.reduceEqDiff, Option.isSome_some, Option.isSome_none, forall_eq_or_imp, forall_eq, reduceCtorEq, Nat.reduceAdd, Nat.reduceMul, List.zip_cons_cons, List.zip_nil_left, List.zip_nil_right, List.forall_mem_nil]
      first | done | simp
    case r =>
      rintro k st ⟨i, ⟨hi, hall⟩, rfl, rfl⟩
      refine vc_sound hΓ mixed _ _ _ ?_
      by_cases hlt : i < cvs.length
      case neg =>
        obtain rfl : i = cvs.length := by omega
        have k4 : decide (((cvs.length : Nat) : Int) < (cvs.length : Int)) = false := decide_eq_false (by omega)
        have hr : R = 0 := by rw [hR2]; exact if_pos hall
        rw [hr]
        simp only [runA, runB, runC, runD, runE, runF, fieldE, storeE, binE, ↓reduceIte, Nat.reduceLT, Nat.reduceLeDiff, Nat.reduceEqDiff, Nat.reduceAdd, Nat.reduceMul, Nat.reduceSub, reduceCtorEq, putAt, unE, Nat.reduceBEq, convE, buildE, List.replicate, Int.reduceLT, Int.reduceLE, Int.reduceToNat, mkE, mapSetE, hN, hF, ty_3, ty_4, ty_9, ty_24, ty_29, ty_31, ty_97, notIf, isEq, hlen, nt1, ntf, g1, a1', a2', a3', h4, qg, k4]
        simp only [runB, finC, finD, Option.isSome_some, Option.isSome_none, ↓reduceIte, Nat.reduceEqDiff, Nat.reduceAdd, Nat.reduceMul, forall_eq_or_imp, forall_eq, implies_true, Nat.reduceBEq, reduceCtorEq, false_implies, List.zip_cons_cons, List.zip_nil_left, List.zip_nil_right, Nat.reduceLeDiff, List.forall_mem_nil, rs_26, ty_3, ty_4, ty_9, ty_24, ty_29, ty_31, ty_97]
      have k4 : decide ((i : Int) < (cvs.length : Int)) = true := decide_eq_true (by omega)
      have e1 : IntKind.i64.wrap ((i : Int) + 1) = (i : Int) + 1 := wrapI (by omega)
      have hy := votesG cvs i hlt
      have hs := stepC_def cvw cht cbl cvs roots i
      have hbad : stepC ⟨cvw, cht, cbl, cvs⟩ roots i = false → R = 41 := fun h => by rw [hR2]; exact if_neg (fun ha => by rw [ha i hlt] at h; cases h)
      have hnext : stepC ⟨cvw, cht, cbl, cvs⟩ roots i = true → ∀ j, j < i + 1 → stepC ⟨cvw, cht, cbl, cvs⟩ roots j = true := fun h j hj => by
        by_cases e : j = i
        · rw [e]; exact h
        · exact hall j (by omega)
      have hprev : 0 < i → (votes cvs)[i - 1]? = some [.int .i64 (cvs.getD (i - 1) zeroV).kd, .int .i64 (cvs.getD (i - 1) zeroV).vw, .int .i64 (cvs.getD (i - 1) zeroV).ht, .str (cvs.getD (i - 1) zeroV).bl, .int .i64 (cvs.getD (i - 1) zeroV).tk, .int .i64 (cvs.getD (i - 1) zeroV).sg, .str (cvs.getD (i - 1) zeroV).sig] := fun h => votesG cvs (i - 1) (by omega)
      generalize cvs.getD i zeroV = y at hy hs
      generalize cvs.getD (i - 1) zeroV = p at hs hprev
      have qv := voVa_at y roots hro
      unfold isV at hs
      cases b1 : y.kd == 1 with
      | false =>
        have b1' : (y.kd != 1) = true := by unfold bne; rw [b1]; rfl
        rw [hbad (by rw [hs, b1]; simp)]
        simp only [runA, runB, runC, runD, runE, runF, fieldE, storeE, binE, ↓reduceIte, Nat.reduceLT, Nat.reduceLeDiff, Nat.reduceEqDiff, Nat.reduceAdd, Nat.reduceMul, Nat.reduceSub, reduceCtorEq, putAt, unE, Nat.reduceBEq, convE, buildE, List.replicate, Int.reduceLT, Int.reduceLE, Int.reduceToNat, mkE, mapSetE, hN, hF, ty_3, ty_4, ty_9, ty_24, ty_29, ty_31, ty_97, notIf, isEq, hlen, nt1, ntf, g1, a1', a2', a3', h4, qg, k4, e1, hy, b1']
        refine drawnP_intro (by kernel_rfl) (by kernel_rfl) ?_
        simp only [runA, runB, runC, runD, runE, runF, fieldE, storeE, binE, ↓reduceIte, Nat.reduceLT, Nat.reduceLeDiff, Nat.reduceEqDiff, Nat.reduceAdd, Nat.reduceMul, Nat.reduceSub, reduceCtorEq, putAt, unE, Nat.reduceBEq, convE, buildE, List.replicate, Int.reduceLT, Int.reduceLE, Int.reduceToNat, mkE, mapSetE, hN, hF, ty_3, ty_4, ty_9, ty_24, ty_29, ty_31, ty_97, notIf, isEq, hlen, nt1, ntf, g1, a1', a2', a3', h4, qg, k4, e1, hy, b1']
        simp only [runB, finC, finD, Option.isSome_some, Option.isSome_none, ↓reduceIte, Nat.reduceEqDiff, Nat.reduceAdd, Nat.reduceMul, forall_eq_or_imp, forall_eq, implies_true, Nat.reduceBEq, reduceCtorEq, false_implies, List.zip_cons_cons, List.zip_nil_left, List.zip_nil_right, Nat.reduceLeDiff, List.forall_mem_nil, rs_26, ty_3, ty_4, ty_9, ty_24, ty_29, ty_31, ty_97]
      | true =>
      have b1' : (y.kd != 1) = false := by unfold bne; rw [b1]; rfl
      by_cases b2 : y.vw = cvw
      case neg =>
        have b2' : (y.vw != cvw) = true := by rw [bne_iff_ne]; exact b2
        have hmk : decide ((⟨y.vw, y.ht, y.bl⟩ : Mk) = ⟨cvw, cht, cbl⟩) = false := decide_eq_false (fun h => b2 (by injection h))
        rw [hbad (by rw [hs, b1, hmk]; simp)]
        simp only [runA, runB, runC, runD, runE, runF, fieldE, storeE, binE, ↓reduceIte, Nat.reduceLT, Nat.reduceLeDiff, Nat.reduceEqDiff, Nat.reduceAdd, Nat.reduceMul, Nat.reduceSub, reduceCtorEq, putAt, unE, Nat.reduceBEq, convE, buildE, List.replicate, Int.reduceLT, Int.reduceLE, Int.reduceToNat, mkE, mapSetE, hN, hF, ty_3, ty_4, ty_9, ty_24, ty_29, ty_31, ty_97, notIf, isEq, hlen, nt1, ntf, g1, a1', a2', a3', h4, qg, k4, e1, hy, b1', b2']
        refine drawnP_intro (by kernel_rfl) (by kernel_rfl) ?_
        simp only [runA, runB, runC, runD, runE, runF, fieldE, storeE, binE, ↓reduceIte, Nat.reduceLT, Nat.reduceLeDiff, Nat.reduceEqDiff, Nat.reduceAdd, Nat.reduceMul, Nat.reduceSub, reduceCtorEq, putAt, unE, Nat.reduceBEq, convE, buildE, List.replicate, Int.reduceLT, Int.reduceLE, Int.reduceToNat, mkE, mapSetE, hN, hF, ty_3, ty_4, ty_9, ty_24, ty_29, ty_31, ty_97, notIf, isEq, hlen, nt1, ntf, g1, a1', a2', a3', h4, qg, k4, e1, hy, b1', b2']
        simp only [runB, finC, finD, Option.isSome_some, Option.isSome_none, ↓reduceIte, Nat.reduceEqDiff, Nat.reduceAdd, Nat.reduceMul, forall_eq_or_imp, forall_eq, implies_true, Nat.reduceBEq, reduceCtorEq, false_implies, List.zip_cons_cons, List.zip_nil_left, List.zip_nil_right, Nat.reduceLeDiff, List.forall_mem_nil, rs_26, ty_3, ty_4, ty_9, ty_24, ty_29, ty_31, ty_97]
      have b2' : (y.vw != cvw) = false := by rw [b2, bne_self_eq_false]
      by_cases b3 : y.ht = cht
      case neg =>
        have b3' : (y.ht != cht) = true := by rw [bne_iff_ne]; exact b3
        have hmk : decide ((⟨y.vw, y.ht, y.bl⟩ : Mk) = ⟨cvw, cht, cbl⟩) = false := decide_eq_false (fun h => b3 (by injection h))
        rw [hbad (by rw [hs, b1, hmk]; simp)]
        simp only [runA, runB, runC, runD, runE, runF, fieldE, storeE, binE, ↓reduceIte, Nat.reduceLT, Nat.reduceLeDiff, Nat.reduceEqDiff, Nat.reduceAdd, Nat.reduceMul, Nat.reduceSub, reduceCtorEq, putAt, unE, Nat.reduceBEq, convE, buildE, List.replicate, Int.reduceLT, Int.reduceLE, Int.reduceToNat, mkE, mapSetE, hN, hF, ty_3, ty_4, ty_9, ty_24, ty_29, ty_31, ty_97, notIf, isEq, hlen, nt1, ntf, g1, a1', a2', a3', h4, qg, k4, e1, hy, b1', b2', b3']
        refine drawnP_intro (by kernel_rfl) (by kernel_rfl) ?_
        simp only [runA, runB, runC, runD, runE, runF, fieldE, storeE, binE, ↓reduceIte, Nat.reduceLT, Nat.reduceLeDiff, Nat.reduceEqDiff, Nat.reduceAdd, Nat.reduceMul, Nat.reduceSub, reduceCtorEq, putAt, unE, Nat.reduceBEq, convE, buildE, List.replicate, Int.reduceLT, Int.reduceLE, Int.reduceToNat, mkE, mapSetE, hN, hF, ty_3, ty_4, ty_9, ty_24, ty_29, ty_31, ty_97, notIf, isEq, hlen, nt1, ntf, g1, a1', a2', a3', h4, qg, k4, e1, hy, b1', b2', b3']
        simp only [runB, finC, finD, Option.isSome_some, Option.isSome_none, ↓reduceIte, Nat.reduceEqDiff, Nat.reduceAdd, Nat.reduceMul, forall_eq_or_imp, forall_eq, implies_true, Nat.reduceBEq, reduceCtorEq, false_implies, List.zip_cons_cons, List.zip_nil_left, List.zip_nil_right, Nat.reduceLeDiff, List.forall_mem_nil, rs_26, ty_3, ty_4, ty_9, ty_24, ty_29, ty_31, ty_97]
      have b3' : (y.ht != cht) = false := by rw [b3, bne_self_eq_false]
      by_cases b4 : y.bl = cbl
      case neg =>
        have b4' : (y.bl == cbl) = false := beq_eq_false_iff_ne.2 b4
        have hmk : decide ((⟨y.vw, y.ht, y.bl⟩ : Mk) = ⟨cvw, cht, cbl⟩) = false := decide_eq_false (fun h => b4 (by injection h))
        rw [hbad (by rw [hs, b1, hmk]; simp)]
        simp only [runA, runB, runC, runD, runE, runF, fieldE, storeE, binE, ↓reduceIte, Nat.reduceLT, Nat.reduceLeDiff, Nat.reduceEqDiff, Nat.reduceAdd, Nat.reduceMul, Nat.reduceSub, reduceCtorEq, putAt, unE, Nat.reduceBEq, convE, buildE, List.replicate, Int.reduceLT, Int.reduceLE, Int.reduceToNat, mkE, mapSetE, hN, hF, ty_3, ty_4, ty_9, ty_24, ty_29, ty_31, ty_97, notIf, isEq, hlen, nt1, ntf, g1, a1', a2', a3', h4, qg, k4, e1, hy, b1', b2', b3', b4']
        refine drawnP_intro (by kernel_rfl) (by kernel_rfl) ?_
        simp only [runA, runB, runC, runD, runE, runF, fieldE, storeE, binE, ↓reduceIte, Nat.reduceLT, Nat.reduceLeDiff, Nat.reduceEqDiff, Nat.reduceAdd, Nat.reduceMul, Nat.reduceSub, reduceCtorEq, putAt, unE, Nat.reduceBEq, convE, buildE, List.replicate, Int.reduceLT, Int.reduceLE, Int.reduceToNat, mkE, mapSetE, hN, hF, ty_3, ty_4, ty_9, ty_24, ty_29, ty_31, ty_97, notIf, isEq, hlen, nt1, ntf, g1, a1', a2', a3', h4, qg, k4, e1, hy, b1', b2', b3', b4']
        simp only [runB, finC, finD, Option.isSome_some, Option.isSome_none, ↓reduceIte, Nat.reduceEqDiff, Nat.reduceAdd, Nat.reduceMul, forall_eq_or_imp, forall_eq, implies_true, Nat.reduceBEq, reduceCtorEq, false_implies, List.zip_cons_cons, List.zip_nil_left, List.zip_nil_right, Nat.reduceLeDiff, List.forall_mem_nil, rs_26, ty_3, ty_4, ty_9, ty_24, ty_29, ty_31, ty_97]
      have b4' : (y.bl == cbl) = true := beq_iff_eq.2 b4
      have hmk : decide ((⟨y.vw, y.ht, y.bl⟩ : Mk) = ⟨cvw, cht, cbl⟩) = true := decide_eq_true (by rw [b2, b3, b4])
      cases v2 : validV y roots with
      | false =>
        rw [v2] at qv
        rw [hbad (by rw [hs, b1, hmk, v2]; simp)]
        simp only [runA, runB, runC, runD, runE, runF, fieldE, storeE, binE, ↓reduceIte, Nat.reduceLT, Nat.reduceLeDiff, Nat.reduceEqDiff, Nat.reduceAdd, Nat.reduceMul, Nat.reduceSub, reduceCtorEq, putAt, unE, Nat.reduceBEq, convE, buildE, List.replicate, Int.reduceLT, Int.reduceLE, Int.reduceToNat, mkE, mapSetE, hN, hF, ty_3, ty_4, ty_9, ty_24, ty_29, ty_31, ty_97, notIf, isEq, hlen, nt1, ntf, g1, a1', a2', a3', h4, qg, k4, e1, hy, b1', b2', b3', b4', h7, qv]
        refine drawnP_intro (by kernel_rfl) (by kernel_rfl) ?_
        simp only [runA, runB, runC, runD, runE, runF, fieldE, storeE, binE, ↓reduceIte, Nat.reduceLT, Nat.reduceLeDiff, Nat.reduceEqDiff, Nat.reduceAdd, Nat.reduceMul, Nat.reduceSub, reduceCtorEq, putAt, unE, Nat.reduceBEq, convE, buildE, List.replicate, Int.reduceLT, Int.reduceLE, Int.reduceToNat, mkE, mapSetE, hN, hF, ty_3, ty_4, ty_9, ty_24, ty_29, ty_31, ty_97, notIf, isEq, hlen, nt1, ntf, g1, a1', a2', a3', h4, qg, k4, e1, hy, b1', b2', b3', b4', h7, qv]
        simp only [runB, finC, finD, Option.isSome_some, Option.isSome_none, ↓reduceIte, Nat.reduceEqDiff, Nat.reduceAdd, Nat.reduceMul, forall_eq_or_imp, forall_eq, implies_true, Nat.reduceBEq, reduceCtorEq, false_implies, List.zip_cons_cons, List.zip_nil_left, List.zip_nil_right, Nat.reduceLeDiff, List.forall_mem_nil, rs_26, ty_3, ty_4, ty_9, ty_24, ty_29, ty_31, ty_97]
      | true =>
        rw [v2] at qv
        by_cases hi0 : i = 0
        · have g5 : decide ((i : Int) > 0) = false := decide_eq_false (by omega)
          have hst := hnext (by rw [hs, b1, hmk, v2, decide_eq_true hi0]; simp)
          simp only [runA, runB, runC, runD, runE, runF, fieldE, storeE, binE, ↓reduceIte, Nat.reduceLT, Nat.reduceLeDiff, Nat.reduceEqDiff, Nat.reduceAdd, Nat.reduceMul, Nat.reduceSub, reduceCtorEq, putAt, unE, Nat.reduceBEq, convE, buildE, List.replicate, Int.reduceLT, Int.reduceLE, Int.reduceToNat, mkE, mapSetE, hN, hF, ty_3, ty_4, ty_9, ty_24, ty_29, ty_31, ty_97, notIf, isEq, hlen, nt1, ntf, g1, a1', a2', a3', h4, qg, k4, e1, hy, b1', b2', b3', b4', h7, qv, g5]
          refine drawnP_intro (by kernel_rfl) (by kernel_rfl) ?_
          simp only [runA, runB, runC, runD, runE, runF, fieldE, storeE, binE, ↓reduceIte, Nat.reduceLT, Nat.reduceLeDiff, Nat.reduceEqDiff, Nat.reduceAdd, Nat.reduceMul, Nat.reduceSub, reduceCtorEq, putAt, unE, Nat.reduceBEq, convE, buildE, List.replicate, Int.reduceLT, Int.reduceLE, Int.reduceToNat, mkE, mapSetE, hN, hF, ty_3, ty_4, ty_9, ty_24, ty_29, ty_31, ty_97, notIf, isEq, hlen, nt1, ntf, g1, a1', a2', a3', h4, qg, k4, e1, hy, b1', b2', b3', b4', h7, qv, g5]
          refine ⟨cvs.length - (i + 1), _, by omega, ?_, i + 1, ⟨by omega, hst⟩, rfl, rfl⟩
          rw [hns]
          simp only [runB, finC, finD, AS.get, AS.mem, false_implies, implies_true, ↓reduceIte, Nat.reduceEqDiff, Option.isSome_some, Option.isSome_none, forall_eq_or_imp, forall_eq, reduceCtorEq, Nat.reduceAdd, Nat.reduceMul, List.zip_cons_cons, List.zip_nil_left, List.zip_nil_right, List.forall_mem_nil]
          first | done | simp
        · have g5 : decide ((i : Int) > 0) = true := decide_eq_true (by omega)
          have e6 : IntKind.i64.wrap ((i : Int) - 1) = ((i - 1 : Nat) : Int) := by rw [wrapI (by omega)]; omega
          have hp := hprev (by omega)
          by_cases hsg : p.sg < y.sg
          case neg =>
            have g6 : decide (p.sg ≥ y.sg) = true := decide_eq_true (by omega)
            rw [hbad (by rw [hs, b1, hmk, v2, decide_eq_false hi0, decide_eq_false hsg]; simp)]
            simp only [runA, runB, runC, runD, runE, runF, fieldE, storeE, binE, ↓reduceIte, Nat.reduceLT, Nat.reduceLeDiff, Nat.reduceEqDiff, Nat.reduceAdd, Nat.reduceMul, Nat.reduceSub, reduceCtorEq, putAt, unE, Nat.reduceBEq, convE, buildE, List.replicate, Int.reduceLT, Int.reduceLE, Int.reduceToNat, mkE, mapSetE, hN, hF, ty_3, ty_4, ty_9, ty_24, ty_29, ty_31, ty_97, notIf, isEq, hlen, nt1, ntf, g1, a1', a2', a3', h4, qg, k4, e1, hy, b1', b2', b3', b4', h7, qv, g5, e6, hp, g6]
            refine drawnP_intro (by kernel_rfl) (by kernel_rfl) ?_
            simp only [runA, runB, runC, runD, runE, runF, fieldE, storeE, binE, ↓reduceIte, Nat.reduceLT, Nat.reduceLeDiff, Nat.reduceEqDiff, Nat.reduceAdd, Nat.reduceMul, Nat.reduceSub, reduceCtorEq, putAt, unE, Nat.reduceBEq, convE, buildE, List.replicate, Int.reduceLT, Int.reduceLE, Int.reduceToNat, mkE, mapSetE, hN, hF, ty_3, ty_4, ty_9, ty_24, ty_29, ty_31, ty_97, notIf, isEq, hlen, nt1, ntf, g1, a1', a2', a3', h4, qg, k4, e1, hy, b1', b2', b3', b4', h7, qv, g5, e6, hp, g6]
            simp only [runB, finC, finD, Option.isSome_some, Option.isSome_none, ↓reduceIte, Nat.reduceEqDiff, Nat.reduceAdd, Nat.reduceMul, forall_eq_or_imp, forall_eq, implies_true, Nat.reduceBEq, reduceCtorEq, false_implies, List.zip_cons_cons, List.zip_nil_left, List.zip_nil_right, Nat.reduceLeDiff, List.forall_mem_nil, rs_26, ty_3, ty_4, ty_9, ty_24, ty_29, ty_31, ty_97]
          have g6 : decide (p.sg ≥ y.sg) = false := decide_eq_false (by omega)
          have hst := hnext (by rw [hs, b1, hmk, v2, decide_eq_false hi0, decide_eq_true hsg]; simp)
          simp only [runA, runB, runC, runD, runE, runF, fieldE, storeE, binE, ↓reduceIte, Nat.reduceLT, Nat.reduceLeDiff, Nat.reduceEqDiff, Nat.reduceAdd, Nat.reduceMul, Nat.reduceSub, reduceCtorEq, putAt, unE, Nat.reduceBEq, convE, buildE, List.replicate, Int.reduceLT, Int.reduceLE, Int.reduceToNat, mkE, mapSetE, hN, hF, ty_3, ty_4, ty_9, ty_24, ty_29, ty_31, ty_97, notIf, isEq, hlen, nt1, ntf, g1, a1', a2', a3', h4, qg, k4, e1, hy, b1', b2', b3', b4', h7, qv, g5, e6, hp, g6]
          refine drawnP_intro (by kernel_rfl) (by kernel_rfl) ?_
          simp only [runA, runB, runC, runD, runE, runF, fieldE, storeE, binE, ↓reduceIte, Nat.reduceLT, Nat.reduceLeDiff, Nat.reduceEqDiff, Nat.reduceAdd, Nat.reduceMul, Nat.reduceSub, reduceCtorEq, putAt, unE, Nat.reduceBEq, convE, buildE, List.replicate, Int.reduceLT, Int.reduceLE, Int.reduceToNat, mkE, mapSetE, hN, hF, ty_3, ty_4, ty_9, ty_24, ty_29, ty_31, ty_97, notIf, isEq, hlen, nt1, ntf, g1, a1', a2', a3', h4, qg, k4, e1, hy, b1', b2', b3', b4', h7, qv, g5, e6, hp, g6]
          refine ⟨cvs.length - (i + 1), _, by omega, ?_, i + 1, ⟨by omega, hst⟩, rfl, rfl⟩
          rw [hns]
          simp only [runB, finC, finD, AS.get, AS.mem, false_implies, implies_true, ↓reduceIte, Nat.reduceEqDiff, Option.isSome_some, Option.isSome_none, forall_eq_or_imp, forall_eq, reduceCtorEq, Nat.reduceAdd, Nat.reduceMul, List.zip_cons_cons, List.zip_nil_left, List.zip_nil_right, List.forall_mem_nil]
          first | done | simp
  have a3' : (cbl == genS) = true := beq_iff_eq.2 a3
  have hr : R = 0 := by rw [hR]; unfold ctS; rw [if_pos ⟨c1, by rw [a1, a2, a3]⟩]
  rw [hr]
  generalize genS = gg at qg a3'
  simp only [runA, runB, runC, runD, runE, runF, fieldE, storeE, binE, ↓reduceIte, Nat.reduceLT, Nat.reduceLeDiff, Nat.reduceEqDiff, Nat.reduceAdd, Nat.reduceMul, Nat.reduceSub, reduceCtorEq, putAt, unE, Nat.reduceBEq, convE, buildE, List.replicate, Int.reduceLT, Int.reduceLE, Int.reduceToNat, mkE, mapSetE, hN, hF, ty_3, ty_4, ty_9, ty_24, ty_29, ty_31, ty_97, notIf, isEq, hlen, g1, a1', a2', a3', h4, qg]
  refine drawnP_intro (by kernel_rfl) (by kernel_rfl) ?_
  simp only [runA, runB, runC, runD, runE, runF, fieldE, storeE, binE, ↓reduceIte, Nat.reduceLT, Nat.reduceLeDiff, Nat.reduceEqDiff, Nat.reduceAdd, Nat.reduceMul, Nat.reduceSub, reduceCtorEq, putAt, unE, Nat.reduceBEq, convE, buildE, List.replicate, Int.reduceLT, Int.reduceLE, Int.reduceToNat, mkE, mapSetE, hN, hF, ty_3, ty_4, ty_9, ty_24, ty_29, ty_31, ty_97, notIf, isEq, hlen, g1, a1', a2', a3', h4, qg]
  simp only [runB, finC, finD, Option.isSome_some, Option.isSome_none, ↓reduceIte, Nat.reduceEqDiff, Nat.reduceAdd, Nat.reduceMul, forall_eq_or_imp, forall_eq, implies_true, Nat.reduceBEq, reduceCtorEq, false_implies, List.zip_cons_cons, List.zip_nil_left, List.zip_nil_right, Nat.reduceLeDiff, List.forall_mem_nil, rs_26, ty_3, ty_4, ty_9, ty_24, ty_29, ty_31, ty_97]

end Go.Proofs.YtenmlgalcjkdbaaGreat.AM
