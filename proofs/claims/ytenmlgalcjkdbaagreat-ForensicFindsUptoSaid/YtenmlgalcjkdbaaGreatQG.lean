/-
  QG: Tx3 Vo1 Vo2 Vo3 BvA.
-/
import Derived.Test.YtenmlgalcjkdbaaGreatQ8
import Derived.Test.YtenmlgalcjkdbaaGreatQC
import Derived.Test.YtenmlgalcjkdbaaGreatQF
import Derived.Test.YtenmlgalcjkdbaaGreatQ7
set_option linter.unusedVariables false
set_option linter.unusedSimpArgs false
namespace Go.Proofs.YtenmlgalcjkdbaaGreat.AM
open Go

variable {Γ : FuncId → Contract}

def cs (k : Nat) : List UInt8 := [99, 108, 105, 101, 110, 116] ++ [UInt8.ofNat (48 + k)]

variable {Γ : FuncId → Contract}

def aboutP (t : Vt) : Prop := if t.kd = 4 then t.ht = 0 ∧ t.bl = [] else (0 ≤ t.ht ∧ t.ht ≤ 1048576) ∧ t.bl.length = 32
def tickP (t : Vt) : Prop := if t.kd = 3 then 1 ≤ t.tk ∧ t.tk ≤ 1048576 else t.tk = 0
instance (t : Vt) : Decidable (aboutP t) := by unfold aboutP; infer_instance
instance (t : Vt) : Decidable (tickP t) := by unfold tickP; infer_instance
def okV (t : Vt) : Prop := 1 ≤ t.kd ∧ t.kd ≤ 4 ∧ 0 ≤ t.vw ∧ t.vw ≤ 1048576 ∧ aboutP t ∧ tickP t ∧ (0 ≤ t.sg ∧ t.sg ≤ 6) ∧ t.sig.length ≤ 4096
instance (t : Vt) : Decidable (okV t) := inferInstanceAs (Decidable (_ ∧ _))
def voS (t : Vt) : Int := if okV t then 0 else 9

def replC : Contract := fun args objs => match args, objs with
  | [.c (.int .i64 n)], [] => some ⟨[.pv (.c (.bool (decide (n ≥ 0) && decide (n < 7))))], []⟩
  | _, _ => none
set_option maxHeartbeats 1000000 in
theorem repl_sound : SoundC Tryz.prog 43 replC := by
  refine sound_fn Tryz.func43 (by kernel_rfl) rfl rfl ?_
  intro args objs r hr
  unfold replC at hr
  split at hr
  · rename_i n
    cases hr
    refine ⟨rfl, by show 1 ≤ _; decide, fun E hN hns hF => ?_⟩
    refine vc_sound none0_sound mixed _ _ _ ?_
    have hN := hN.trans nt_43
    cases g1 : decide (n ≥ 0) <;> cases g2 : decide (n < 7)
    all_goals
      simp only [runA, runB, runC, runD, runE, runF, fieldE, storeE, binE, ↓reduceIte, Nat.reduceLT, Nat.reduceLeDiff, Nat.reduceEqDiff, Nat.reduceAdd, Nat.reduceMul, Nat.reduceSub, reduceCtorEq, putAt, unE, Nat.reduceBEq, convE, buildE, List.replicate, Int.reduceLT, Int.reduceLE, Int.reduceToNat, mkE, mapSetE, hN, hF, ty_3, ty_4, notIf, isEq, g1, g2]
    all_goals
      simp only [runB, finC, finD, Option.isSome_some, Option.isSome_none, ↓reduceIte, Nat.reduceEqDiff, Nat.reduceAdd, Nat.reduceMul, forall_eq_or_imp, forall_eq, implies_true, Nat.reduceBEq, reduceCtorEq, false_implies, List.zip_cons_cons, List.zip_nil_left, List.zip_nil_right, Nat.reduceLeDiff, List.forall_mem_nil, rs_43, Bool.and_true, Bool.and_false, Bool.false_and, Bool.true_and]
  · cases hr
noncomputable def abC : Contract := mkC (α := Vt) (fun _ => True) (fun t => [t.av]) (fun _ => []) (fun t => ⟨[.pv (.c (.bool (decide (aboutP t))))], []⟩)
noncomputable def tkC : Contract := mkC (α := Vt) (fun _ => True) (fun t => [t.av]) (fun _ => []) (fun t => ⟨[.pv (.c (.bool (decide (tickP t))))], []⟩)
noncomputable def voCkC : Contract := mkC (α := Vt) (fun _ => True) (fun t => [t.av]) (fun _ => []) (fun t => ⟨[.pv (.c (.int .i64 (voS t)))], []⟩)
theorem ab_at (t : Vt) : abC [.agg [.c (.int .i64 t.kd), .c (.int .i64 t.vw), .c (.int .i64 t.ht), .c (.str t.bl), .c (.int .i64 t.tk), .c (.int .i64 t.sg), .c (.str t.sig)]] [] = some ⟨[.pv (.c (.bool (decide (aboutP t))))], []⟩ :=
  mkC_at (α := Vt) t trivial (by
    rintro y _ h _
    have h' : [y.av] = [t.av] := h
    have e : y = t := Vt.av_inj (by simpa using h')
    rw [e])
theorem tk_at (t : Vt) : tkC [.agg [.c (.int .i64 t.kd), .c (.int .i64 t.vw), .c (.int .i64 t.ht), .c (.str t.bl), .c (.int .i64 t.tk), .c (.int .i64 t.sg), .c (.str t.sig)]] [] = some ⟨[.pv (.c (.bool (decide (tickP t))))], []⟩ :=
  mkC_at (α := Vt) t trivial (by
    rintro y _ h _
    have h' : [y.av] = [t.av] := h
    have e : y = t := Vt.av_inj (by simpa using h')
    rw [e])
theorem voCk_at (t : Vt) : voCkC [.agg [.c (.int .i64 t.kd), .c (.int .i64 t.vw), .c (.int .i64 t.ht), .c (.str t.bl), .c (.int .i64 t.tk), .c (.int .i64 t.sg), .c (.str t.sig)]] [] = some ⟨[.pv (.c (.int .i64 (voS t)))], []⟩ :=
  mkC_at (α := Vt) t trivial (by
    rintro y _ h _
    have h' : [y.av] = [t.av] := h
    have e : y = t := Vt.av_inj (by simpa using h')
    rw [e])

set_option maxRecDepth 100000 in
set_option maxHeartbeats 4000000 in
theorem ab_sound : SoundC Tryz.prog 206 abC := by
  refine sound_fn Tryz.func206 (by kernel_rfl) rfl rfl ?_
  intro args objs r hr
  obtain ⟨⟨kd, vw, ht, bl, tk, sg, sig⟩, _, rfl, rfl, rfl⟩ := mkC_inv hr
  refine ⟨rfl, by show 1 ≤ _; decide, fun E hN hns hF => ?_⟩
  refine vc_sound none0_sound mixed _ _ _ ?_
  have hN := hN.trans nt_206
  unfold Vt.av
  by_cases c4 : kd = 4
  · have g4 : (kd == 4) = true := by simpa using c4
    have hA : aboutP ⟨kd, vw, ht, bl, tk, sg, sig⟩ ↔ (ht = 0 ∧ bl = []) := by unfold aboutP; rw [if_pos c4]
    by_cases c5 : ht = 0
    · have g5 : (ht == 0) = true := by simpa using c5
      by_cases c6 : bl = []
      · have g6 : (bl == []) = true := by simpa using c6
        have hS : decide (aboutP ⟨kd, vw, ht, bl, tk, sg, sig⟩) = true := decide_eq_true (hA.2 ⟨c5, c6⟩)
        simp only [runA, runB, runC, runD, runE, runF, fieldE, storeE, binE, ↓reduceIte, Nat.reduceLT, Nat.reduceLeDiff, Nat.reduceEqDiff, Nat.reduceAdd, Nat.reduceMul, Nat.reduceSub, reduceCtorEq, putAt, unE, Nat.reduceBEq, convE, buildE, List.replicate, Int.reduceLT, Int.reduceLE, Int.reduceToNat, mkE, mapSetE, hN, hF, ty_3, ty_4, ty_9, ty_97, notIf, isEq, g4, g5, g6]
        simp only [runB, finC, finD, Option.isSome_some, Option.isSome_none, ↓reduceIte, Nat.reduceEqDiff, Nat.reduceAdd, Nat.reduceMul, forall_eq_or_imp, forall_eq, implies_true, Nat.reduceBEq, reduceCtorEq, false_implies, List.zip_cons_cons, List.zip_nil_left, List.zip_nil_right, Nat.reduceLeDiff, List.forall_mem_nil, rs_206, hS]
      · have g6 : (bl == []) = false := by simpa using c6
        have hS : decide (aboutP ⟨kd, vw, ht, bl, tk, sg, sig⟩) = false := decide_eq_false (fun h => c6 (hA.1 h).2)
        simp only [runA, runB, runC, runD, runE, runF, fieldE, storeE, binE, ↓reduceIte, Nat.reduceLT, Nat.reduceLeDiff, Nat.reduceEqDiff, Nat.reduceAdd, Nat.reduceMul, Nat.reduceSub, reduceCtorEq, putAt, unE, Nat.reduceBEq, convE, buildE, List.replicate, Int.reduceLT, Int.reduceLE, Int.reduceToNat, mkE, mapSetE, hN, hF, ty_3, ty_4, ty_9, ty_97, notIf, isEq, g4, g5, g6]
        simp only [runB, finC, finD, Option.isSome_some, Option.isSome_none, ↓reduceIte, Nat.reduceEqDiff, Nat.reduceAdd, Nat.reduceMul, forall_eq_or_imp, forall_eq, implies_true, Nat.reduceBEq, reduceCtorEq, false_implies, List.zip_cons_cons, List.zip_nil_left, List.zip_nil_right, Nat.reduceLeDiff, List.forall_mem_nil, rs_206, hS]
    · have g5 : (ht == 0) = false := by simpa using c5
      have hS : decide (aboutP ⟨kd, vw, ht, bl, tk, sg, sig⟩) = false := decide_eq_false (fun h => c5 (hA.1 h).1)
      simp only [runA, runB, runC, runD, runE, runF, fieldE, storeE, binE, ↓reduceIte, Nat.reduceLT, Nat.reduceLeDiff, Nat.reduceEqDiff, Nat.reduceAdd, Nat.reduceMul, Nat.reduceSub, reduceCtorEq, putAt, unE, Nat.reduceBEq, convE, buildE, List.replicate, Int.reduceLT, Int.reduceLE, Int.reduceToNat, mkE, mapSetE, hN, hF, ty_3, ty_4, ty_9, ty_97, notIf, isEq, g4, g5]
      simp only [runB, finC, finD, Option.isSome_some, Option.isSome_none, ↓reduceIte, Nat.reduceEqDiff, Nat.reduceAdd, Nat.reduceMul, forall_eq_or_imp, forall_eq, implies_true, Nat.reduceBEq, reduceCtorEq, false_implies, List.zip_cons_cons, List.zip_nil_left, List.zip_nil_right, Nat.reduceLeDiff, List.forall_mem_nil, rs_206, hS]
  · have g4 : (kd == 4) = false := by simpa using c4
    have hA : aboutP ⟨kd, vw, ht, bl, tk, sg, sig⟩ ↔ ((0 ≤ ht ∧ ht ≤ 1048576) ∧ bl.length = 32) := by unfold aboutP; rw [if_neg c4]
    by_cases c5 : 0 ≤ ht
    · have g5 : decide (ht ≥ 0) = true := by simpa using c5
      by_cases c6 : ht ≤ 1048576
      · have g6 : decide (ht ≤ 1048576) = true := by simpa using c6
        by_cases c7 : bl.length = 32
        · have g7 : ((bl.length : Int) == 32) = true := by rw [c7]; rfl
          have hS : decide (aboutP ⟨kd, vw, ht, bl, tk, sg, sig⟩) = true := decide_eq_true (hA.2 ⟨⟨c5, c6⟩, c7⟩)
          simp only [runA, runB, runC, runD, runE, runF, fieldE, storeE, binE, ↓reduceIte, Nat.reduceLT, Nat.reduceLeDiff, Nat.reduceEqDiff, Nat.reduceAdd, Nat.reduceMul, Nat.reduceSub, reduceCtorEq, putAt, unE, Nat.reduceBEq, convE, buildE, List.replicate, Int.reduceLT, Int.reduceLE, Int.reduceToNat, mkE, mapSetE, hN, hF, ty_3, ty_4, ty_9, ty_97, notIf, isEq, g4, g5, g6, g7]
          simp only [runB, finC, finD, Option.isSome_some, Option.isSome_none, ↓reduceIte, Nat.reduceEqDiff, Nat.reduceAdd, Nat.reduceMul, forall_eq_or_imp, forall_eq, implies_true, Nat.reduceBEq, reduceCtorEq, false_implies, List.zip_cons_cons, List.zip_nil_left, List.zip_nil_right, Nat.reduceLeDiff, List.forall_mem_nil, rs_206, hS]
        · have g7 : ((bl.length : Int) == 32) = false := by rw [beq_eq_false_iff_ne]; omega
          have hS : decide (aboutP ⟨kd, vw, ht, bl, tk, sg, sig⟩) = false := decide_eq_false (fun h => c7 (hA.1 h).2)
          simp only [runA, runB, runC, runD, runE, runF, fieldE, storeE, binE, ↓reduceIte, Nat.reduceLT, Nat.reduceLeDiff, Nat.reduceEqDiff, Nat.reduceAdd, Nat.reduceMul, Nat.reduceSub, reduceCtorEq, putAt, unE, Nat.reduceBEq, convE, buildE, List.replicate, Int.reduceLT, Int.reduceLE, Int.reduceToNat, mkE, mapSetE, hN, hF, ty_3, ty_4, ty_9, ty_97, notIf, isEq, g4, g5, g6, g7]
          simp only [runB, finC, finD, Option.isSome_some, Option.isSome_none, ↓reduceIte, Nat.reduceEqDiff, Nat.reduceAdd, Nat.reduceMul, forall_eq_or_imp, forall_eq, implies_true, Nat.reduceBEq, reduceCtorEq, false_implies, List.zip_cons_cons, List.zip_nil_left, List.zip_nil_right, Nat.reduceLeDiff, List.forall_mem_nil, rs_206, hS]
      · have g6 : decide (ht ≤ 1048576) = false := by simpa using c6
        have hS : decide (aboutP ⟨kd, vw, ht, bl, tk, sg, sig⟩) = false := decide_eq_false (fun h => c6 (hA.1 h).1.2)
        simp only [runA, runB, runC, runD, runE, runF, fieldE, storeE, binE, ↓reduceIte, Nat.reduceLT, Nat.reduceLeDiff, Nat.reduceEqDiff, Nat.reduceAdd, Nat.reduceMul, Nat.reduceSub, reduceCtorEq, putAt, unE, Nat.reduceBEq, convE, buildE, List.replicate, Int.reduceLT, Int.reduceLE, Int.reduceToNat, mkE, mapSetE, hN, hF, ty_3, ty_4, ty_9, ty_97, notIf, isEq, g4, g5, g6]
        simp only [runB, finC, finD, Option.isSome_some, Option.isSome_none, ↓reduceIte, Nat.reduceEqDiff, Nat.reduceAdd, Nat.reduceMul, forall_eq_or_imp, forall_eq, implies_true, Nat.reduceBEq, reduceCtorEq, false_implies, List.zip_cons_cons, List.zip_nil_left, List.zip_nil_right, Nat.reduceLeDiff, List.forall_mem_nil, rs_206, hS]
    · have g5 : decide (ht ≥ 0) = false := by simpa using c5
      have hS : decide (aboutP ⟨kd, vw, ht, bl, tk, sg, sig⟩) = false := decide_eq_false (fun h => c5 (hA.1 h).1.1)
      simp only [runA, runB, runC, runD, runE, runF, fieldE, storeE, binE, ↓reduceIte, Nat.reduceLT, Nat.reduceLeDiff, Nat.reduceEqDiff, Nat.reduceAdd, Nat.reduceMul, Nat.reduceSub, reduceCtorEq, putAt, unE, Nat.reduceBEq, convE, buildE, List.replicate, Int.reduceLT, Int.reduceLE, Int.reduceToNat, mkE, mapSetE, hN, hF, ty_3, ty_4, ty_9, ty_97, notIf, isEq, g4, g5]
      simp only [runB, finC, finD, Option.isSome_some, Option.isSome_none, ↓reduceIte, Nat.reduceEqDiff, Nat.reduceAdd, Nat.reduceMul, forall_eq_or_imp, forall_eq, implies_true, Nat.reduceBEq, reduceCtorEq, false_implies, List.zip_cons_cons, List.zip_nil_left, List.zip_nil_right, Nat.reduceLeDiff, List.forall_mem_nil, rs_206, hS]

set_option maxRecDepth 100000 in
set_option maxHeartbeats 4000000 in
theorem tk_sound : SoundC Tryz.prog 207 tkC := by
  refine sound_fn Tryz.func207 (by kernel_rfl) rfl rfl ?_
  intro args objs r hr
  obtain ⟨⟨kd, vw, ht, bl, tk, sg, sig⟩, _, rfl, rfl, rfl⟩ := mkC_inv hr
  refine ⟨rfl, by show 1 ≤ _; decide, fun E hN hns hF => ?_⟩
  refine vc_sound none0_sound mixed _ _ _ ?_
  have hN := hN.trans nt_207
  unfold Vt.av
  by_cases c4 : kd = 3
  · have g4 : (kd == 3) = true := by simpa using c4
    have hA : tickP ⟨kd, vw, ht, bl, tk, sg, sig⟩ ↔ (1 ≤ tk ∧ tk ≤ 1048576) := by unfold tickP; rw [if_pos c4]
    by_cases c5 : 1 ≤ tk
    · have g5 : decide (tk ≥ 1) = true := by simpa using c5
      by_cases c6 : tk ≤ 1048576
      · have g6 : decide (tk ≤ 1048576) = true := by simpa using c6
        have hS : decide (tickP ⟨kd, vw, ht, bl, tk, sg, sig⟩) = true := decide_eq_true (hA.2 ⟨c5, c6⟩)
        simp only [runA, runB, runC, runD, runE, runF, fieldE, storeE, binE, ↓reduceIte, Nat.reduceLT, Nat.reduceLeDiff, Nat.reduceEqDiff, Nat.reduceAdd, Nat.reduceMul, Nat.reduceSub, reduceCtorEq, putAt, unE, Nat.reduceBEq, convE, buildE, List.replicate, Int.reduceLT, Int.reduceLE, Int.reduceToNat, mkE, mapSetE, hN, hF, ty_3, ty_4, ty_9, ty_97, notIf, isEq, g4, g5, g6]
        simp only [runB, finC, finD, Option.isSome_some, Option.isSome_none, ↓reduceIte, Nat.reduceEqDiff, Nat.reduceAdd, Nat.reduceMul, forall_eq_or_imp, forall_eq, implies_true, Nat.reduceBEq, reduceCtorEq, false_implies, List.zip_cons_cons, List.zip_nil_left, List.zip_nil_right, Nat.reduceLeDiff, List.forall_mem_nil, rs_207, hS]
      · have g6 : decide (tk ≤ 1048576) = false := by simpa using c6
        have hS : decide (tickP ⟨kd, vw, ht, bl, tk, sg, sig⟩) = false := decide_eq_false (fun h => c6 (hA.1 h).2)
        simp only [runA, runB, runC, runD, runE, runF, fieldE, storeE, binE, ↓reduceIte, Nat.reduceLT, Nat.reduceLeDiff, Nat.reduceEqDiff, Nat.reduceAdd, Nat.reduceMul, Nat.reduceSub, reduceCtorEq, putAt, unE, Nat.reduceBEq, convE, buildE, List.replicate, Int.reduceLT, Int.reduceLE, Int.reduceToNat, mkE, mapSetE, hN, hF, ty_3, ty_4, ty_9, ty_97, notIf, isEq, g4, g5, g6]
        simp only [runB, finC, finD, Option.isSome_some, Option.isSome_none, ↓reduceIte, Nat.reduceEqDiff, Nat.reduceAdd, Nat.reduceMul, forall_eq_or_imp, forall_eq, implies_true, Nat.reduceBEq, reduceCtorEq, false_implies, List.zip_cons_cons, List.zip_nil_left, List.zip_nil_right, Nat.reduceLeDiff, List.forall_mem_nil, rs_207, hS]
    · have g5 : decide (tk ≥ 1) = false := by simpa using c5
      have hS : decide (tickP ⟨kd, vw, ht, bl, tk, sg, sig⟩) = false := decide_eq_false (fun h => c5 (hA.1 h).1)
      simp only [runA, runB, runC, runD, runE, runF, fieldE, storeE, binE, ↓reduceIte, Nat.reduceLT, Nat.reduceLeDiff, Nat.reduceEqDiff, Nat.reduceAdd, Nat.reduceMul, Nat.reduceSub, reduceCtorEq, putAt, unE, Nat.reduceBEq, convE, buildE, List.replicate, Int.reduceLT, Int.reduceLE, Int.reduceToNat, mkE, mapSetE, hN, hF, ty_3, ty_4, ty_9, ty_97, notIf, isEq, g4, g5]
      simp only [runB, finC, finD, Option.isSome_some, Option.isSome_none, ↓reduceIte, Nat.reduceEqDiff, Nat.reduceAdd, Nat.reduceMul, forall_eq_or_imp, forall_eq, implies_true, Nat.reduceBEq, reduceCtorEq, false_implies, List.zip_cons_cons, List.zip_nil_left, List.zip_nil_right, Nat.reduceLeDiff, List.forall_mem_nil, rs_207, hS]
  · have g4 : (kd == 3) = false := by simpa using c4
    have hA : tickP ⟨kd, vw, ht, bl, tk, sg, sig⟩ ↔ tk = 0 := by unfold tickP; rw [if_neg c4]
    have hS : decide (tickP ⟨kd, vw, ht, bl, tk, sg, sig⟩) = (tk == 0) := by
      by_cases c5 : tk = 0
      · rw [decide_eq_true (hA.2 c5)]; simp [c5]
      · rw [decide_eq_false (fun h => c5 (hA.1 h))]; simp [c5]
    simp only [runA, runB, runC, runD, runE, runF, fieldE, storeE, binE, ↓reduceIte, Nat.reduceLT, Nat.reduceLeDiff, Nat.reduceEqDiff, Nat.reduceAdd, Nat.reduceMul, Nat.reduceSub, reduceCtorEq, putAt, unE, Nat.reduceBEq, convE, buildE, List.replicate, Int.reduceLT, Int.reduceLE, Int.reduceToNat, mkE, mapSetE, hN, hF, ty_3, ty_4, ty_9, ty_97, notIf, isEq, g4]
    simp only [runB, finC, finD, Option.isSome_some, Option.isSome_none, ↓reduceIte, Nat.reduceEqDiff, Nat.reduceAdd, Nat.reduceMul, forall_eq_or_imp, forall_eq, implies_true, Nat.reduceBEq, reduceCtorEq, false_implies, List.zip_cons_cons, List.zip_nil_left, List.zip_nil_right, Nat.reduceLeDiff, List.forall_mem_nil, rs_207, hS]
theorem replA_at (n : Int) : replC [.c (.int .i64 n)] [] = some ⟨[.pv (.c (.bool (decide (n ≥ 0) && decide (n < 7))))], []⟩ := rfl

set_option maxRecDepth 100000 in
set_option maxHeartbeats 4000000 in
theorem voCk_sound (hΓ : SoundG Tryz.prog Γ) (h1 : Γ 206 = abC) (h2 : Γ 207 = tkC) (h3 : Γ 43 = replC) : SoundC Tryz.prog 170 voCkC := by
  refine sound_fn Tryz.func170 (by kernel_rfl) rfl rfl ?_
  intro args objs r hr
  obtain ⟨⟨kd, vw, ht, bl, tk, sg, sig⟩, _, rfl, rfl, rfl⟩ := mkC_inv hr
  refine ⟨rfl, by show 1 ≤ _; decide, fun E hN hns hF => ?_⟩
  refine vc_sound hΓ mixed _ _ _ ?_
  have hN := hN.trans nt_170
  unfold Vt.av
  have q1 := ab_at ⟨kd, vw, ht, bl, tk, sg, sig⟩
  have q2 := tk_at ⟨kd, vw, ht, bl, tk, sg, sig⟩
  dsimp only at q1 q2
  simp +contextual (maxSteps := 10000000) only [runA, runB, runC, runD, runE, runF, fieldE, storeE, binE, ↓reduceIte, Nat.reduceLT, Nat.reduceLeDiff, Nat.reduceEqDiff, Nat.reduceAdd, Nat.reduceMul, Nat.reduceSub, reduceCtorEq, putAt, unE, Nat.reduceBEq, convE, buildE, List.replicate, Int.reduceLT, Int.reduceLE, Int.reduceToNat, mkE, mapSetE, hN, hF, ty_3, ty_4, ty_9, ty_37, ty_97, notIf, isEq, bytes_length, false_implies, implies_true, h1, h2, h3, q1, q2, replA_at]
  refine ⟨fun b1 => ?_, fun b1 => ?_⟩
  · have hS : voS ⟨kd, vw, ht, bl, tk, sg, sig⟩ = 9 := if_neg (fun ⟨a1, a2, a3, a4, a5, a6, ⟨a7, a7'⟩, a8⟩ => by
      simp only at a1 a2 a3 a4 a7 a7' a8
      rw [decide_eq_true a5, decide_eq_true a6] at b1
      revert b1; simp; omega)
    simp only [runB, finC, finD, Option.isSome_some, Option.isSome_none, ↓reduceIte, Nat.reduceEqDiff, Nat.reduceAdd, Nat.reduceMul, forall_eq_or_imp, forall_eq, implies_true, Nat.reduceBEq, reduceCtorEq, false_implies, List.zip_cons_cons, List.zip_nil_left, List.zip_nil_right, Nat.reduceLeDiff, List.forall_mem_nil, rs_170, ty_3, ty_4, ty_9, ty_37, ty_97, hS]
  · have hS : voS ⟨kd, vw, ht, bl, tk, sg, sig⟩ = 0 := if_pos (by
      simp only [Bool.or_eq_false_iff, decide_eq_false_iff_not, Bool.not_eq_false', Bool.and_eq_true, decide_eq_true_eq] at b1
      obtain ⟨⟨⟨⟨⟨⟨⟨x1, x2⟩, x3⟩, x4⟩, x5⟩, x6⟩, x7⟩, x8⟩ := b1
      exact ⟨by simp only; omega, by simp only; omega, by simp only; omega, by simp only; omega, x5, x6, ⟨by simp only; omega, by simp only; omega⟩, by simp only; omega⟩)
    simp only [runB, finC, finD, Option.isSome_some, Option.isSome_none, ↓reduceIte, Nat.reduceEqDiff, Nat.reduceAdd, Nat.reduceMul, forall_eq_or_imp, forall_eq, implies_true, Nat.reduceBEq, reduceCtorEq, false_implies, List.zip_cons_cons, List.zip_nil_left, List.zip_nil_right, Nat.reduceLeDiff, List.forall_mem_nil, rs_170, ty_3, ty_4, ty_9, ty_37, ty_97, hS]


variable {Γ : FuncId → Contract}

/-- The fields, one behind another. -/
def voF (w : WS) (t : Vt) : WS := wNum (wNum (rText (wNum (wNum (wNum (rText w [118, 111, 116, 101]) t.kd) t.vw) t.ht) t.bl) t.tk) t.sg
def voB (t : Vt) : List UInt8 := putB 4 2 ++ ([118, 111, 116, 101] ++ (putB t.kd 6 ++ (putB t.vw 6 ++ (putB t.ht 6 ++ (putB (t.bl.length : Int) 2 ++ (t.bl ++ (putB t.tk 6 ++ putB t.sg 6)))))))
theorem voB_length (t : Vt) : (voB t).length = 38 + t.bl.length := by simp [voB, len6, len2]; omega
theorem okV_bl {t : Vt} (h : okV t) : t.bl.length ≤ 32 := by
  obtain ⟨h1, h2, h3, h4, h5, h6, h7, h8⟩ := h
  unfold aboutP at h5
  split at h5
  · rw [h5.2]; decide
  · omega
theorem okV_nums {t : Vt} (h : okV t) : (0 ≤ t.ht ∧ t.ht ≤ 1048576) ∧ (0 ≤ t.tk ∧ t.tk ≤ 1048576) := by
  obtain ⟨h1, h2, h3, h4, h5, h6, h7, h8⟩ := h
  unfold aboutP at h5
  unfold tickP at h6
  constructor
  · split at h5 <;> omega
  · split at h6 <;> omega
theorem voF_ok {t : Vt} (h : okV t) {b : List UInt8} (hb : b.length ≤ 16000) : voF ⟨b, 0⟩ t = ⟨b ++ voB t, 0⟩ := by
  have h0 := okV_bl h
  have h9 := okV_nums h
  obtain ⟨h1, h2, h3, h4, h5, h6, h7, h8⟩ := h
  unfold voF
  rw [rText_ok (by decide) (by omega), wNum_okN (by unfold okN; omega) (by simp [len2, len6]; omega), wNum_okN (by unfold okN; omega) (by simp [len2, len6]; omega),
    wNum_okN (by unfold okN; omega) (by simp [len2, len6]; omega), rText_ok (by omega) (by simp [len2, len6]; omega), wNum_okN (by unfold okN; omega) (by simp [len2, len6]; omega), wNum_okN (by unfold okN; omega) (by simp [len2, len6]; omega)]
  simp [voB]
noncomputable def voTxC : Contract := mkC (α := WS × Vt) (fun p => p.1.b.length ≤ 85000 ∧ p.2.bl.length ≤ 9223372036854775807) (fun p => [.ptr 6400000 0, p.2.av]) (fun p => [[.own 1 (bytes p.1.b), .c (.int .i64 p.1.e), .c (.bool true)]]) (fun p => ⟨[], [[.own 1 (bytes (voF p.1 p.2).b), .c (.int .i64 (voF p.1 p.2).e), .c (.bool true)]]⟩)
theorem voTx_at (w : WS) (tkd : Int) (tvw : Int) (tht : Int) (tbl : List UInt8) (ttk : Int) (tsg : Int) (tsig : List UInt8) (g0 : w.b.length ≤ 85000) (g1 : tbl.length ≤ 9223372036854775807) : voTxC [.ptr 6400000 0, .agg [.c (.int .i64 tkd), .c (.int .i64 tvw), .c (.int .i64 tht), .c (.str tbl), .c (.int .i64 ttk), .c (.int .i64 tsg), .c (.str tsig)]] [[.own 1 (bytes w.b), .c (.int .i64 w.e), .c (.bool true)]] = some ⟨[], [[.own 1 (bytes (voF w (⟨tkd, tvw, tht, tbl, ttk, tsg, tsig⟩ : Vt)).b), .c (.int .i64 (voF w (⟨tkd, tvw, tht, tbl, ttk, tsg, tsig⟩ : Vt)).e), .c (.bool true)]]⟩ := by
  obtain ⟨wb, we⟩ := w
  exact mkC_at (α := WS × Vt) (⟨wb, we⟩, ⟨tkd, tvw, tht, tbl, ttk, tsg, tsig⟩) ⟨g0, g1⟩ (by
    rintro ⟨⟨w'b, w'e⟩, t'⟩ _ h ho
    have hh := And.intro h ho
    clear h ho
    simp only [List.cons.injEq, AV.c.injEq, AV.agg.injEq, PC.int.injEq, PC.str.injEq, PC.bool.injEq, PC.sl.injEq, OV.c.injEq, OV.own.injEq, OV.mp.injEq, bytes_iff, texts_iff, true_and, and_true, and_self, beq_self_eq_true, Vt.av_iff] at hh
    simp only [hh])
def voT (t : Vt) : List UInt8 := if okV t then voB t else []
noncomputable def voTC : Contract := mkC (α := Vt) (fun p => True) (fun p => [p.av]) (fun p => []) (fun p => ⟨[.pv (.c (.sl (bytes (voT p))))], []⟩)
theorem voT_at (tkd : Int) (tvw : Int) (tht : Int) (tbl : List UInt8) (ttk : Int) (tsg : Int) (tsig : List UInt8) : voTC [.agg [.c (.int .i64 tkd), .c (.int .i64 tvw), .c (.int .i64 tht), .c (.str tbl), .c (.int .i64 ttk), .c (.int .i64 tsg), .c (.str tsig)]] [] = some ⟨[.pv (.c (.sl (bytes (voT (⟨tkd, tvw, tht, tbl, ttk, tsg, tsig⟩ : Vt)))))], []⟩ := by
  exact mkC_at (α := Vt) ⟨tkd, tvw, tht, tbl, ttk, tsg, tsig⟩ trivial (by
    rintro t' _ h ho
    have hh := And.intro h ho
    clear h ho
    simp only [List.cons.injEq, AV.c.injEq, AV.agg.injEq, PC.int.injEq, PC.str.injEq, PC.bool.injEq, PC.sl.injEq, OV.c.injEq, OV.own.injEq, OV.mp.injEq, bytes_iff, texts_iff, true_and, and_true, and_self, beq_self_eq_true, Vt.av_iff] at hh
    simp only [hh])

set_option maxRecDepth 100000 in
set_option maxHeartbeats 4000000 in
theorem voTx_sound (hΓ : SoundG Tryz.prog Γ) (h1 : Γ 53 = textC) (h2 : Γ 101 = numC) : SoundC Tryz.prog 152 voTxC := by
  refine sound_fn Tryz.func152 (by kernel_rfl) rfl rfl ?_
  intro args objs r0 hr
  obtain ⟨⟨w, t⟩, ⟨hl, hbl⟩, rfl, rfl, rfl⟩ := mkC_inv hr
  refine ⟨rfl, by show 2 ≤ _; decide, fun E hN hns hF => ?_⟩
  refine vc_sound hΓ mixed _ _ _ ?_
  have hN := hN.trans nt_152
  have hl : w.b.length ≤ 85000 := hl
  have hbl : t.bl.length ≤ 9223372036854775807 := hbl
  have l0 := (rText_len w [118, 111, 116, 101]).2
  have l1 := wNum_len (rText w [118, 111, 116, 101]) t.kd
  have l2 := wNum_len (wNum (rText w [118, 111, 116, 101]) t.kd) t.vw
  have l3 := wNum_len (wNum (wNum (rText w [118, 111, 116, 101]) t.kd) t.vw) t.ht
  have l4 := (rText_len (wNum (wNum (wNum (rText w [118, 111, 116, 101]) t.kd) t.vw) t.ht) t.bl).2
  have l5 := wNum_len (rText (wNum (wNum (wNum (rText w [118, 111, 116, 101]) t.kd) t.vw) t.ht) t.bl) t.tk
  have q0 := text_atw w [118, 111, 116, 101] (by omega) (by decide)
  have q1 := num_atw (rText w [118, 111, 116, 101]) t.kd (by omega)
  have q2 := num_atw (wNum (rText w [118, 111, 116, 101]) t.kd) t.vw (by omega)
  have q3 := num_atw (wNum (wNum (rText w [118, 111, 116, 101]) t.kd) t.vw) t.ht (by omega)
  have q4 := text_atw (wNum (wNum (wNum (rText w [118, 111, 116, 101]) t.kd) t.vw) t.ht) t.bl (by omega) (by omega)
  have q5 := num_atw (rText (wNum (wNum (wNum (rText w [118, 111, 116, 101]) t.kd) t.vw) t.ht) t.bl) t.tk (by omega)
  have q6 := num_atw (wNum (rText (wNum (wNum (wNum (rText w [118, 111, 116, 101]) t.kd) t.vw) t.ht) t.bl) t.tk) t.sg (by omega)
  unfold voF Vt.av
  simp only [runA, runB, runC, runD, runE, runF, fieldE, storeE, binE, ↓reduceIte, Nat.reduceLT, Nat.reduceLeDiff, Nat.reduceEqDiff, Nat.reduceAdd, Nat.reduceMul, Nat.reduceSub, reduceCtorEq, putAt, unE, Nat.reduceBEq, convE, buildE, List.replicate, Int.reduceLT, Int.reduceLE, Int.reduceToNat, mkE, mapSetE, hN, hF, ty_3, ty_9, ty_44, ty_97, notIf, isEq, h1, h2, q0, q1, q2, q3, q4, q5, q6, bytes_length]
  simp only [runB, finC, finD, Option.isSome_some, Option.isSome_none, ↓reduceIte, Nat.reduceEqDiff, Nat.reduceAdd, Nat.reduceMul, forall_eq_or_imp, forall_eq, implies_true, Nat.reduceBEq, reduceCtorEq, false_implies, List.zip_cons_cons, List.zip_nil_left, List.zip_nil_right, Nat.reduceLeDiff, List.forall_mem_nil, rs_152, bytes_length]

set_option maxRecDepth 100000 in
set_option maxHeartbeats 4000000 in
theorem voT_sound (hΓ : SoundG Tryz.prog Γ) (h1 : Γ 170 = voCkC) (h2 : Γ 13 = newC) (h3 : Γ 152 = voTxC) (h4 : Γ 15 = doneC) : SoundC Tryz.prog 171 voTC := by
  refine sound_fn Tryz.func171 (by kernel_rfl) rfl rfl ?_
  intro args objs r0 hr
  obtain ⟨t, _, rfl, rfl, rfl⟩ := mkC_inv hr
  refine ⟨rfl, by show 1 ≤ _; decide, fun E hN hns hF => ?_⟩
  refine vc_sound hΓ mixed _ _ _ ?_
  have hN := hN.trans nt_171
  have q1 := voCk_at t
  unfold Vt.av
  by_cases hk : okV t
  case neg =>
    have hS : voT t = [] := if_neg hk
    rw [show voS t = 9 from if_neg hk] at q1
    rw [hS]
    have b9 : ((9 : Int) != 0) = true := rfl
    simp only [runA, runB, runC, runD, runE, runF, fieldE, storeE, binE, ↓reduceIte, Nat.reduceLT, Nat.reduceLeDiff, Nat.reduceEqDiff, Nat.reduceAdd, Nat.reduceMul, Nat.reduceSub, reduceCtorEq, putAt, unE, Nat.reduceBEq, convE, buildE, List.replicate, Int.reduceLT, Int.reduceLE, Int.reduceToNat, mkE, mapSetE, hN, hF, ty_3, ty_5, ty_9, ty_37, ty_44, ty_47, ty_97, notIf, isEq, h1, q1, b9]
    simp only [runB, finC, finD, Option.isSome_some, Option.isSome_none, ↓reduceIte, Nat.reduceEqDiff, Nat.reduceAdd, Nat.reduceMul, forall_eq_or_imp, forall_eq, implies_true, Nat.reduceBEq, reduceCtorEq, false_implies, List.zip_cons_cons, List.zip_nil_left, List.zip_nil_right, Nat.reduceLeDiff, List.forall_mem_nil, rs_171, bytes, List.map_nil]
  have hS : voT t = voB t := if_pos hk
  rw [show voS t = 0 from if_pos hk] at q1
  have q2 := voTx_at ⟨[], 0⟩ t.kd t.vw t.ht t.bl t.tk t.sg t.sig (by simp) (by have := okV_bl hk; omega)
  rw [voF_ok hk (by simp)] at q2
  have hbl := voB_length t
  have hb2 := okV_bl hk
  have q3 := done_atw ⟨voB t, 0⟩
  rw [show doneR ⟨voB t, 0⟩ = (voB t, 0) from by unfold doneR; rw [if_pos rfl, if_neg (by show ¬ 16384 < (voB t).length; omega)]] at q3
  rw [hS]
  dsimp only at q2 q3
  rw [List.nil_append] at q2
  generalize voB t = bb at q2 q3 hbl ⊢
  have b0 : ((0 : Int) != 0) = false := rfl
  simp only [runA, runB, runC, runD, runE, runF, fieldE, storeE, binE, ↓reduceIte, Nat.reduceLT, Nat.reduceLeDiff, Nat.reduceEqDiff, Nat.reduceAdd, Nat.reduceMul, Nat.reduceSub, reduceCtorEq, putAt, unE, Nat.reduceBEq, convE, buildE, List.replicate, Int.reduceLT, Int.reduceLE, Int.reduceToNat, mkE, mapSetE, hN, hF, ty_3, ty_5, ty_9, ty_37, ty_44, ty_47, ty_97, notIf, isEq, h1, q1, b0, h2, newC, h3, q2, h4, q3, bytes_length]
  simp only [runB, finC, finD, Option.isSome_some, Option.isSome_none, ↓reduceIte, Nat.reduceEqDiff, Nat.reduceAdd, Nat.reduceMul, forall_eq_or_imp, forall_eq, implies_true, Nat.reduceBEq, reduceCtorEq, false_implies, List.zip_cons_cons, List.zip_nil_left, List.zip_nil_right, Nat.reduceLeDiff, List.forall_mem_nil, rs_171]


variable {Γ : FuncId → Contract}

theorem voT_len (t : Vt) : (voT t).length ≤ 70 := by
  unfold voT
  split
  · rename_i h; have := okV_bl h; rw [voB_length]; omega
  · simp
noncomputable def validV (t : Vt) (roots : List (List UInt8)) : Bool := decide (okV t) && decide (t.sg < (roots.length : Int)) && (verS (roots.getD t.sg.toNat []) 4 (voT t) t.sig).2
noncomputable def voVaC : Contract := mkC (α := Vt × List (List UInt8)) (fun p => p.2.length ≤ 9223372036854775807) (fun p => [p.1.av, .c (.sl (texts p.2))]) (fun _ => []) (fun p => ⟨[.pv (.c (.bool (validV p.1 p.2)))], []⟩)
theorem voVa_at (t : Vt) (roots : List (List UInt8)) (h : roots.length ≤ 9223372036854775807) : voVaC [.agg [.c (.int .i64 t.kd), .c (.int .i64 t.vw), .c (.int .i64 t.ht), .c (.str t.bl), .c (.int .i64 t.tk), .c (.int .i64 t.sg), .c (.str t.sig)], .c (.sl (texts roots))] [] = some ⟨[.pv (.c (.bool (validV t roots)))], []⟩ :=
  mkC_at (α := Vt × List (List UInt8)) (t, roots) h (by
    rintro ⟨t', r'⟩ _ h _
    have h' : [t'.av, .c (.sl (texts r'))] = [t.av, .c (.sl (texts roots))] := h
    simp only [List.cons.injEq, AV.c.injEq, PC.sl.injEq, and_true] at h'
    rw [Vt.av_inj h'.1, texts_inj h'.2])
set_option maxRecDepth 100000 in
set_option maxHeartbeats 4000000 in
theorem voVa_sound (hΓ : SoundG Tryz.prog Γ) (h1 : Γ 170 = voCkC) (h2 : Γ 171 = voTC) (h3 : Γ 119 = sverC) : SoundC Tryz.prog 121 voVaC := by
  refine sound_fn Tryz.func121 (by kernel_rfl) rfl rfl ?_
  intro args objs r0 hr
  obtain ⟨⟨t, roots⟩, hl, rfl, rfl, rfl⟩ := mkC_inv hr
  have hl : roots.length ≤ 9223372036854775807 := hl
  refine ⟨rfl, by show 2 ≤ _; decide, fun E hN hns hF => ?_⟩
  refine vc_sound hΓ mixed _ _ _ ?_
  have hN := hN.trans nt_121
  unfold Vt.av
  dsimp only
  have q1 := voCk_at t
  by_cases hk : okV t
  case neg =>
    rw [show voS t = 9 from if_neg hk] at q1
    have hS : validV t roots = false := by unfold validV; rw [decide_eq_false hk]; rfl
    have b0 : ((9 : Int) != 0) = true := rfl
    rw [hS]
    simp only [runA, runB, runC, runD, runE, runF, fieldE, storeE, binE, ↓reduceIte, Nat.reduceLT, Nat.reduceLeDiff, Nat.reduceEqDiff, Nat.reduceAdd, Nat.reduceMul, Nat.reduceSub, reduceCtorEq, putAt, unE, Nat.reduceBEq, convE, buildE, List.replicate, Int.reduceLT, Int.reduceLE, Int.reduceToNat, mkE, mapSetE, hN, hF, ty_3, ty_4, ty_5, ty_9, ty_24, ty_37, ty_47, ty_97, notIf, isEq, h1, q1, b0]
    simp only [runB, finC, finD, Option.isSome_some, Option.isSome_none, ↓reduceIte, Nat.reduceEqDiff, Nat.reduceAdd, Nat.reduceMul, forall_eq_or_imp, forall_eq, implies_true, Nat.reduceBEq, reduceCtorEq, false_implies, List.zip_cons_cons, List.zip_nil_left, List.zip_nil_right, Nat.reduceLeDiff, List.forall_mem_nil, rs_121]
  rw [show voS t = 0 from if_pos hk] at q1
  have b0 : ((0 : Int) != 0) = false := rfl
  by_cases hf : t.sg < (roots.length : Int)
  case neg =>
    have hS : validV t roots = false := by unfold validV; rw [decide_eq_false hf, Bool.and_false]; rfl
    have g1 : decide (t.sg ≥ (roots.length : Int)) = true := by simp; omega
    rw [hS]
    simp only [runA, runB, runC, runD, runE, runF, fieldE, storeE, binE, ↓reduceIte, Nat.reduceLT, Nat.reduceLeDiff, Nat.reduceEqDiff, Nat.reduceAdd, Nat.reduceMul, Nat.reduceSub, reduceCtorEq, putAt, unE, Nat.reduceBEq, convE, buildE, List.replicate, Int.reduceLT, Int.reduceLE, Int.reduceToNat, mkE, mapSetE, hN, hF, ty_3, ty_4, ty_5, ty_9, ty_24, ty_37, ty_47, ty_97, notIf, isEq, texts_length, h1, q1, b0, g1]
    simp only [runB, finC, finD, Option.isSome_some, Option.isSome_none, ↓reduceIte, Nat.reduceEqDiff, Nat.reduceAdd, Nat.reduceMul, forall_eq_or_imp, forall_eq, implies_true, Nat.reduceBEq, reduceCtorEq, false_implies, List.zip_cons_cons, List.zip_nil_left, List.zip_nil_right, Nat.reduceLeDiff, List.forall_mem_nil, rs_121]
  have g1 : decide (t.sg ≥ (roots.length : Int)) = false := by simp; omega
  have hS : validV t roots = (verS (roots.getD t.sg.toNat []) 4 (voT t) t.sig).2 := by unfold validV; rw [decide_eq_true hf, decide_eq_true hk]; simp
  rw [hS]
  obtain ⟨k0, hk3⟩ := hk.2.2.2.2.2.2.1
  have q2 := voT_at t.kd t.vw t.ht t.bl t.tk t.sg t.sig
  have q3 := sver_at (roots.getD t.sg.toNat []) 4 (voT t) t.sig (by have := voT_len t; omega)
  have hg := textsD roots t.sg.toNat (by omega)
  have g0 : (0 ≤ t.sg) = True := eq_true k0
  generalize verS (roots.getD t.sg.toNat []) 4 (voT t) t.sig = vv at q3 ⊢
  generalize roots.getD t.sg.toNat [] = rt at q3 hg
  generalize voT t = tt at q2 q3
  simp only [runA, runB, runC, runD, runE, runF, fieldE, storeE, binE, ↓reduceIte, Nat.reduceLT, Nat.reduceLeDiff, Nat.reduceEqDiff, Nat.reduceAdd, Nat.reduceMul, Nat.reduceSub, reduceCtorEq, putAt, unE, Nat.reduceBEq, convE, buildE, List.replicate, Int.reduceLT, Int.reduceLE, Int.reduceToNat, mkE, mapSetE, hN, hF, ty_3, ty_4, ty_5, ty_9, ty_24, ty_37, ty_47, ty_97, notIf, isEq, texts_length, h1, q1, b0, g0, g1, hg, h2, q2, h3, q3]
  refine drawnP_intro (by kernel_rfl) (by kernel_rfl) ?_
  simp only [runA, runB, runC, runD, runE, runF, fieldE, storeE, binE, ↓reduceIte, Nat.reduceLT, Nat.reduceLeDiff, Nat.reduceEqDiff, Nat.reduceAdd, Nat.reduceMul, Nat.reduceSub, reduceCtorEq, putAt, unE, Nat.reduceBEq, convE, buildE, List.replicate, Int.reduceLT, Int.reduceLE, Int.reduceToNat, mkE, mapSetE, hN, hF, ty_3, ty_4, ty_5, ty_9, ty_24, ty_37, ty_47, ty_97, notIf, isEq]
  simp only [runB, finC, finD, Option.isSome_some, Option.isSome_none, ↓reduceIte, Nat.reduceEqDiff, Nat.reduceAdd, Nat.reduceMul, forall_eq_or_imp, forall_eq, implies_true, Nat.reduceBEq, reduceCtorEq, false_implies, List.zip_cons_cons, List.zip_nil_left, List.zip_nil_right, Nat.reduceLeDiff, List.forall_mem_nil, rs_121]


variable {Γ : FuncId → Contract}

set_option maxRecDepth 100000 in
set_option maxHeartbeats 4000000 in
theorem rVoVa_sound (hΓ : SoundG Tryz.prog Γ) (h1 : Γ 125 = voCkC) (h2 : Γ 126 = voTC) (h3 : Γ 88 = sverC) : SoundC Tryz.prog 72 voVaC := by
  refine sound_fn Tryz.func72 (by kernel_rfl) rfl rfl ?_
  intro args objs r0 hr
  obtain ⟨⟨t, roots⟩, hl, rfl, rfl, rfl⟩ := mkC_inv hr
  have hl : roots.length ≤ 9223372036854775807 := hl
  refine ⟨rfl, by show 2 ≤ _; decide, fun E hN hns hF => ?_⟩
  refine vc_sound hΓ mixed _ _ _ ?_
  have hN := hN.trans nt_72
  unfold Vt.av
  dsimp only
  have q1 := voCk_at t
  by_cases hk : okV t
  case neg =>
    rw [show voS t = 9 from if_neg hk] at q1
    have hS : validV t roots = false := by unfold validV; rw [decide_eq_false hk]; rfl
    have b0 : ((9 : Int) != 0) = true := rfl
    rw [hS]
    simp only [runA, runB, runC, runD, runE, runF, fieldE, storeE, binE, ↓reduceIte, Nat.reduceLT, Nat.reduceLeDiff, Nat.reduceEqDiff, Nat.reduceAdd, Nat.reduceMul, Nat.reduceSub, reduceCtorEq, putAt, unE, Nat.reduceBEq, convE, buildE, List.replicate, Int.reduceLT, Int.reduceLE, Int.reduceToNat, mkE, mapSetE, hN, hF, ty_3, ty_4, ty_5, ty_9, ty_24, ty_47, ty_97, notIf, isEq, h1, q1, b0]
    simp only [runB, finC, finD, Option.isSome_some, Option.isSome_none, ↓reduceIte, Nat.reduceEqDiff, Nat.reduceAdd, Nat.reduceMul, forall_eq_or_imp, forall_eq, implies_true, Nat.reduceBEq, reduceCtorEq, false_implies, List.zip_cons_cons, List.zip_nil_left, List.zip_nil_right, Nat.reduceLeDiff, List.forall_mem_nil, rs_72]
  rw [show voS t = 0 from if_pos hk] at q1
  have b0 : ((0 : Int) != 0) = false := rfl
  by_cases hf : t.sg < (roots.length : Int)
  case neg =>
    have hS : validV t roots = false := by unfold validV; rw [decide_eq_false hf, Bool.and_false]; rfl
    have g1 : decide (t.sg ≥ (roots.length : Int)) = true := by simp; omega
    rw [hS]
    simp only [runA, runB, runC, runD, runE, runF, fieldE, storeE, binE, ↓reduceIte, Nat.reduceLT, Nat.reduceLeDiff, Nat.reduceEqDiff, Nat.reduceAdd, Nat.reduceMul, Nat.reduceSub, reduceCtorEq, putAt, unE, Nat.reduceBEq, convE, buildE, List.replicate, Int.reduceLT, Int.reduceLE, Int.reduceToNat, mkE, mapSetE, hN, hF, ty_3, ty_4, ty_5, ty_9, ty_24, ty_47, ty_97, notIf, isEq, texts_length, h1, q1, b0, g1]
    simp only [runB, finC, finD, Option.isSome_some, Option.isSome_none, ↓reduceIte, Nat.reduceEqDiff, Nat.reduceAdd, Nat.reduceMul, forall_eq_or_imp, forall_eq, implies_true, Nat.reduceBEq, reduceCtorEq, false_implies, List.zip_cons_cons, List.zip_nil_left, List.zip_nil_right, Nat.reduceLeDiff, List.forall_mem_nil, rs_72]
  have g1 : decide (t.sg ≥ (roots.length : Int)) = false := by simp; omega
  have hS : validV t roots = (verS (roots.getD t.sg.toNat []) 4 (voT t) t.sig).2 := by unfold validV; rw [decide_eq_true hf, decide_eq_true hk]; simp
  rw [hS]
  obtain ⟨k0, hk3⟩ := hk.2.2.2.2.2.2.1
  have q2 := voT_at t.kd t.vw t.ht t.bl t.tk t.sg t.sig
  have q3 := sver_at (roots.getD t.sg.toNat []) 4 (voT t) t.sig (by have := voT_len t; omega)
  have hg := textsD roots t.sg.toNat (by omega)
  have g0 : (0 ≤ t.sg) = True := eq_true k0
  generalize verS (roots.getD t.sg.toNat []) 4 (voT t) t.sig = vv at q3 ⊢
  generalize roots.getD t.sg.toNat [] = rt at q3 hg
  generalize voT t = tt at q2 q3
  simp only [runA, runB, runC, runD, runE, runF, fieldE, storeE, binE, ↓reduceIte, Nat.reduceLT, Nat.reduceLeDiff, Nat.reduceEqDiff, Nat.reduceAdd, Nat.reduceMul, Nat.reduceSub, reduceCtorEq, putAt, unE, Nat.reduceBEq, convE, buildE, List.replicate, Int.reduceLT, Int.reduceLE, Int.reduceToNat, mkE, mapSetE, hN, hF, ty_3, ty_4, ty_5, ty_9, ty_24, ty_47, ty_97, notIf, isEq, texts_length, h1, q1, b0, g0, g1, hg, h2, q2, h3, q3]
  refine drawnP_intro (by kernel_rfl) (by kernel_rfl) ?_
  simp only [runA, runB, runC, runD, runE, runF, fieldE, storeE, binE, ↓reduceIte, Nat.reduceLT, Nat.reduceLeDiff, Nat.reduceEqDiff, Nat.reduceAdd, Nat.reduceMul, Nat.reduceSub, reduceCtorEq, putAt, unE, Nat.reduceBEq, convE, buildE, List.replicate, Int.reduceLT, Int.reduceLE, Int.reduceToNat, mkE, mapSetE, hN, hF, ty_3, ty_4, ty_5, ty_9, ty_24, ty_47, ty_97, notIf, isEq]
  simp only [runB, finC, finD, Option.isSome_some, Option.isSome_none, ↓reduceIte, Nat.reduceEqDiff, Nat.reduceAdd, Nat.reduceMul, forall_eq_or_imp, forall_eq, implies_true, Nat.reduceBEq, reduceCtorEq, false_implies, List.zip_cons_cons, List.zip_nil_left, List.zip_nil_right, Nat.reduceLeDiff, List.forall_mem_nil, rs_72]

end Go.Proofs.YtenmlgalcjkdbaaGreat.AM
