/-
  QG: Wl1 Wl2 Wl3 Wl4 Wl5.
-/
import Derived.Test.YtofkehedjcinhaaQ7
import Derived.Test.YtofkehedjcinhaaQE
import Derived.Test.YtofkehedjcinhaaQF
set_option linter.unusedVariables false
set_option linter.unusedSimpArgs false
namespace Go.Proofs.Ytofkehedjcinhaa.AM
open Go

variable {Γ : FuncId → Contract}

noncomputable def ckLC : Contract := mkC (α := Setp) (fun s => s.l.length ≤ 9223372036854775807) (fun s => [.agg [.c (.int .i64 s.r), .c (.int .i64 s.q), .c (.int .i64 s.c), .c (.sl (ruls s.l))]]) (fun _ => []) (fun s => ⟨[.pv (.c (.int .i64 (checkS s)))], []⟩)
theorem ckL_at (r q c : Int) (l : List Rul) (h : l.length ≤ 9223372036854775807) : ckLC [.agg [.c (.int .i64 r), .c (.int .i64 q), .c (.int .i64 c), .c (.sl (ruls l))]] [] = some ⟨[.pv (.c (.int .i64 (checkS ⟨r, q, c, l⟩)))], []⟩ :=
  mkC_at (α := Setp) ⟨r, q, c, l⟩ h (by
    rintro ⟨r', q', c', l'⟩ _ h' _
    simp only [List.cons.injEq, AV.c.injEq, PC.int.injEq, PC.sl.injEq, AV.agg.injEq, true_and, and_true] at h'
    obtain ⟨rfl, rfl, rfl, h'⟩ := h'
    obtain rfl := ruls_inj h'
    rfl)

set_option maxRecDepth 100000 in
set_option maxHeartbeats 4000000 in
theorem ckL_sound (hΓ : SoundG Try.prog Γ) (h1 : Γ 15 = rcC) : SoundC Try.prog 6 ckLC := by
  refine sound_fn Try.func6 (by kernel_rfl) rfl rfl ?_
  intro args objs r0 hr
  obtain ⟨⟨r, q, c, l⟩, hl, rfl, rfl, rfl⟩ := mkC_inv hr
  have hl : l.length ≤ 9223372036854775807 := hl
  refine ⟨rfl, by show 1 ≤ _; decide, fun E hN hns hF => ?_⟩
  refine vc_sound hΓ mixed _ _ _ ?_
  have hN := hN.trans nt_6
  dsimp only
  by_cases a1 : r < 1
  · have g1 : decide (r < 1) = true := by simp; omega
    have hS : checkS ⟨r, q, c, l⟩ = 3 := by unfold checkS; rw [if_pos (.inl a1)]
    simp only [runA, runB, runC, runD, runE, runF, fieldE, storeE, binE, ↓reduceIte, Nat.reduceLT, Nat.reduceLeDiff, Nat.reduceEqDiff, Nat.reduceAdd, Nat.reduceMul, Nat.reduceSub, reduceCtorEq, putAt, unE, Nat.reduceBEq, convE, buildE, List.replicate, Int.reduceLT, Int.reduceLE, Int.reduceToNat, mkE, mapSetE, hN, hF, ty_3, ty_22, ty_24, ty_27, ty_36, notIf, isEq, g1, ruls_length]
    refine drawnP_intro (by kernel_rfl) (by kernel_rfl) ?_
    simp only [runA, runB, runC, runD, runE, runF, fieldE, storeE, binE, ↓reduceIte, Nat.reduceLT, Nat.reduceLeDiff, Nat.reduceEqDiff, Nat.reduceAdd, Nat.reduceMul, Nat.reduceSub, reduceCtorEq, putAt, unE, Nat.reduceBEq, convE, buildE, List.replicate, Int.reduceLT, Int.reduceLE, Int.reduceToNat, mkE, mapSetE, hN, hF, ty_3, ty_22, ty_24, ty_27, ty_36, notIf, isEq, g1]
    simp only [runB, finC, finD, Option.isSome_some, Option.isSome_none, ↓reduceIte, Nat.reduceEqDiff, Nat.reduceAdd, Nat.reduceMul, forall_eq_or_imp, forall_eq, implies_true, Nat.reduceBEq, reduceCtorEq, false_implies, List.zip_cons_cons, List.zip_nil_left, List.zip_nil_right, Nat.reduceLeDiff, List.forall_mem_nil, rs_6, hS]
  have g1 : decide (r < 1) = false := by simp; omega
  by_cases a2 : 5 < r
  · have g2 : decide (r > 5) = true := by simp; omega
    have hS : checkS ⟨r, q, c, l⟩ = 3 := by unfold checkS; rw [if_pos (.inr (.inl a2))]
    simp only [runA, runB, runC, runD, runE, runF, fieldE, storeE, binE, ↓reduceIte, Nat.reduceLT, Nat.reduceLeDiff, Nat.reduceEqDiff, Nat.reduceAdd, Nat.reduceMul, Nat.reduceSub, reduceCtorEq, putAt, unE, Nat.reduceBEq, convE, buildE, List.replicate, Int.reduceLT, Int.reduceLE, Int.reduceToNat, mkE, mapSetE, hN, hF, ty_3, ty_22, ty_24, ty_27, ty_36, notIf, isEq, g1, g2, ruls_length]
    refine drawnP_intro (by kernel_rfl) (by kernel_rfl) ?_
    simp only [runA, runB, runC, runD, runE, runF, fieldE, storeE, binE, ↓reduceIte, Nat.reduceLT, Nat.reduceLeDiff, Nat.reduceEqDiff, Nat.reduceAdd, Nat.reduceMul, Nat.reduceSub, reduceCtorEq, putAt, unE, Nat.reduceBEq, convE, buildE, List.replicate, Int.reduceLT, Int.reduceLE, Int.reduceToNat, mkE, mapSetE, hN, hF, ty_3, ty_22, ty_24, ty_27, ty_36, notIf, isEq, g1, g2]
    simp only [runB, finC, finD, Option.isSome_some, Option.isSome_none, ↓reduceIte, Nat.reduceEqDiff, Nat.reduceAdd, Nat.reduceMul, forall_eq_or_imp, forall_eq, implies_true, Nat.reduceBEq, reduceCtorEq, false_implies, List.zip_cons_cons, List.zip_nil_left, List.zip_nil_right, Nat.reduceLeDiff, List.forall_mem_nil, rs_6, hS]
  have g2 : decide (r > 5) = false := by simp; omega
  by_cases a3 : q < 1
  · have g3 : decide (q < 1) = true := by simp; omega
    have hS : checkS ⟨r, q, c, l⟩ = 3 := by unfold checkS; rw [if_pos (.inr (.inr (.inl a3)))]
    simp only [runA, runB, runC, runD, runE, runF, fieldE, storeE, binE, ↓reduceIte, Nat.reduceLT, Nat.reduceLeDiff, Nat.reduceEqDiff, Nat.reduceAdd, Nat.reduceMul, Nat.reduceSub, reduceCtorEq, putAt, unE, Nat.reduceBEq, convE, buildE, List.replicate, Int.reduceLT, Int.reduceLE, Int.reduceToNat, mkE, mapSetE, hN, hF, ty_3, ty_22, ty_24, ty_27, ty_36, notIf, isEq, g1, g2, g3, ruls_length]
    refine drawnP_intro (by kernel_rfl) (by kernel_rfl) ?_
    simp only [runA, runB, runC, runD, runE, runF, fieldE, storeE, binE, ↓reduceIte, Nat.reduceLT, Nat.reduceLeDiff, Nat.reduceEqDiff, Nat.reduceAdd, Nat.reduceMul, Nat.reduceSub, reduceCtorEq, putAt, unE, Nat.reduceBEq, convE, buildE, List.replicate, Int.reduceLT, Int.reduceLE, Int.reduceToNat, mkE, mapSetE, hN, hF, ty_3, ty_22, ty_24, ty_27, ty_36, notIf, isEq, g1, g2, g3]
    simp only [runB, finC, finD, Option.isSome_some, Option.isSome_none, ↓reduceIte, Nat.reduceEqDiff, Nat.reduceAdd, Nat.reduceMul, forall_eq_or_imp, forall_eq, implies_true, Nat.reduceBEq, reduceCtorEq, false_implies, List.zip_cons_cons, List.zip_nil_left, List.zip_nil_right, Nat.reduceLeDiff, List.forall_mem_nil, rs_6, hS]
  have g3 : decide (q < 1) = false := by simp; omega
  by_cases a4 : r < q
  · have g4 : decide (q > r) = true := by simp; omega
    have hS : checkS ⟨r, q, c, l⟩ = 3 := by unfold checkS; rw [if_pos (.inr (.inr (.inr (.inl a4))))]
    simp only [runA, runB, runC, runD, runE, runF, fieldE, storeE, binE, ↓reduceIte, Nat.reduceLT, Nat.reduceLeDiff, Nat.reduceEqDiff, Nat.reduceAdd, Nat.reduceMul, Nat.reduceSub, reduceCtorEq, putAt, unE, Nat.reduceBEq, convE, buildE, List.replicate, Int.reduceLT, Int.reduceLE, Int.reduceToNat, mkE, mapSetE, hN, hF, ty_3, ty_22, ty_24, ty_27, ty_36, notIf, isEq, g1, g2, g3, g4, ruls_length]
    refine drawnP_intro (by kernel_rfl) (by kernel_rfl) ?_
    simp only [runA, runB, runC, runD, runE, runF, fieldE, storeE, binE, ↓reduceIte, Nat.reduceLT, Nat.reduceLeDiff, Nat.reduceEqDiff, Nat.reduceAdd, Nat.reduceMul, Nat.reduceSub, reduceCtorEq, putAt, unE, Nat.reduceBEq, convE, buildE, List.replicate, Int.reduceLT, Int.reduceLE, Int.reduceToNat, mkE, mapSetE, hN, hF, ty_3, ty_22, ty_24, ty_27, ty_36, notIf, isEq, g1, g2, g3, g4]
    simp only [runB, finC, finD, Option.isSome_some, Option.isSome_none, ↓reduceIte, Nat.reduceEqDiff, Nat.reduceAdd, Nat.reduceMul, forall_eq_or_imp, forall_eq, implies_true, Nat.reduceBEq, reduceCtorEq, false_implies, List.zip_cons_cons, List.zip_nil_left, List.zip_nil_right, Nat.reduceLeDiff, List.forall_mem_nil, rs_6, hS]
  have g4 : decide (q > r) = false := by simp; omega
  by_cases a5 : 3 < l.length
  · have g5 : decide ((l.length : Int) > 3) = true := by simp; omega
    have hS : checkS ⟨r, q, c, l⟩ = 3 := by unfold checkS; rw [if_pos (.inr (.inr (.inr (.inr (.inl a5)))))]
    simp only [runA, runB, runC, runD, runE, runF, fieldE, storeE, binE, ↓reduceIte, Nat.reduceLT, Nat.reduceLeDiff, Nat.reduceEqDiff, Nat.reduceAdd, Nat.reduceMul, Nat.reduceSub, reduceCtorEq, putAt, unE, Nat.reduceBEq, convE, buildE, List.replicate, Int.reduceLT, Int.reduceLE, Int.reduceToNat, mkE, mapSetE, hN, hF, ty_3, ty_22, ty_24, ty_27, ty_36, notIf, isEq, g1, g2, g3, g4, g5, ruls_length]
    refine drawnP_intro (by kernel_rfl) (by kernel_rfl) ?_
    simp only [runA, runB, runC, runD, runE, runF, fieldE, storeE, binE, ↓reduceIte, Nat.reduceLT, Nat.reduceLeDiff, Nat.reduceEqDiff, Nat.reduceAdd, Nat.reduceMul, Nat.reduceSub, reduceCtorEq, putAt, unE, Nat.reduceBEq, convE, buildE, List.replicate, Int.reduceLT, Int.reduceLE, Int.reduceToNat, mkE, mapSetE, hN, hF, ty_3, ty_22, ty_24, ty_27, ty_36, notIf, isEq, g1, g2, g3, g4, g5]
    simp only [runB, finC, finD, Option.isSome_some, Option.isSome_none, ↓reduceIte, Nat.reduceEqDiff, Nat.reduceAdd, Nat.reduceMul, forall_eq_or_imp, forall_eq, implies_true, Nat.reduceBEq, reduceCtorEq, false_implies, List.zip_cons_cons, List.zip_nil_left, List.zip_nil_right, Nat.reduceLeDiff, List.forall_mem_nil, rs_6, hS]
  have g5 : decide ((l.length : Int) > 3) = false := by simp; omega
  by_cases a6 : c < 0
  · have g6 : decide (c < 0) = true := by simp; omega
    have hS : checkS ⟨r, q, c, l⟩ = 3 := by unfold checkS; rw [if_pos (.inr (.inr (.inr (.inr (.inr (.inl a6))))))]
    simp only [runA, runB, runC, runD, runE, runF, fieldE, storeE, binE, ↓reduceIte, Nat.reduceLT, Nat.reduceLeDiff, Nat.reduceEqDiff, Nat.reduceAdd, Nat.reduceMul, Nat.reduceSub, reduceCtorEq, putAt, unE, Nat.reduceBEq, convE, buildE, List.replicate, Int.reduceLT, Int.reduceLE, Int.reduceToNat, mkE, mapSetE, hN, hF, ty_3, ty_22, ty_24, ty_27, ty_36, notIf, isEq, g1, g2, g3, g4, g5, g6, ruls_length]
    refine drawnP_intro (by kernel_rfl) (by kernel_rfl) ?_
    simp only [runA, runB, runC, runD, runE, runF, fieldE, storeE, binE, ↓reduceIte, Nat.reduceLT, Nat.reduceLeDiff, Nat.reduceEqDiff, Nat.reduceAdd, Nat.reduceMul, Nat.reduceSub, reduceCtorEq, putAt, unE, Nat.reduceBEq, convE, buildE, List.replicate, Int.reduceLT, Int.reduceLE, Int.reduceToNat, mkE, mapSetE, hN, hF, ty_3, ty_22, ty_24, ty_27, ty_36, notIf, isEq, g1, g2, g3, g4, g5, g6]
    simp only [runB, finC, finD, Option.isSome_some, Option.isSome_none, ↓reduceIte, Nat.reduceEqDiff, Nat.reduceAdd, Nat.reduceMul, forall_eq_or_imp, forall_eq, implies_true, Nat.reduceBEq, reduceCtorEq, false_implies, List.zip_cons_cons, List.zip_nil_left, List.zip_nil_right, Nat.reduceLeDiff, List.forall_mem_nil, rs_6, hS]
  have g6 : decide (c < 0) = false := by simp; omega
  obtain ⟨R, rfl⟩ : ∃ R : Nat, r = (R : Int) := ⟨r.toNat, by omega⟩
  have hR5 : R ≤ 5 := by omega
  have e1 := shl_r R hR5
  have hb : ((R : Int) < 0) = False := by simp
  have hRt : ((R : Int)).toNat = R := by omega
  by_cases a7 : ((2 ^ R : Nat) : Int) ≤ c
  · have g7 : decide (c ≥ ((2 ^ R : Nat) : Int)) = true := by simpa using a7
    have hS : checkS ⟨(R : Int), q, c, l⟩ = 3 := by
      unfold checkS; rw [if_pos]
      refine .inr (.inr (.inr (.inr (.inr (.inr ?_)))))
      show (2 : Int) ^ ((R : Int)).toNat ≤ c
      rw [hRt]; simpa using a7
    simp only [runA, runB, runC, runD, runE, runF, fieldE, storeE, binE, ↓reduceIte, Nat.reduceLT, Nat.reduceLeDiff, Nat.reduceEqDiff, Nat.reduceAdd, Nat.reduceMul, Nat.reduceSub, reduceCtorEq, putAt, unE, Nat.reduceBEq, convE, buildE, List.replicate, Int.reduceLT, Int.reduceLE, Int.reduceToNat, mkE, mapSetE, hN, hF, ty_3, ty_22, ty_24, ty_27, ty_36, notIf, isEq, g1, g2, g3, g4, g5, g6, g7, ruls_length, shOp, hb, e1]
    refine drawnP_intro (by kernel_rfl) (by kernel_rfl) ?_
    simp only [runA, runB, runC, runD, runE, runF, fieldE, storeE, binE, ↓reduceIte, Nat.reduceLT, Nat.reduceLeDiff, Nat.reduceEqDiff, Nat.reduceAdd, Nat.reduceMul, Nat.reduceSub, reduceCtorEq, putAt, unE, Nat.reduceBEq, convE, buildE, List.replicate, Int.reduceLT, Int.reduceLE, Int.reduceToNat, mkE, mapSetE, hN, hF, ty_3, ty_22, ty_24, ty_27, ty_36, notIf, isEq, g7]
    simp only [runB, finC, finD, Option.isSome_some, Option.isSome_none, ↓reduceIte, Nat.reduceEqDiff, Nat.reduceAdd, Nat.reduceMul, forall_eq_or_imp, forall_eq, implies_true, Nat.reduceBEq, reduceCtorEq, false_implies, List.zip_cons_cons, List.zip_nil_left, List.zip_nil_right, Nat.reduceLeDiff, List.forall_mem_nil, rs_6, hS]
  have g7 : decide (c ≥ ((2 ^ R : Nat) : Int)) = false := by simpa using a7
  have hgood : ¬ badS ⟨(R : Int), q, c, l⟩ := by
    rintro (h | h | h | h | h | h | h)
    · exact a1 h
    · exact a2 h
    · exact a3 h
    · exact a4 h
    · exact a5 h
    · exact a6 h
    · have h : (2 : Int) ^ ((R : Int)).toNat ≤ c := h
      rw [hRt] at h
      exact a7 (by simpa using h)
  have hS : checkS ⟨(R : Int), q, c, l⟩ = firstBad (R : Int) q l := by unfold checkS; rw [if_neg hgood]
  simp only [runA, runB, runC, runD, runE, runF, fieldE, storeE, binE, ↓reduceIte, Nat.reduceLT, Nat.reduceLeDiff, Nat.reduceEqDiff, Nat.reduceAdd, Nat.reduceMul, Nat.reduceSub, reduceCtorEq, putAt, unE, Nat.reduceBEq, convE, buildE, List.replicate, Int.reduceLT, Int.reduceLE, Int.reduceToNat, mkE, mapSetE, hN, hF, ty_3, ty_22, ty_24, ty_27, ty_36, notIf, isEq, g1, g2, g3, g4, g5, g6, g7, ruls_length, shOp, hb, e1]
  refine drawnP_intro (by kernel_rfl) (by kernel_rfl) ?_
  simp only [runA, runB, runC, runD, runE, runF, fieldE, storeE, binE, ↓reduceIte, Nat.reduceLT, Nat.reduceLeDiff, Nat.reduceEqDiff, Nat.reduceAdd, Nat.reduceMul, Nat.reduceSub, reduceCtorEq, putAt, unE, Nat.reduceBEq, convE, buildE, List.replicate, Int.reduceLT, Int.reduceLE, Int.reduceToNat, mkE, mapSetE, hN, hF, ty_3, ty_22, ty_24, ty_27, ty_36, notIf, isEq, g7, ruls_length]
  refine AWP.loop (fun k st => ∃ i : Nat, i ≤ l.length ∧ firstBad (R : Int) q l = firstBad (R : Int) q (l.drop i) ∧ k = l.length - i ∧ st = ⟨[(1, .ptr 64 0), (46, .c (.sl (ruls l))), (47, .c (.int .i64 (l.length : Int))), (48, .c (.int .i64 (i : Int)))], [(64, .obj [.c (.int .i64 (R : Int)), .c (.int .i64 q), .c (.int .i64 c), .c (.sl (ruls l))] false)]⟩) ⟨l.length, _, ?w, 0, Nat.zero_le _, rfl, rfl, rfl⟩ ?r
  case w =>
    rw [hns]
    simp only [runB, finC, finD, AS.get, AS.mem, false_implies, implies_true, ↓reduceIte, Nat.reduceEqDiff, Option.isSome_some, Option.isSome_none, forall_eq_or_imp, forall_eq, reduceCtorEq, Nat.reduceAdd, Nat.reduceMul, List.zip_cons_cons, List.zip_nil_left, List.zip_nil_right, List.forall_mem_nil]
    first | done | simp
  case r =>
    rintro k st ⟨i, hi, hfb, rfl, rfl⟩
    refine vc_sound hΓ mixed _ _ _ ?_
    by_cases hlt : i < l.length
    · have g8 : decide ((i : Int) < (l.length : Int)) = true := by simpa using hlt
      have e2 : IntKind.i64.wrap ((i : Int) + 1) = (i : Int) + 1 := wrapI (by omega)
      obtain ⟨x, y, hx⟩ : ∃ x y, l[i]? = some (x, y) := ⟨l[i].1, l[i].2, by simp [hlt]⟩
      have hxr : (ruls l)[i]? = some [.int .i64 x, .int .i64 y] := by simp [ruls, hx]
      have q1 := rc_at x y (R : Int) q
      rw [firstBad_drop hx] at hfb
      by_cases h0 : ruleS x y (R : Int) q = 0
      · rw [if_pos h0] at hfb
        rw [h0] at q1
        have g9 : ((0 : Int) != 0) = false := rfl
        simp only [runA, runB, runC, runD, runE, runF, fieldE, storeE, binE, ↓reduceIte, Nat.reduceLT, Nat.reduceLeDiff, Nat.reduceEqDiff, Nat.reduceAdd, Nat.reduceMul, Nat.reduceSub, reduceCtorEq, putAt, unE, Nat.reduceBEq, convE, buildE, List.replicate, Int.reduceLT, Int.reduceLE, Int.reduceToNat, mkE, mapSetE, hN, hF, ty_3, ty_22, ty_24, ty_27, ty_36, notIf, isEq, g8, e2, hxr, h1, q1, g9]
        refine ⟨l.length - (i + 1), _, by omega, ?_, i + 1, by omega, hfb, rfl, rfl⟩
        rw [hns]
        simp only [runB, finC, finD, AS.get, AS.mem, false_implies, implies_true, ↓reduceIte, Nat.reduceEqDiff, Option.isSome_some, Option.isSome_none, forall_eq_or_imp, forall_eq, reduceCtorEq, Nat.reduceAdd, Nat.reduceMul, List.zip_cons_cons, List.zip_nil_left, List.zip_nil_right, List.forall_mem_nil]
        first | done | simp
      · rw [if_neg h0] at hfb
        have g9 : (ruleS x y (R : Int) q != 0) = true := by simpa using h0
        generalize ruleS x y (R : Int) q = e at q1 g9 hfb
        simp only [runA, runB, runC, runD, runE, runF, fieldE, storeE, binE, ↓reduceIte, Nat.reduceLT, Nat.reduceLeDiff, Nat.reduceEqDiff, Nat.reduceAdd, Nat.reduceMul, Nat.reduceSub, reduceCtorEq, putAt, unE, Nat.reduceBEq, convE, buildE, List.replicate, Int.reduceLT, Int.reduceLE, Int.reduceToNat, mkE, mapSetE, hN, hF, ty_3, ty_22, ty_24, ty_27, ty_36, notIf, isEq, g8, e2, hxr, h1, q1, g9]
        simp only [runB, finC, finD, Option.isSome_some, Option.isSome_none, ↓reduceIte, Nat.reduceEqDiff, Nat.reduceAdd, Nat.reduceMul, forall_eq_or_imp, forall_eq, implies_true, Nat.reduceBEq, reduceCtorEq, false_implies, List.zip_cons_cons, List.zip_nil_left, List.zip_nil_right, Nat.reduceLeDiff, List.forall_mem_nil, rs_6, hS, hfb]
    · have g8 : decide ((i : Int) < (l.length : Int)) = false := by simpa using hlt
      have hd : l.drop i = [] := List.drop_of_length_le (by omega)
      rw [hd, firstBad] at hfb
      simp only [runA, runB, runC, runD, runE, runF, fieldE, storeE, binE, ↓reduceIte, Nat.reduceLT, Nat.reduceLeDiff, Nat.reduceEqDiff, Nat.reduceAdd, Nat.reduceMul, Nat.reduceSub, reduceCtorEq, putAt, unE, Nat.reduceBEq, convE, buildE, List.replicate, Int.reduceLT, Int.reduceLE, Int.reduceToNat, mkE, mapSetE, hN, hF, ty_3, ty_22, ty_24, ty_27, ty_36, notIf, isEq, g8]
      simp only [runB, finC, finD, Option.isSome_some, Option.isSome_none, ↓reduceIte, Nat.reduceEqDiff, Nat.reduceAdd, Nat.reduceMul, forall_eq_or_imp, forall_eq, implies_true, Nat.reduceBEq, reduceCtorEq, false_implies, List.zip_cons_cons, List.zip_nil_left, List.zip_nil_right, Nat.reduceLeDiff, List.forall_mem_nil, rs_6, hS, hfb]

set_option maxRecDepth 100000 in
set_option maxHeartbeats 4000000 in
theorem wr_sound (hΓ : SoundG Try.prog Γ) (h1 : Γ 15 = rcC) : SoundC Try.prog 8 ckLC := by
  refine sound_fn Try.func8 (by kernel_rfl) rfl rfl ?_
  intro args objs r0 hr
  obtain ⟨⟨r, q, c, l⟩, hl, rfl, rfl, rfl⟩ := mkC_inv hr
  have hl : l.length ≤ 9223372036854775807 := hl
  refine ⟨rfl, by show 1 ≤ _; decide, fun E hN hns hF => ?_⟩
  refine vc_sound hΓ mixed _ _ _ ?_
  have hN := hN.trans nt_8
  dsimp only
  by_cases a1 : r < 1
  · have g1 : decide (r < 1) = true := by simp; omega
    have hS : checkS ⟨r, q, c, l⟩ = 3 := by unfold checkS; rw [if_pos (.inl a1)]
    simp only [runA, runB, runC, runD, runE, runF, fieldE, storeE, binE, ↓reduceIte, Nat.reduceLT, Nat.reduceLeDiff, Nat.reduceEqDiff, Nat.reduceAdd, Nat.reduceMul, Nat.reduceSub, reduceCtorEq, putAt, unE, Nat.reduceBEq, convE, buildE, List.replicate, Int.reduceLT, Int.reduceLE, Int.reduceToNat, mkE, mapSetE, hN, hF, ty_3, ty_22, ty_24, ty_27, ty_36, notIf, isEq, g1, ruls_length]
    refine drawnP_intro (by kernel_rfl) (by kernel_rfl) ?_
    simp only [runA, runB, runC, runD, runE, runF, fieldE, storeE, binE, ↓reduceIte, Nat.reduceLT, Nat.reduceLeDiff, Nat.reduceEqDiff, Nat.reduceAdd, Nat.reduceMul, Nat.reduceSub, reduceCtorEq, putAt, unE, Nat.reduceBEq, convE, buildE, List.replicate, Int.reduceLT, Int.reduceLE, Int.reduceToNat, mkE, mapSetE, hN, hF, ty_3, ty_22, ty_24, ty_27, ty_36, notIf, isEq, g1]
    simp only [runB, finC, finD, Option.isSome_some, Option.isSome_none, ↓reduceIte, Nat.reduceEqDiff, Nat.reduceAdd, Nat.reduceMul, forall_eq_or_imp, forall_eq, implies_true, Nat.reduceBEq, reduceCtorEq, false_implies, List.zip_cons_cons, List.zip_nil_left, List.zip_nil_right, Nat.reduceLeDiff, List.forall_mem_nil, rs_8, hS]
  have g1 : decide (r < 1) = false := by simp; omega
  by_cases a2 : 5 < r
  · have g2 : decide (r > 5) = true := by simp; omega
    have hS : checkS ⟨r, q, c, l⟩ = 3 := by unfold checkS; rw [if_pos (.inr (.inl a2))]
    simp only [runA, runB, runC, runD, runE, runF, fieldE, storeE, binE, ↓reduceIte, Nat.reduceLT, Nat.reduceLeDiff, Nat.reduceEqDiff, Nat.reduceAdd, Nat.reduceMul, Nat.reduceSub, reduceCtorEq, putAt, unE, Nat.reduceBEq, convE, buildE, List.replicate, Int.reduceLT, Int.reduceLE, Int.reduceToNat, mkE, mapSetE, hN, hF, ty_3, ty_22, ty_24, ty_27, ty_36, notIf, isEq, g1, g2, ruls_length]
    refine drawnP_intro (by kernel_rfl) (by kernel_rfl) ?_
    simp only [runA, runB, runC, runD, runE, runF, fieldE, storeE, binE, ↓reduceIte, Nat.reduceLT, Nat.reduceLeDiff, Nat.reduceEqDiff, Nat.reduceAdd, Nat.reduceMul, Nat.reduceSub, reduceCtorEq, putAt, unE, Nat.reduceBEq, convE, buildE, List.replicate, Int.reduceLT, Int.reduceLE, Int.reduceToNat, mkE, mapSetE, hN, hF, ty_3, ty_22, ty_24, ty_27, ty_36, notIf, isEq, g1, g2]
    simp only [runB, finC, finD, Option.isSome_some, Option.isSome_none, ↓reduceIte, Nat.reduceEqDiff, Nat.reduceAdd, Nat.reduceMul, forall_eq_or_imp, forall_eq, implies_true, Nat.reduceBEq, reduceCtorEq, false_implies, List.zip_cons_cons, List.zip_nil_left, List.zip_nil_right, Nat.reduceLeDiff, List.forall_mem_nil, rs_8, hS]
  have g2 : decide (r > 5) = false := by simp; omega
  by_cases a3 : q < 1
  · have g3 : decide (q < 1) = true := by simp; omega
    have hS : checkS ⟨r, q, c, l⟩ = 3 := by unfold checkS; rw [if_pos (.inr (.inr (.inl a3)))]
    simp only [runA, runB, runC, runD, runE, runF, fieldE, storeE, binE, ↓reduceIte, Nat.reduceLT, Nat.reduceLeDiff, Nat.reduceEqDiff, Nat.reduceAdd, Nat.reduceMul, Nat.reduceSub, reduceCtorEq, putAt, unE, Nat.reduceBEq, convE, buildE, List.replicate, Int.reduceLT, Int.reduceLE, Int.reduceToNat, mkE, mapSetE, hN, hF, ty_3, ty_22, ty_24, ty_27, ty_36, notIf, isEq, g1, g2, g3, ruls_length]
    refine drawnP_intro (by kernel_rfl) (by kernel_rfl) ?_
    simp only [runA, runB, runC, runD, runE, runF, fieldE, storeE, binE, ↓reduceIte, Nat.reduceLT, Nat.reduceLeDiff, Nat.reduceEqDiff, Nat.reduceAdd, Nat.reduceMul, Nat.reduceSub, reduceCtorEq, putAt, unE, Nat.reduceBEq, convE, buildE, List.replicate, Int.reduceLT, Int.reduceLE, Int.reduceToNat, mkE, mapSetE, hN, hF, ty_3, ty_22, ty_24, ty_27, ty_36, notIf, isEq, g1, g2, g3]
    simp only [runB, finC, finD, Option.isSome_some, Option.isSome_none, ↓reduceIte, Nat.reduceEqDiff, Nat.reduceAdd, Nat.reduceMul, forall_eq_or_imp, forall_eq, implies_true, Nat.reduceBEq, reduceCtorEq, false_implies, List.zip_cons_cons, List.zip_nil_left, List.zip_nil_right, Nat.reduceLeDiff, List.forall_mem_nil, rs_8, hS]
  have g3 : decide (q < 1) = false := by simp; omega
  by_cases a4 : r < q
  · have g4 : decide (q > r) = true := by simp; omega
    have hS : checkS ⟨r, q, c, l⟩ = 3 := by unfold checkS; rw [if_pos (.inr (.inr (.inr (.inl a4))))]
    simp only [runA, runB, runC, runD, runE, runF, fieldE, storeE, binE, ↓reduceIte, Nat.reduceLT, Nat.reduceLeDiff, Nat.reduceEqDiff, Nat.reduceAdd, Nat.reduceMul, Nat.reduceSub, reduceCtorEq, putAt, unE, Nat.reduceBEq, convE, buildE, List.replicate, Int.reduceLT, Int.reduceLE, Int.reduceToNat, mkE, mapSetE, hN, hF, ty_3, ty_22, ty_24, ty_27, ty_36, notIf, isEq, g1, g2, g3, g4, ruls_length]
    refine drawnP_intro (by kernel_rfl) (by kernel_rfl) ?_
    simp only [runA, runB, runC, runD, runE, runF, fieldE, storeE, binE, ↓reduceIte, Nat.reduceLT, Nat.reduceLeDiff, Nat.reduceEqDiff, Nat.reduceAdd, Nat.reduceMul, Nat.reduceSub, reduceCtorEq, putAt, unE, Nat.reduceBEq, convE, buildE, List.replicate, Int.reduceLT, Int.reduceLE, Int.reduceToNat, mkE, mapSetE, hN, hF, ty_3, ty_22, ty_24, ty_27, ty_36, notIf, isEq, g1, g2, g3, g4]
    simp only [runB, finC, finD, Option.isSome_some, Option.isSome_none, ↓reduceIte, Nat.reduceEqDiff, Nat.reduceAdd, Nat.reduceMul, forall_eq_or_imp, forall_eq, implies_true, Nat.reduceBEq, reduceCtorEq, false_implies, List.zip_cons_cons, List.zip_nil_left, List.zip_nil_right, Nat.reduceLeDiff, List.forall_mem_nil, rs_8, hS]
  have g4 : decide (q > r) = false := by simp; omega
  by_cases a5 : 3 < l.length
  · have g5 : decide ((l.length : Int) > 3) = true := by simp; omega
    have hS : checkS ⟨r, q, c, l⟩ = 3 := by unfold checkS; rw [if_pos (.inr (.inr (.inr (.inr (.inl a5)))))]
    simp only [runA, runB, runC, runD, runE, runF, fieldE, storeE, binE, ↓reduceIte, Nat.reduceLT, Nat.reduceLeDiff, Nat.reduceEqDiff, Nat.reduceAdd, Nat.reduceMul, Nat.reduceSub, reduceCtorEq, putAt, unE, Nat.reduceBEq, convE, buildE, List.replicate, Int.reduceLT, Int.reduceLE, Int.reduceToNat, mkE, mapSetE, hN, hF, ty_3, ty_22, ty_24, ty_27, ty_36, notIf, isEq, g1, g2, g3, g4, g5, ruls_length]
    refine drawnP_intro (by kernel_rfl) (by kernel_rfl) ?_
    simp only [runA, runB, runC, runD, runE, runF, fieldE, storeE, binE, ↓reduceIte, Nat.reduceLT, Nat.reduceLeDiff, Nat.reduceEqDiff, Nat.reduceAdd, Nat.reduceMul, Nat.reduceSub, reduceCtorEq, putAt, unE, Nat.reduceBEq, convE, buildE, List.replicate, Int.reduceLT, Int.reduceLE, Int.reduceToNat, mkE, mapSetE, hN, hF, ty_3, ty_22, ty_24, ty_27, ty_36, notIf, isEq, g1, g2, g3, g4, g5]
    simp only [runB, finC, finD, Option.isSome_some, Option.isSome_none, ↓reduceIte, Nat.reduceEqDiff, Nat.reduceAdd, Nat.reduceMul, forall_eq_or_imp, forall_eq, implies_true, Nat.reduceBEq, reduceCtorEq, false_implies, List.zip_cons_cons, List.zip_nil_left, List.zip_nil_right, Nat.reduceLeDiff, List.forall_mem_nil, rs_8, hS]
  have g5 : decide ((l.length : Int) > 3) = false := by simp; omega
  by_cases a6 : c < 0
  · have g6 : decide (c < 0) = true := by simp; omega
    have hS : checkS ⟨r, q, c, l⟩ = 3 := by unfold checkS; rw [if_pos (.inr (.inr (.inr (.inr (.inr (.inl a6))))))]
    simp only [runA, runB, runC, runD, runE, runF, fieldE, storeE, binE, ↓reduceIte, Nat.reduceLT, Nat.reduceLeDiff, Nat.reduceEqDiff, Nat.reduceAdd, Nat.reduceMul, Nat.reduceSub, reduceCtorEq, putAt, unE, Nat.reduceBEq, convE, buildE, List.replicate, Int.reduceLT, Int.reduceLE, Int.reduceToNat, mkE, mapSetE, hN, hF, ty_3, ty_22, ty_24, ty_27, ty_36, notIf, isEq, g1, g2, g3, g4, g5, g6, ruls_length]
    refine drawnP_intro (by kernel_rfl) (by kernel_rfl) ?_
    simp only [runA, runB, runC, runD, runE, runF, fieldE, storeE, binE, ↓reduceIte, Nat.reduceLT, Nat.reduceLeDiff, Nat.reduceEqDiff, Nat.reduceAdd, Nat.reduceMul, Nat.reduceSub, reduceCtorEq, putAt, unE, Nat.reduceBEq, convE, buildE, List.replicate, Int.reduceLT, Int.reduceLE, Int.reduceToNat, mkE, mapSetE, hN, hF, ty_3, ty_22, ty_24, ty_27, ty_36, notIf, isEq, g1, g2, g3, g4, g5, g6]
    simp only [runB, finC, finD, Option.isSome_some, Option.isSome_none, ↓reduceIte, Nat.reduceEqDiff, Nat.reduceAdd, Nat.reduceMul, forall_eq_or_imp, forall_eq, implies_true, Nat.reduceBEq, reduceCtorEq, false_implies, List.zip_cons_cons, List.zip_nil_left, List.zip_nil_right, Nat.reduceLeDiff, List.forall_mem_nil, rs_8, hS]
  have g6 : decide (c < 0) = false := by simp; omega
  obtain ⟨R, rfl⟩ : ∃ R : Nat, r = (R : Int) := ⟨r.toNat, by omega⟩
  have hR5 : R ≤ 5 := by omega
  have e1 := shl_r R hR5
  have hb : ((R : Int) < 0) = False := by simp
  have hRt : ((R : Int)).toNat = R := by omega
  by_cases a7 : ((2 ^ R : Nat) : Int) ≤ c
  · have g7 : decide (c ≥ ((2 ^ R : Nat) : Int)) = true := by simpa using a7
    have hS : checkS ⟨(R : Int), q, c, l⟩ = 3 := by
      unfold checkS; rw [if_pos]
      refine .inr (.inr (.inr (.inr (.inr (.inr ?_)))))
      show (2 : Int) ^ ((R : Int)).toNat ≤ c
      rw [hRt]; simpa using a7
    simp only [runA, runB, runC, runD, runE, runF, fieldE, storeE, binE, ↓reduceIte, Nat.reduceLT, Nat.reduceLeDiff, Nat.reduceEqDiff, Nat.reduceAdd, Nat.reduceMul, Nat.reduceSub, reduceCtorEq, putAt, unE, Nat.reduceBEq, convE, buildE, List.replicate, Int.reduceLT, Int.reduceLE, Int.reduceToNat, mkE, mapSetE, hN, hF, ty_3, ty_22, ty_24, ty_27, ty_36, notIf, isEq, g1, g2, g3, g4, g5, g6, g7, ruls_length, shOp, hb, e1]
    refine drawnP_intro (by kernel_rfl) (by kernel_rfl) ?_
    simp only [runA, runB, runC, runD, runE, runF, fieldE, storeE, binE, ↓reduceIte, Nat.reduceLT, Nat.reduceLeDiff, Nat.reduceEqDiff, Nat.reduceAdd, Nat.reduceMul, Nat.reduceSub, reduceCtorEq, putAt, unE, Nat.reduceBEq, convE, buildE, List.replicate, Int.reduceLT, Int.reduceLE, Int.reduceToNat, mkE, mapSetE, hN, hF, ty_3, ty_22, ty_24, ty_27, ty_36, notIf, isEq, g7]
    simp only [runB, finC, finD, Option.isSome_some, Option.isSome_none, ↓reduceIte, Nat.reduceEqDiff, Nat.reduceAdd, Nat.reduceMul, forall_eq_or_imp, forall_eq, implies_true, Nat.reduceBEq, reduceCtorEq, false_implies, List.zip_cons_cons, List.zip_nil_left, List.zip_nil_right, Nat.reduceLeDiff, List.forall_mem_nil, rs_8, hS]
  have g7 : decide (c ≥ ((2 ^ R : Nat) : Int)) = false := by simpa using a7
  have hgood : ¬ badS ⟨(R : Int), q, c, l⟩ := by
    rintro (h | h | h | h | h | h | h)
    · exact a1 h
    · exact a2 h
    · exact a3 h
    · exact a4 h
    · exact a5 h
    · exact a6 h
    · have h : (2 : Int) ^ ((R : Int)).toNat ≤ c := h
      rw [hRt] at h
      exact a7 (by simpa using h)
  have hS : checkS ⟨(R : Int), q, c, l⟩ = firstBad (R : Int) q l := by unfold checkS; rw [if_neg hgood]
  simp only [runA, runB, runC, runD, runE, runF, fieldE, storeE, binE, ↓reduceIte, Nat.reduceLT, Nat.reduceLeDiff, Nat.reduceEqDiff, Nat.reduceAdd, Nat.reduceMul, Nat.reduceSub, reduceCtorEq, putAt, unE, Nat.reduceBEq, convE, buildE, List.replicate, Int.reduceLT, Int.reduceLE, Int.reduceToNat, mkE, mapSetE, hN, hF, ty_3, ty_22, ty_24, ty_27, ty_36, notIf, isEq, g1, g2, g3, g4, g5, g6, g7, ruls_length, shOp, hb, e1]
  refine drawnP_intro (by kernel_rfl) (by kernel_rfl) ?_
  simp only [runA, runB, runC, runD, runE, runF, fieldE, storeE, binE, ↓reduceIte, Nat.reduceLT, Nat.reduceLeDiff, Nat.reduceEqDiff, Nat.reduceAdd, Nat.reduceMul, Nat.reduceSub, reduceCtorEq, putAt, unE, Nat.reduceBEq, convE, buildE, List.replicate, Int.reduceLT, Int.reduceLE, Int.reduceToNat, mkE, mapSetE, hN, hF, ty_3, ty_22, ty_24, ty_27, ty_36, notIf, isEq, g7, ruls_length]
  refine AWP.loop (fun k st => ∃ i : Nat, i ≤ l.length ∧ firstBad (R : Int) q l = firstBad (R : Int) q (l.drop i) ∧ k = l.length - i ∧ st = ⟨[(1, .ptr 64 0), (46, .c (.sl (ruls l))), (47, .c (.int .i64 (l.length : Int))), (48, .c (.int .i64 (i : Int)))], [(64, .obj [.c (.int .i64 (R : Int)), .c (.int .i64 q), .c (.int .i64 c), .c (.sl (ruls l))] false)]⟩) ⟨l.length, _, ?w, 0, Nat.zero_le _, rfl, rfl, rfl⟩ ?r
  case w =>
    rw [hns]
    simp only [runB, finC, finD, AS.get, AS.mem, false_implies, implies_true, ↓reduceIte, Nat.reduceEqDiff, Option.isSome_some, Option.isSome_none, forall_eq_or_imp, forall_eq, reduceCtorEq, Nat.reduceAdd, Nat.reduceMul, List.zip_cons_cons, List.zip_nil_left, List.zip_nil_right, List.forall_mem_nil]
    first | done | simp
  case r =>
    rintro k st ⟨i, hi, hfb, rfl, rfl⟩
    refine vc_sound hΓ mixed _ _ _ ?_
    by_cases hlt : i < l.length
    · have g8 : decide ((i : Int) < (l.length : Int)) = true := by simpa using hlt
      have e2 : IntKind.i64.wrap ((i : Int) + 1) = (i : Int) + 1 := wrapI (by omega)
      obtain ⟨x, y, hx⟩ : ∃ x y, l[i]? = some (x, y) := ⟨l[i].1, l[i].2, by simp [hlt]⟩
      have hxr : (ruls l)[i]? = some [.int .i64 x, .int .i64 y] := by simp [ruls, hx]
      have q1 := rc_at x y (R : Int) q
      rw [firstBad_drop hx] at hfb
      by_cases h0 : ruleS x y (R : Int) q = 0
      · rw [if_pos h0] at hfb
        rw [h0] at q1
        have g9 : ((0 : Int) != 0) = false := rfl
        simp only [runA, runB, runC, runD, runE, runF, fieldE, storeE, binE, ↓reduceIte, Nat.reduceLT, Nat.reduceLeDiff, Nat.reduceEqDiff, Nat.reduceAdd, Nat.reduceMul, Nat.reduceSub, reduceCtorEq, putAt, unE, Nat.reduceBEq, convE, buildE, List.replicate, Int.reduceLT, Int.reduceLE, Int.reduceToNat, mkE, mapSetE, hN, hF, ty_3, ty_22, ty_24, ty_27, ty_36, notIf, isEq, g8, e2, hxr, h1, q1, g9]
        refine ⟨l.length - (i + 1), _, by omega, ?_, i + 1, by omega, hfb, rfl, rfl⟩
        rw [hns]
        simp only [runB, finC, finD, AS.get, AS.mem, false_implies, implies_true, ↓reduceIte, Nat.reduceEqDiff, Option.isSome_some, Option.isSome_none, forall_eq_or_imp, forall_eq, reduceCtorEq, Nat.reduceAdd, Nat.reduceMul, List.zip_cons_cons, List.zip_nil_left, List.zip_nil_right, List.forall_mem_nil]
        first | done | simp
      · rw [if_neg h0] at hfb
        have g9 : (ruleS x y (R : Int) q != 0) = true := by simpa using h0
        generalize ruleS x y (R : Int) q = e at q1 g9 hfb
        simp only [runA, runB, runC, runD, runE, runF, fieldE, storeE, binE, ↓reduceIte, Nat.reduceLT, Nat.reduceLeDiff, Nat.reduceEqDiff, Nat.reduceAdd, Nat.reduceMul, Nat.reduceSub, reduceCtorEq, putAt, unE, Nat.reduceBEq, convE, buildE, List.replicate, Int.reduceLT, Int.reduceLE, Int.reduceToNat, mkE, mapSetE, hN, hF, ty_3, ty_22, ty_24, ty_27, ty_36, notIf, isEq, g8, e2, hxr, h1, q1, g9]
        simp only [runB, finC, finD, Option.isSome_some, Option.isSome_none, ↓reduceIte, Nat.reduceEqDiff, Nat.reduceAdd, Nat.reduceMul, forall_eq_or_imp, forall_eq, implies_true, Nat.reduceBEq, reduceCtorEq, false_implies, List.zip_cons_cons, List.zip_nil_left, List.zip_nil_right, Nat.reduceLeDiff, List.forall_mem_nil, rs_8, hS, hfb]
    · have g8 : decide ((i : Int) < (l.length : Int)) = false := by simpa using hlt
      have hd : l.drop i = [] := List.drop_of_length_le (by omega)
      rw [hd, firstBad] at hfb
      simp only [runA, runB, runC, runD, runE, runF, fieldE, storeE, binE, ↓reduceIte, Nat.reduceLT, Nat.reduceLeDiff, Nat.reduceEqDiff, Nat.reduceAdd, Nat.reduceMul, Nat.reduceSub, reduceCtorEq, putAt, unE, Nat.reduceBEq, convE, buildE, List.replicate, Int.reduceLT, Int.reduceLE, Int.reduceToNat, mkE, mapSetE, hN, hF, ty_3, ty_22, ty_24, ty_27, ty_36, notIf, isEq, g8]
      simp only [runB, finC, finD, Option.isSome_some, Option.isSome_none, ↓reduceIte, Nat.reduceEqDiff, Nat.reduceAdd, Nat.reduceMul, forall_eq_or_imp, forall_eq, implies_true, Nat.reduceBEq, reduceCtorEq, false_implies, List.zip_cons_cons, List.zip_nil_left, List.zip_nil_right, Nat.reduceLeDiff, List.forall_mem_nil, rs_8, hS, hfb]

theorem rowsOK_ruls (l : List Rul) : rowsOK 2 (ruls l) := by
  intro r hr
  simp only [ruls, List.mem_map] at hr
  obtain ⟨b, _, rfl⟩ := hr
  rfl
noncomputable def clnRC : Contract := mkC (α := List Rul) (fun l => l.length ≤ 1099511627776) (fun l => [.c (.sl (ruls l))]) (fun _ => []) (fun l => ⟨[.pv (.c (.sl (ruls l)))], []⟩)
theorem clnR_at (l : List Rul) (h : l.length ≤ 1099511627776) : clnRC [.c (.sl (ruls l))] [] = some ⟨[.pv (.c (.sl (ruls l)))], []⟩ :=
  mkC_at (α := List Rul) l h (by
    rintro y _ h _
    simp only [List.cons.injEq, AV.c.injEq, PC.sl.injEq, and_true] at h
    rw [ruls_inj h])
set_option maxRecDepth 100000 in
set_option maxHeartbeats 4000000 in
theorem clnR_sound : SoundC Try.prog 9 clnRC := by
  refine sound_fn Try.func9 (by kernel_rfl) rfl rfl ?_
  intro args objs r0 hr
  obtain ⟨l, hl, rfl, rfl, rfl⟩ := mkC_inv hr
  refine ⟨rfl, by show 1 ≤ _; decide, fun E hN hns hF => ?_⟩
  refine vc_sound none0_sound mixed _ _ _ ?_
  have hN := hN.trans nt_9
  have hl : l.length ≤ 1099511627776 := hl
  have hz := rowsOK_ruls l
  have hz0 : rowsOK 2 [] := fun _ h => by cases h
  have hn : ruls [] = [] := rfl
  cases l with
  | nil =>
    simp only [hn, runA, runB, runC, runD, runE, runF, fieldE, storeE, binE, ↓reduceIte, Nat.reduceLT, Nat.reduceLeDiff, Nat.reduceEqDiff, Nat.reduceAdd, Nat.reduceMul, Nat.reduceSub, reduceCtorEq, putAt, unE, Nat.reduceBEq, convE, buildE, List.replicate, Int.reduceLT, Int.reduceLE, Int.reduceToNat, mkE, mapSetE, hN, hF, ty_22, ty_36, notIf, isEq, hz0]
    constructor
    all_goals simp only [runB, finC, finD, Option.isSome_some, Option.isSome_none, ↓reduceIte, Nat.reduceEqDiff, Nat.reduceAdd, Nat.reduceMul, forall_eq_or_imp, forall_eq, implies_true, Nat.reduceBEq, reduceCtorEq, false_implies, List.zip_cons_cons, List.zip_nil_left, List.zip_nil_right, Nat.reduceLeDiff, List.forall_mem_nil, rs_9]
  | cons x l =>
    have hx : ruls (x :: l) = [.int .i64 x.1, .int .i64 x.2] :: ruls l := rfl
    have hxl : (ruls l).length = l.length := ruls_length l
    rw [List.length_cons] at hl
    have hL : (0 + (l.length + 1)) * 16 ≤ 140737488355328 := by omega
    have hL2 : (l.length + 1) * 16 ≤ 140737488355328 := by omega
    rw [hx] at hz ⊢
    simp only [runA, runB, runC, runD, runE, runF, fieldE, storeE, binE, ↓reduceIte, Nat.reduceLT, Nat.reduceLeDiff, Nat.reduceEqDiff, Nat.reduceAdd, Nat.reduceMul, Nat.reduceSub, reduceCtorEq, putAt, unE, Nat.reduceBEq, convE, buildE, List.replicate, Int.reduceLT, Int.reduceLE, Int.reduceToNat, mkE, mapSetE, hN, hF, ty_22, ty_36, notIf, isEq, hz, hL, hL2, hxl]
    simp only [runB, finC, finD, Option.isSome_some, Option.isSome_none, ↓reduceIte, Nat.reduceEqDiff, Nat.reduceAdd, Nat.reduceMul, forall_eq_or_imp, forall_eq, implies_true, Nat.reduceBEq, reduceCtorEq, false_implies, List.zip_cons_cons, List.zip_nil_left, List.zip_nil_right, Nat.reduceLeDiff, List.forall_mem_nil, rs_9, hxl]
noncomputable def clnSC : Contract := mkC (α := List (List UInt8)) (fun l => l.length ≤ 1099511627776) (fun l => [.c (.sl (texts l))]) (fun _ => []) (fun l => ⟨[.pv (.c (.sl (texts l)))], []⟩)
theorem clnS_at (l : List (List UInt8)) (h : l.length ≤ 1099511627776) : clnSC [.c (.sl (texts l))] [] = some ⟨[.pv (.c (.sl (texts l)))], []⟩ :=
  mkC_at (α := List (List UInt8)) l h (by
    rintro y _ h _
    simp only [List.cons.injEq, AV.c.injEq, PC.sl.injEq, and_true] at h
    rw [texts_inj h])
set_option maxRecDepth 100000 in
set_option maxHeartbeats 4000000 in
theorem clnS_sound : SoundC Try.prog 37 clnSC := by
  refine sound_fn Try.func37 (by kernel_rfl) rfl rfl ?_
  intro args objs r0 hr
  obtain ⟨l, hl, rfl, rfl, rfl⟩ := mkC_inv hr
  refine ⟨rfl, by show 1 ≤ _; decide, fun E hN hns hF => ?_⟩
  refine vc_sound none0_sound mixed _ _ _ ?_
  have hN := hN.trans nt_37
  have hl : l.length ≤ 1099511627776 := hl
  have hz := rowsOK_texts l
  have hz0 : rowsOK 1 [] := fun _ h => by cases h
  have hn : texts [] = [] := rfl
  cases l with
  | nil =>
    simp only [hn, runA, runB, runC, runD, runE, runF, fieldE, storeE, binE, ↓reduceIte, Nat.reduceLT, Nat.reduceLeDiff, Nat.reduceEqDiff, Nat.reduceAdd, Nat.reduceMul, Nat.reduceSub, reduceCtorEq, putAt, unE, Nat.reduceBEq, convE, buildE, List.replicate, Int.reduceLT, Int.reduceLE, Int.reduceToNat, mkE, mapSetE, hN, hF, ty_9, ty_43, notIf, isEq, hz0]
    constructor
    all_goals simp only [runB, finC, finD, Option.isSome_some, Option.isSome_none, ↓reduceIte, Nat.reduceEqDiff, Nat.reduceAdd, Nat.reduceMul, forall_eq_or_imp, forall_eq, implies_true, Nat.reduceBEq, reduceCtorEq, false_implies, List.zip_cons_cons, List.zip_nil_left, List.zip_nil_right, Nat.reduceLeDiff, List.forall_mem_nil, rs_37]
  | cons x l =>
    have hx : texts (x :: l) = [.str x] :: texts l := rfl
    have hxl : (texts l).length = l.length := texts_length l
    rw [List.length_cons] at hl
    have hL : (0 + (l.length + 1)) * 16 ≤ 140737488355328 := by omega
    have hL2 : (l.length + 1) * 16 ≤ 140737488355328 := by omega
    rw [hx] at hz ⊢
    simp only [runA, runB, runC, runD, runE, runF, fieldE, storeE, binE, ↓reduceIte, Nat.reduceLT, Nat.reduceLeDiff, Nat.reduceEqDiff, Nat.reduceAdd, Nat.reduceMul, Nat.reduceSub, reduceCtorEq, putAt, unE, Nat.reduceBEq, convE, buildE, List.replicate, Int.reduceLT, Int.reduceLE, Int.reduceToNat, mkE, mapSetE, hN, hF, ty_9, ty_43, notIf, isEq, hz, hL, hL2, hxl]
    simp only [runB, finC, finD, Option.isSome_some, Option.isSome_none, ↓reduceIte, Nat.reduceEqDiff, Nat.reduceAdd, Nat.reduceMul, forall_eq_or_imp, forall_eq, implies_true, Nat.reduceBEq, reduceCtorEq, false_implies, List.zip_cons_cons, List.zip_nil_left, List.zip_nil_right, Nat.reduceLeDiff, List.forall_mem_nil, rs_37, hxl]
noncomputable def dskC : Contract := mkC (α := Unit) (fun _ => True) (fun _ => [.c (.int .i64 65536)]) (fun _ => []) (fun _ => ⟨[.pv (.c .junk)], []⟩)
theorem dsk_at : dskC [.c (.int .i64 65536)] [] = some ⟨[.pv (.c .junk)], []⟩ := mkC_at (α := Unit) () trivial (fun _ _ _ _ => rfl)
set_option maxRecDepth 100000 in
set_option maxHeartbeats 4000000 in
theorem dsk_sound : SoundC Try.prog 40 dskC := by
  refine sound_fn Try.func40 (by kernel_rfl) rfl rfl ?_
  intro args objs r0 hr
  obtain ⟨_, hp, rfl, rfl, rfl⟩ := mkC_inv hr
  refine ⟨rfl, by show 1 ≤ _; decide, fun E hN hns hF => ?_⟩
  refine vc_sound none0_sound mixed _ _ _ ?_
  have hN := hN.trans nt_40
  simp only [runA, runB, runC, runD, runE, runF, fieldE, storeE, binE, ↓reduceIte, Nat.reduceLT, Nat.reduceLeDiff, Nat.reduceEqDiff, Nat.reduceAdd, Nat.reduceMul, Nat.reduceSub, reduceCtorEq, putAt, unE, Nat.reduceBEq, convE, buildE, List.replicate, Int.reduceLT, Int.reduceLE, Int.reduceToNat, mkE, mapSetE, hN, hF, ty_3, ty_4, ty_73, ty_118, ty_141, notIf, isEq]
  simp only [runB, finC, finD, Option.isSome_some, Option.isSome_none, ↓reduceIte, Nat.reduceEqDiff, Nat.reduceAdd, Nat.reduceMul, forall_eq_or_imp, forall_eq, implies_true, Nat.reduceBEq, reduceCtorEq, false_implies, List.zip_cons_cons, List.zip_nil_left, List.zip_nil_right, Nat.reduceLeDiff, List.forall_mem_nil, rs_40]
noncomputable def trJC : Contract := mkC (α := Unit) (fun _ => True) (fun _ => []) (fun _ => []) (fun _ => ⟨[.pv (.c .junk)], []⟩)
theorem trJ_at : trJC [] [] = some ⟨[.pv (.c .junk)], []⟩ := mkC_at (α := Unit) () trivial (fun _ _ _ _ => rfl)
set_option maxRecDepth 100000 in
set_option maxHeartbeats 4000000 in
theorem trJ_sound : SoundC Try.prog 54 trJC := by
  refine sound_fn Try.func54 (by kernel_rfl) rfl rfl ?_
  intro args objs r0 hr
  obtain ⟨_, hp, rfl, rfl, rfl⟩ := mkC_inv hr
  refine ⟨rfl, by show 0 ≤ _; decide, fun E hN hns hF => ?_⟩
  refine vc_sound none0_sound mixed _ _ _ ?_
  have hN := hN.trans nt_54
  simp only [runA, runB, runC, runD, runE, runF, fieldE, storeE, binE, ↓reduceIte, Nat.reduceLT, Nat.reduceLeDiff, Nat.reduceEqDiff, Nat.reduceAdd, Nat.reduceMul, Nat.reduceSub, reduceCtorEq, putAt, unE, Nat.reduceBEq, convE, buildE, List.replicate, Int.reduceLT, Int.reduceLE, Int.reduceToNat, mkE, mapSetE, hN, hF, ty_9, ty_107, ty_151, ty_153, ty_197, notIf, isEq, Option.isSome_some, op_makeMap, Option.bind_some]
  simp only [runB, finC, finD, Option.isSome_some, Option.isSome_none, ↓reduceIte, Nat.reduceEqDiff, Nat.reduceAdd, Nat.reduceMul, forall_eq_or_imp, forall_eq, implies_true, Nat.reduceBEq, reduceCtorEq, false_implies, List.zip_cons_cons, List.zip_nil_left, List.zip_nil_right, Nat.reduceLeDiff, List.forall_mem_nil, rs_54]


variable {Γ : FuncId → Contract}

structure Cf where
  roots : List (List UInt8)
  cl : List (List UInt8)
  q : Int
def Cf.av (c : Cf) : AV := .agg [.c (.sl (texts c.roots)), .c (.sl (texts c.cl)), .c (.int .i64 c.q), .c (.int .i64 4), .c (.int .i64 32)]
theorem Cf.av_inj {a b : Cf} (h : a.av = b.av) : a = b := by
  obtain ⟨a1, a2, a3⟩ := a
  obtain ⟨b1, b2, b3⟩ := b
  simp only [Cf.av, AV.agg.injEq, List.cons.injEq, AV.c.injEq, PC.sl.injEq, PC.int.injEq, true_and, and_true] at h
  obtain ⟨h1, h2, h3⟩ := h
  rw [texts_inj h1, texts_inj h2, h3]
def Cf.ok (c : Cf) : Prop := 1 ≤ c.roots.length ∧ c.roots.length ≤ 5 ∧ c.cl.length ≤ 4 ∧ 1 ≤ c.q ∧ c.q ≤ (c.roots.length : Int)
noncomputable def wthC : Contract := mkC (α := Int) (fun x => x = 4 ∨ x = 32) (fun x => [.c (.int .i64 x)]) (fun x => []) (fun x => ⟨[.pv (.c (.int .i64 x))], []⟩)
theorem wth_at (x : Int) (h : x = 4 ∨ x = 32) : wthC [.c (.int .i64 x)] [] = some ⟨[.pv (.c (.int .i64 x))], []⟩ :=
  mkC_at (α := Int) x h (fun y _ h _ => by simp at h; rw [h])
set_option maxRecDepth 100000 in
set_option maxHeartbeats 4000000 in
theorem wth_sound : SoundC Try.prog 64 wthC := by
  refine sound_fn Try.func64 (by kernel_rfl) rfl rfl ?_
  intro args objs r0 hr
  obtain ⟨n, hp, rfl, rfl, rfl⟩ := mkC_inv hr
  refine ⟨rfl, by show 1 ≤ _; decide, fun E hN hns hF => ?_⟩
  refine vc_sound none0_sound mixed _ _ _ ?_
  have hN := hN.trans nt_64
  rcases hp with hp | hp
  all_goals
    have hp : n = _ := hp
    subst hp
    have m1 : ((1 : Int) > 4) = False := by simp
    have m2 : ((1048576 : Int) < 4) = False := by simp
    have m3 : ((1 : Int) > 32) = False := by simp
    have m4 : ((1048576 : Int) < 32) = False := by simp
    simp only [runA, runB, runC, runD, runE, runF, fieldE, storeE, binE, ↓reduceIte, Nat.reduceLT, Nat.reduceLeDiff, Nat.reduceEqDiff, Nat.reduceAdd, Nat.reduceMul, Nat.reduceSub, reduceCtorEq, putAt, unE, Nat.reduceBEq, convE, buildE, List.replicate, Int.reduceLT, Int.reduceLE, Int.reduceToNat, mkE, mapSetE, hN, hF, ty_3, notIf, isEq, mm, m1, m2, m3, m4, if_false]
    simp only [runB, finC, finD, Option.isSome_some, Option.isSome_none, ↓reduceIte, Nat.reduceEqDiff, Nat.reduceAdd, Nat.reduceMul, forall_eq_or_imp, forall_eq, implies_true, Nat.reduceBEq, reduceCtorEq, false_implies, List.zip_cons_cons, List.zip_nil_left, List.zip_nil_right, Nat.reduceLeDiff, List.forall_mem_nil, rs_64]
noncomputable def waitC : Contract := mkC (α := Unit) (fun _ => True) (fun _ => [.c (.int .i64 4), .c (.int .i64 0), .c (.int .i64 32)]) (fun _ => []) (fun _ => ⟨[.pv (.c (.int .i64 4))], []⟩)
theorem wait_at : waitC [.c (.int .i64 4), .c (.int .i64 0), .c (.int .i64 32)] [] = some ⟨[.pv (.c (.int .i64 4))], []⟩ := mkC_at (α := Unit) () trivial (fun _ _ _ _ => rfl)
set_option maxRecDepth 100000 in
set_option maxHeartbeats 4000000 in
theorem wait_sound (hΓ : SoundG Try.prog Γ) (h1 : Γ 64 = wthC) : SoundC Try.prog 61 waitC := by
  refine sound_fn Try.func61 (by kernel_rfl) rfl rfl ?_
  intro args objs r0 hr
  obtain ⟨_, hp, rfl, rfl, rfl⟩ := mkC_inv hr
  refine ⟨rfl, by show 3 ≤ _; decide, fun E hN hns hF => ?_⟩
  refine vc_sound hΓ mixed _ _ _ ?_
  have hN := hN.trans nt_61
  have q1 := wth_at 4 (.inl rfl)
  have q2 := wth_at 32 (.inr rfl)
  simp only [runA, runB, runC, runD, runE, runF, fieldE, storeE, binE, ↓reduceIte, Nat.reduceLT, Nat.reduceLeDiff, Nat.reduceEqDiff, Nat.reduceAdd, Nat.reduceMul, Nat.reduceSub, reduceCtorEq, putAt, unE, Nat.reduceBEq, convE, buildE, List.replicate, Int.reduceLT, Int.reduceLE, Int.reduceToNat, mkE, mapSetE, hN, hF, ty_3, ty_159, notIf, isEq, h1, q1, q2]
  have m1 : decide ((0 : Int) > 0) = false := rfl
  have m2 : ((32 : Int) < 4) = False := by simp
  refine AWP.loop (fun k s => k = 0 ∧ s = ⟨[(1, .c (.int .i64 0)), (8, .c (.int .i64 4)), (9, .c (.int .i64 32))], []⟩) ⟨0, _, ?w, rfl, rfl⟩ ?r
  case w =>
    rw [hns]
    simp only [runB, finC, finD, AS.get, AS.mem, false_implies, implies_true, ↓reduceIte, Nat.reduceEqDiff, Option.isSome_some, Option.isSome_none, forall_eq_or_imp, forall_eq, reduceCtorEq, Nat.reduceAdd, Nat.reduceMul, List.zip_cons_cons, List.zip_nil_left, List.zip_nil_right, List.forall_mem_nil]
    first | done | exact ⟨rfl, rfl⟩ | rfl
  case r =>
    rintro k s ⟨rfl, rfl⟩
    refine vc_sound hΓ mixed _ _ _ ?_
    simp only [runA, runB, runC, runD, runE, runF, fieldE, storeE, binE, ↓reduceIte, Nat.reduceLT, Nat.reduceLeDiff, Nat.reduceEqDiff, Nat.reduceAdd, Nat.reduceMul, Nat.reduceSub, reduceCtorEq, putAt, unE, Nat.reduceBEq, convE, buildE, List.replicate, Int.reduceLT, Int.reduceLE, Int.reduceToNat, mkE, mapSetE, hN, hF, ty_3, ty_159, notIf, isEq, h1, q1, q2, m1, mm, m2, if_false]
    simp only [runB, finC, finD, Option.isSome_some, Option.isSome_none, ↓reduceIte, Nat.reduceEqDiff, Nat.reduceAdd, Nat.reduceMul, forall_eq_or_imp, forall_eq, implies_true, Nat.reduceBEq, reduceCtorEq, false_implies, List.zip_cons_cons, List.zip_nil_left, List.zip_nil_right, Nat.reduceLeDiff, List.forall_mem_nil, rs_61]
noncomputable def dueC : Contract := mkC (α := Unit) (fun _ => True) (fun _ => [.c (.int .i64 0), .c (.int .i64 4), .c (.int .i64 0), .c (.int .i64 32)]) (fun _ => []) (fun _ => ⟨[.pv (.c (.int .i64 4))], []⟩)
theorem due_at : dueC [.c (.int .i64 0), .c (.int .i64 4), .c (.int .i64 0), .c (.int .i64 32)] [] = some ⟨[.pv (.c (.int .i64 4))], []⟩ := mkC_at (α := Unit) () trivial (fun _ _ _ _ => rfl)
set_option maxRecDepth 100000 in
set_option maxHeartbeats 4000000 in
theorem due_sound (hΓ : SoundG Try.prog Γ) (h1 : Γ 61 = waitC) : SoundC Try.prog 56 dueC := by
  refine sound_fn Try.func56 (by kernel_rfl) rfl rfl ?_
  intro args objs r0 hr
  obtain ⟨_, hp, rfl, rfl, rfl⟩ := mkC_inv hr
  refine ⟨rfl, by show 4 ≤ _; decide, fun E hN hns hF => ?_⟩
  refine vc_sound hΓ mixed _ _ _ ?_
  have hN := hN.trans nt_56
  have q1 := wait_at
  have m1 : ((0 : Int) > 0) = False := by simp
  have m2 : ((1099511627776 : Int) < 0) = False := by simp
  have e1 : IntKind.i64.wrap ((0 : Int) + 4) = 4 := rfl
  simp only [runA, runB, runC, runD, runE, runF, fieldE, storeE, binE, ↓reduceIte, Nat.reduceLT, Nat.reduceLeDiff, Nat.reduceEqDiff, Nat.reduceAdd, Nat.reduceMul, Nat.reduceSub, reduceCtorEq, putAt, unE, Nat.reduceBEq, convE, buildE, List.replicate, Int.reduceLT, Int.reduceLE, Int.reduceToNat, mkE, mapSetE, hN, hF, ty_3, notIf, isEq, h1, q1, mm, m1, m2, e1, if_false]
  simp only [runB, finC, finD, Option.isSome_some, Option.isSome_none, ↓reduceIte, Nat.reduceEqDiff, Nat.reduceAdd, Nat.reduceMul, forall_eq_or_imp, forall_eq, implies_true, Nat.reduceBEq, reduceCtorEq, false_implies, List.zip_cons_cons, List.zip_nil_left, List.zip_nil_right, Nat.reduceLeDiff, List.forall_mem_nil, rs_56]
noncomputable def cm0C : Contract := mkC (α := Unit) (fun _ => True) (fun _ => [.agg [.c (.int .i64 0), .c (.int .i64 0), .c (.str genS), .c (.sl [])]]) (fun _ => []) (fun _ => ⟨[.pv (.agg [.c (.int .i64 0), .c (.int .i64 0), .c (.str genS)])], []⟩)
theorem cm0_at : cm0C [.agg [.c (.int .i64 0), .c (.int .i64 0), .c (.str genS), .c (.sl [])]] [] = some ⟨[.pv (.agg [.c (.int .i64 0), .c (.int .i64 0), .c (.str genS)])], []⟩ := mkC_at (α := Unit) () trivial (fun _ _ _ _ => rfl)
set_option maxRecDepth 100000 in
set_option maxHeartbeats 4000000 in
theorem cm0_sound : SoundC Try.prog 55 cm0C := by
  refine sound_fn Try.func55 (by kernel_rfl) rfl rfl ?_
  intro args objs r0 hr
  obtain ⟨_, hp, rfl, rfl, rfl⟩ := mkC_inv hr
  refine ⟨rfl, by show 1 ≤ _; decide, fun E hN hns hF => ?_⟩
  refine vc_sound none0_sound mixed _ _ _ ?_
  have hN := hN.trans nt_55
  simp only [runA, runB, runC, runD, runE, runF, fieldE, storeE, binE, ↓reduceIte, Nat.reduceLT, Nat.reduceLeDiff, Nat.reduceEqDiff, Nat.reduceAdd, Nat.reduceMul, Nat.reduceSub, reduceCtorEq, putAt, unE, Nat.reduceBEq, convE, buildE, List.replicate, Int.reduceLT, Int.reduceLE, Int.reduceToNat, mkE, mapSetE, hN, hF, ty_3, ty_9, ty_56, ty_58, ty_109, notIf, isEq]
  simp only [runB, finC, finD, Option.isSome_some, Option.isSome_none, ↓reduceIte, Nat.reduceEqDiff, Nat.reduceAdd, Nat.reduceMul, forall_eq_or_imp, forall_eq, implies_true, Nat.reduceBEq, reduceCtorEq, false_implies, List.zip_cons_cons, List.zip_nil_left, List.zip_nil_right, Nat.reduceLeDiff, List.forall_mem_nil, rs_55, agg_109, sz_109]
noncomputable def begC : Contract := mkC (α := Unit) (fun _ => True) (fun _ => []) (fun _ => []) (fun _ => ⟨[.pv (.agg [.c (.int .i64 0), .c (.int .i64 0), .c (.int .i64 0), .c (.str []), .c (.int .i64 0), .c (.int .i64 0), .c (.str []), .c (.int .i64 0), .c (.int .i64 0), .c (.str genS), .c (.bool false)])], []⟩)
theorem beg_at : begC [] [] = some ⟨[.pv (.agg [.c (.int .i64 0), .c (.int .i64 0), .c (.int .i64 0), .c (.str []), .c (.int .i64 0), .c (.int .i64 0), .c (.str []), .c (.int .i64 0), .c (.int .i64 0), .c (.str genS), .c (.bool false)])], []⟩ := mkC_at (α := Unit) () trivial (fun _ _ _ _ => rfl)
set_option maxRecDepth 100000 in
set_option maxHeartbeats 4000000 in
theorem beg_sound (hΓ : SoundG Try.prog Γ) (h1 : Γ 10 = cfirstC) (h2 : Γ 55 = cm0C) : SoundC Try.prog 39 begC := by
  refine sound_fn Try.func39 (by kernel_rfl) rfl rfl ?_
  intro args objs r0 hr
  obtain ⟨_, hp, rfl, rfl, rfl⟩ := mkC_inv hr
  refine ⟨rfl, by show 0 ≤ _; decide, fun E hN hns hF => ?_⟩
  refine vc_sound hΓ mixed _ _ _ ?_
  have hN := hN.trans nt_39
  have q1 : cfirstC [] [] = some ⟨[.pv (.agg [.c (.int .i64 0), .c (.int .i64 0), .c (.str genS), .c (.sl [])])], []⟩ := rfl
  have q2 := cm0_at
  simp only [runA, runB, runC, runD, runE, runF, fieldE, storeE, binE, ↓reduceIte, Nat.reduceLT, Nat.reduceLeDiff, Nat.reduceEqDiff, Nat.reduceAdd, Nat.reduceMul, Nat.reduceSub, reduceCtorEq, putAt, unE, Nat.reduceBEq, convE, buildE, List.replicate, Int.reduceLT, Int.reduceLE, Int.reduceToNat, mkE, mapSetE, hN, hF, ty_3, ty_4, ty_9, ty_56, ty_58, ty_109, ty_116, notIf, isEq, h1, h2, q1, q2]
  simp only [runB, finC, finD, Option.isSome_some, Option.isSome_none, ↓reduceIte, Nat.reduceEqDiff, Nat.reduceAdd, Nat.reduceMul, forall_eq_or_imp, forall_eq, implies_true, Nat.reduceBEq, reduceCtorEq, false_implies, List.zip_cons_cons, List.zip_nil_left, List.zip_nil_right, Nat.reduceLeDiff, List.forall_mem_nil, rs_39, agg_116, sz_116]
noncomputable def bgnC : Contract := mkC (α := Unit) (fun _ => True) (fun _ => []) (fun _ => []) (fun _ => ⟨[.pv (.agg [.c (.sl []), .c .junk, .c .junk, .c .junk, .c .junk, .c .junk, .c .junk, .c (.sl []), .c .junk, .c (.int .i64 0), .c (.int .i64 0), .c (.str genS), .c (.sl []), .c (.int .i64 0), .c (.int .i64 0), .c (.str []), .c (.int .i64 0), .c (.int .i64 0), .c (.int .i64 0), .c (.int .i64 0), .c (.int .i64 0)])], []⟩)
theorem bgn_at : bgnC [] [] = some ⟨[.pv (.agg [.c (.sl []), .c .junk, .c .junk, .c .junk, .c .junk, .c .junk, .c .junk, .c (.sl []), .c .junk, .c (.int .i64 0), .c (.int .i64 0), .c (.str genS), .c (.sl []), .c (.int .i64 0), .c (.int .i64 0), .c (.str []), .c (.int .i64 0), .c (.int .i64 0), .c (.int .i64 0), .c (.int .i64 0), .c (.int .i64 0)])], []⟩ := mkC_at (α := Unit) () trivial (fun _ _ _ _ => rfl)
set_option maxRecDepth 100000 in
set_option maxHeartbeats 4000000 in
theorem bgn_sound (hΓ : SoundG Try.prog Γ) (h1 : Γ 10 = cfirstC) (h2 : Γ 54 = trJC) : SoundC Try.prog 38 bgnC := by
  refine sound_fn Try.func38 (by kernel_rfl) rfl rfl ?_
  intro args objs r0 hr
  obtain ⟨_, hp, rfl, rfl, rfl⟩ := mkC_inv hr
  refine ⟨rfl, by show 0 ≤ _; decide, fun E hN hns hF => ?_⟩
  refine vc_sound hΓ mixed _ _ _ ?_
  have hN := hN.trans nt_38
  have q1 : cfirstC [] [] = some ⟨[.pv (.agg [.c (.int .i64 0), .c (.int .i64 0), .c (.str genS), .c (.sl [])])], []⟩ := rfl
  have q2 := trJ_at
  simp only [runA, runB, runC, runD, runE, runF, fieldE, storeE, binE, ↓reduceIte, Nat.reduceLT, Nat.reduceLeDiff, Nat.reduceEqDiff, Nat.reduceAdd, Nat.reduceMul, Nat.reduceSub, reduceCtorEq, putAt, unE, Nat.reduceBEq, convE, buildE, List.replicate, Int.reduceLT, Int.reduceLE, Int.reduceToNat, mkE, mapSetE, hN, hF, ty_3, ty_4, ty_9, ty_51, ty_53, ty_56, ty_58, ty_102, ty_103, ty_104, ty_105, ty_106, ty_107, ty_109, ty_111, ty_113, ty_197, ty_201, notIf, isEq, h1, h2, q1, q2, Option.isSome_some, op_makeMap, Option.bind_some]
  simp only [runB, finC, finD, Option.isSome_some, Option.isSome_none, ↓reduceIte, Nat.reduceEqDiff, Nat.reduceAdd, Nat.reduceMul, forall_eq_or_imp, forall_eq, implies_true, Nat.reduceBEq, reduceCtorEq, false_implies, List.zip_cons_cons, List.zip_nil_left, List.zip_nil_right, Nat.reduceLeDiff, List.forall_mem_nil, rs_38, agg_113, sz_113]


variable {Γ : FuncId → Contract}

noncomputable def restC : Contract := mkC (α := PC × PC × PC × PC × PC × PC × PC) (fun _ => True) (fun _ => [.ptr 6400000 0]) (fun x => [[.c (.sl []), .c .junk, .c .junk, .c .junk, .c .junk, .c .junk, .c .junk, .c (.sl []), .c .junk, .c (.int .i64 0), .c (.int .i64 0), .c (.str genS), .c (.sl []), .c (.int .i64 0), .c (.int .i64 0), .c (.str []), .c (.int .i64 0), .c (.int .i64 0), .c (.int .i64 0), .c (.int .i64 0), .c (.int .i64 0), .c x.1, .c x.2.1, .c x.2.2.1, .c (.int .i64 4), .c (.int .i64 32), .c x.2.2.2.1, .c (.int .i64 0), .c x.2.2.2.2.1, .c x.2.2.2.2.2.1, .c x.2.2.2.2.2.2, .c (.int .i64 0), .c (.int .i64 0), .c (.int .i64 0), .c (.str []), .c (.int .i64 0), .c (.int .i64 0), .c (.str []), .c (.int .i64 0), .c (.int .i64 0), .c (.str genS), .c (.bool false), .c .junk, .c (.sl []), .c (.sl []), .c (.sl []), .c (.bool false), .c (.int .i64 0)]]) (fun x => ⟨[], [[.c (.sl []), .c .junk, .c .junk, .c .junk, .c .junk, .c .junk, .c .junk, .c (.sl []), .c .junk, .c (.int .i64 0), .c (.int .i64 0), .c (.str genS), .c (.sl []), .c (.int .i64 0), .c (.int .i64 0), .c (.str []), .c (.int .i64 0), .c (.int .i64 0), .c (.int .i64 4), .c (.int .i64 0), .c (.int .i64 0), .c x.1, .c x.2.1, .c x.2.2.1, .c (.int .i64 4), .c (.int .i64 32), .c x.2.2.2.1, .c (.int .i64 0), .c x.2.2.2.2.1, .c x.2.2.2.2.2.1, .c x.2.2.2.2.2.2, .c (.int .i64 0), .c (.int .i64 0), .c (.int .i64 0), .c (.str []), .c (.int .i64 0), .c (.int .i64 0), .c (.str []), .c (.int .i64 0), .c (.int .i64 0), .c (.str genS), .c (.bool false), .c .junk, .c (.sl []), .c (.sl []), .c (.sl []), .c (.bool false), .c (.int .i64 0)]]⟩)
theorem rest_at (p1 p2 p3 p4 p5 p6 p7 : PC) : restC [.ptr 6400000 0] [[.c (.sl []), .c .junk, .c .junk, .c .junk, .c .junk, .c .junk, .c .junk, .c (.sl []), .c .junk, .c (.int .i64 0), .c (.int .i64 0), .c (.str genS), .c (.sl []), .c (.int .i64 0), .c (.int .i64 0), .c (.str []), .c (.int .i64 0), .c (.int .i64 0), .c (.int .i64 0), .c (.int .i64 0), .c (.int .i64 0), .c p1, .c p2, .c p3, .c (.int .i64 4), .c (.int .i64 32), .c p4, .c (.int .i64 0), .c p5, .c p6, .c p7, .c (.int .i64 0), .c (.int .i64 0), .c (.int .i64 0), .c (.str []), .c (.int .i64 0), .c (.int .i64 0), .c (.str []), .c (.int .i64 0), .c (.int .i64 0), .c (.str genS), .c (.bool false), .c .junk, .c (.sl []), .c (.sl []), .c (.sl []), .c (.bool false), .c (.int .i64 0)]] = some ⟨[], [[.c (.sl []), .c .junk, .c .junk, .c .junk, .c .junk, .c .junk, .c .junk, .c (.sl []), .c .junk, .c (.int .i64 0), .c (.int .i64 0), .c (.str genS), .c (.sl []), .c (.int .i64 0), .c (.int .i64 0), .c (.str []), .c (.int .i64 0), .c (.int .i64 0), .c (.int .i64 4), .c (.int .i64 0), .c (.int .i64 0), .c p1, .c p2, .c p3, .c (.int .i64 4), .c (.int .i64 32), .c p4, .c (.int .i64 0), .c p5, .c p6, .c p7, .c (.int .i64 0), .c (.int .i64 0), .c (.int .i64 0), .c (.str []), .c (.int .i64 0), .c (.int .i64 0), .c (.str []), .c (.int .i64 0), .c (.int .i64 0), .c (.str genS), .c (.bool false), .c .junk, .c (.sl []), .c (.sl []), .c (.sl []), .c (.bool false), .c (.int .i64 0)]]⟩ :=
  mkC_at (α := PC × PC × PC × PC × PC × PC × PC) ⟨p1, p2, p3, p4, p5, p6, p7⟩ trivial (by
    rintro ⟨p1, p2, p3, p4, p5, p6, p7⟩ _ h ho
    simp only [List.cons.injEq, OV.c.injEq, true_and, and_true] at ho
    simp only [ho])
set_option maxRecDepth 100000 in
set_option maxHeartbeats 4000000 in
theorem rest_sound (hΓ : SoundG Try.prog Γ) (h1 : Γ 56 = dueC) : SoundC Try.prog 41 restC := by
  refine sound_fn Try.func41 (by kernel_rfl) rfl rfl ?_
  intro args objs r0 hr
  obtain ⟨⟨p1, p2, p3, p4, p5, p6, p7⟩, _, rfl, rfl, rfl⟩ := mkC_inv hr
  refine ⟨rfl, by show 1 ≤ _; decide, fun E hN hns hF => ?_⟩
  refine vc_sound hΓ mixed _ _ _ ?_
  have hN := hN.trans nt_41
  have q1 := due_at
  dsimp only
  simp only [runA, runB, runC, runD, runE, runF, fieldE, storeE, binE, ↓reduceIte, Nat.reduceLT, Nat.reduceLeDiff, Nat.reduceEqDiff, Nat.reduceAdd, Nat.reduceMul, Nat.reduceSub, reduceCtorEq, putAt, unE, Nat.reduceBEq, convE, buildE, List.replicate, Int.reduceLT, Int.reduceLE, Int.reduceToNat, mkE, mapSetE, hN, hF, ty_3, ty_4, ty_27, ty_43, ty_45, ty_51, ty_53, ty_58, ty_61, ty_102, ty_103, ty_104, ty_105, ty_106, ty_107, ty_111, ty_113, ty_116, ty_118, ty_120, ty_122, notIf, isEq, h1, q1]
  refine drawnP_intro (by kernel_rfl) (by kernel_rfl) ?_
  simp only [runB, finC, finD, Option.isSome_some, Option.isSome_none, ↓reduceIte, Nat.reduceEqDiff, Nat.reduceAdd, Nat.reduceMul, forall_eq_or_imp, forall_eq, implies_true, Nat.reduceBEq, reduceCtorEq, false_implies, List.zip_cons_cons, List.zip_nil_left, List.zip_nil_right, Nat.reduceLeDiff, List.forall_mem_nil, rs_41]
noncomputable def rpNC : Contract := mkC (α := Cf × Int) (fun p => p.1.ok ∧ 0 ≤ p.2 ∧ p.2 < (p.1.roots.length : Int)) (fun p => [p.1.av, .c (.int .i64 p.2), .c (.int .i64 65536), .c (.int .i64 0)]) (fun _ => []) (fun _ => ⟨[.pv (.c .junk), .pv (.c (.int .i64 0))], []⟩)
theorem rpN_at (c : Cf) (id : Int) (hc : c.ok) (h1 : 0 ≤ id) (h2 : id < (c.roots.length : Int)) : rpNC [.agg [.c (.sl (texts c.roots)), .c (.sl (texts c.cl)), .c (.int .i64 c.q), .c (.int .i64 4), .c (.int .i64 32)], .c (.int .i64 id), .c (.int .i64 65536), .c (.int .i64 0)] [] = some ⟨[.pv (.c .junk), .pv (.c (.int .i64 0))], []⟩ :=
  mkC_at (α := Cf × Int) (c, id) ⟨hc, h1, h2⟩ (fun _ _ _ _ => rfl)
set_option maxRecDepth 100000 in
set_option maxHeartbeats 8000000 in
theorem rpN_sound (hΓ : SoundG Try.prog Γ) (h1 : Γ 37 = clnSC) (h2 : Γ 38 = bgnC) (h3 : Γ 11 = voKeyC) (h4 : Γ 39 = begC) (h5 : Γ 40 = dskC) (h6 : Γ 41 = restC) : SoundC Try.prog 24 rpNC := by
  refine sound_fn Try.func24 (by kernel_rfl) rfl rfl ?_
  intro args objs r0 hr
  obtain ⟨⟨⟨roots, cl, q⟩, id⟩, ⟨⟨o1, o2, o3, o4, o5⟩, o6, o7⟩, rfl, rfl, rfl⟩ := mkC_inv hr
  refine ⟨rfl, by show 4 ≤ _; decide, fun E hN hns hF => ?_⟩
  refine vc_sound hΓ mixed _ _ _ ?_
  have hN := hN.trans nt_24
  have r1 : 1 ≤ roots.length := o1
  have r2 : roots.length ≤ 5 := o2
  have r3 : cl.length ≤ 4 := o3
  have r4 : 1 ≤ q := o4
  have r5 : q ≤ (roots.length : Int) := o5
  have g1 : decide ((roots.length : Int) < 1) = false := by simp; omega
  have g2 : decide ((roots.length : Int) > 7) = false := by simp; omega
  have g3 : decide (q < 1) = false := by simp; omega
  have g4 : decide (q > (roots.length : Int)) = false := by simp; omega
  have k1 := clnS_at roots (by omega)
  have k2 := clnS_at cl (by omega)
  have r6 : 0 ≤ id := o6
  have r7 : id < (roots.length : Int) := o7
  have g5 : decide (id < 0) = false := by simp; omega
  have g6 : decide (id ≥ (roots.length : Int)) = false := by simp; omega
  have k3 := bgn_at
  have k4 := voKey_at id
  generalize voKeyK id = ky at k4
  obtain ⟨sd, lv, nx⟩ := ky
  have k5 := beg_at
  have k6 := dsk_at
  have k7 := rest_at (.sl (texts roots)) (.sl (texts cl)) (.int .i64 q) (.int .i64 id) (.str sd) (.sl (texts lv)) (.int .i64 nx)
  unfold Ky.av at k4
  dsimp only [Cf.av] at k4 ⊢
  simp only [runA, runB, runC, runD, runE, runF, fieldE, storeE, binE, ↓reduceIte, Nat.reduceLT, Nat.reduceLeDiff, Nat.reduceEqDiff, Nat.reduceAdd, Nat.reduceMul, Nat.reduceSub, reduceCtorEq, putAt, unE, Nat.reduceBEq, convE, buildE, List.replicate, Int.reduceLT, Int.reduceLE, Int.reduceToNat, mkE, mapSetE, hN, hF, ty_3, ty_4, ty_9, ty_27, ty_43, ty_45, ty_61, ty_76, ty_113, ty_116, ty_118, ty_120, ty_122, notIf, isEq, h1, h2, h3, h4, h5, h6, g1, g2, g3, g4, k1, k2, g5, g6, k3, k4, k5, k6, k7, texts_length]
  iterate 6 (try (refine drawnP_intro (by kernel_rfl) (by kernel_rfl) ?_; simp only [runA, runB, runC, runD, runE, runF, fieldE, storeE, binE, ↓reduceIte, Nat.reduceLT, Nat.reduceLeDiff, Nat.reduceEqDiff, Nat.reduceAdd, Nat.reduceMul, Nat.reduceSub, reduceCtorEq, putAt, unE, Nat.reduceBEq, convE, buildE, List.replicate, Int.reduceLT, Int.reduceLE, Int.reduceToNat, mkE, mapSetE, hN, hF, ty_3, ty_4, ty_9, ty_27, ty_43, ty_45, ty_61, ty_76, ty_113, ty_116, ty_118, ty_120, ty_122, notIf, isEq, h1, h2, h3, h4, h5, h6, g1, g2, g3, g4, k1, k2, g5, g6, k3, k4, k5, k6, k7, texts_length]))
  simp only [runB, finC, finD, Option.isSome_some, Option.isSome_none, ↓reduceIte, Nat.reduceEqDiff, Nat.reduceAdd, Nat.reduceMul, forall_eq_or_imp, forall_eq, implies_true, Nat.reduceBEq, reduceCtorEq, false_implies, List.zip_cons_cons, List.zip_nil_left, List.zip_nil_right, Nat.reduceLeDiff, List.forall_mem_nil, rs_24]
noncomputable def lnNC : Contract := mkC (α := Cf × Int × Int) (fun p => p.1.ok ∧ ruleS p.2.1 p.2.2 (p.1.roots.length : Int) p.1.q = 0) (fun p => [p.1.av, .agg [.c (.int .i64 p.2.1), .c (.int .i64 p.2.2)]]) (fun _ => []) (fun _ => ⟨[.pv (.c .junk), .pv (.c (.int .i64 0))], []⟩)
theorem lnN_at (c : Cf) (k m : Int) (hc : c.ok) (h : ruleS k m (c.roots.length : Int) c.q = 0) : lnNC [.agg [.c (.sl (texts c.roots)), .c (.sl (texts c.cl)), .c (.int .i64 c.q), .c (.int .i64 4), .c (.int .i64 32)], .agg [.c (.int .i64 k), .c (.int .i64 m)]] [] = some ⟨[.pv (.c .junk), .pv (.c (.int .i64 0))], []⟩ :=
  mkC_at (α := Cf × Int × Int) (c, k, m) ⟨hc, h⟩ (fun _ _ _ _ => rfl)
noncomputable def stNC : Contract := mkC (α := Cf × Int × Int) (fun p => p.1.ok ∧ ruleS p.2.1 p.2.2 (p.1.roots.length : Int) p.1.q = 0) (fun p => [p.1.av, .agg [.c (.int .i64 p.2.1), .c (.int .i64 p.2.2)], .c (.int .i64 65536)]) (fun _ => []) (fun _ => ⟨[.pv (.c .junk), .pv (.c (.int .i64 0))], []⟩)
theorem stN_at (c : Cf) (k m : Int) (hc : c.ok) (h : ruleS k m (c.roots.length : Int) c.q = 0) : stNC [.agg [.c (.sl (texts c.roots)), .c (.sl (texts c.cl)), .c (.int .i64 c.q), .c (.int .i64 4), .c (.int .i64 32)], .agg [.c (.int .i64 k), .c (.int .i64 m)], .c (.int .i64 65536)] [] = some ⟨[.pv (.c .junk), .pv (.c (.int .i64 0))], []⟩ :=
  mkC_at (α := Cf × Int × Int) (c, k, m) ⟨hc, h⟩ (fun _ _ _ _ => rfl)
set_option maxRecDepth 100000 in
set_option maxHeartbeats 8000000 in
theorem lnN_sound (hΓ : SoundG Try.prog Γ) (h1 : Γ 37 = clnSC) (h2 : Γ 15 = rcC) (h3 : Γ 54 = trJC) : SoundC Try.prog 42 lnNC := by
  refine sound_fn Try.func42 (by kernel_rfl) rfl rfl ?_
  intro args objs r0 hr
  obtain ⟨⟨⟨roots, cl, q⟩, k, m⟩, ⟨⟨o1, o2, o3, o4, o5⟩, o6⟩, rfl, rfl, rfl⟩ := mkC_inv hr
  refine ⟨rfl, by show 2 ≤ _; decide, fun E hN hns hF => ?_⟩
  refine vc_sound hΓ mixed _ _ _ ?_
  have hN := hN.trans nt_42
  have r1 : 1 ≤ roots.length := o1
  have r2 : roots.length ≤ 5 := o2
  have r3 : cl.length ≤ 4 := o3
  have r4 : 1 ≤ q := o4
  have r5 : q ≤ (roots.length : Int) := o5
  have g1 : decide ((roots.length : Int) < 1) = false := by simp; omega
  have g2 : decide ((roots.length : Int) > 7) = false := by simp; omega
  have g3 : decide (q < 1) = false := by simp; omega
  have g4 : decide (q > (roots.length : Int)) = false := by simp; omega
  have k1 := clnS_at roots (by omega)
  have k2 := clnS_at cl (by omega)
  have r6 : ruleS k m (roots.length : Int) q = 0 := o6
  have k3 := rc_at k m (roots.length : Int) q
  rw [r6] at k3
  have k4 := trJ_at
  have z0 : ((0 : Int) != 0) = false := rfl
  dsimp only [Cf.av]
  simp only [runA, runB, runC, runD, runE, runF, fieldE, storeE, binE, ↓reduceIte, Nat.reduceLT, Nat.reduceLeDiff, Nat.reduceEqDiff, Nat.reduceAdd, Nat.reduceMul, Nat.reduceSub, reduceCtorEq, putAt, unE, Nat.reduceBEq, convE, buildE, List.replicate, Int.reduceLT, Int.reduceLE, Int.reduceToNat, mkE, mapSetE, hN, hF, ty_3, ty_9, ty_27, ty_36, ty_43, ty_45, ty_107, ty_123, ty_143, ty_145, ty_189, notIf, isEq, h1, h2, h3, g1, g2, g3, g4, k1, k2, k3, k4, z0, texts_length, Option.isSome_some, op_makeMap, Option.bind_some]
  iterate 6 (try (refine drawnP_intro (by kernel_rfl) (by kernel_rfl) ?_; simp only [runA, runB, runC, runD, runE, runF, fieldE, storeE, binE, ↓reduceIte, Nat.reduceLT, Nat.reduceLeDiff, Nat.reduceEqDiff, Nat.reduceAdd, Nat.reduceMul, Nat.reduceSub, reduceCtorEq, putAt, unE, Nat.reduceBEq, convE, buildE, List.replicate, Int.reduceLT, Int.reduceLE, Int.reduceToNat, mkE, mapSetE, hN, hF, ty_3, ty_9, ty_27, ty_36, ty_43, ty_45, ty_107, ty_123, ty_143, ty_145, ty_189, notIf, isEq, h1, h2, h3, g1, g2, g3, g4, k1, k2, k3, k4, z0, texts_length, Option.isSome_some, op_makeMap, Option.bind_some]))
  simp only [runB, finC, finD, Option.isSome_some, Option.isSome_none, ↓reduceIte, Nat.reduceEqDiff, Nat.reduceAdd, Nat.reduceMul, forall_eq_or_imp, forall_eq, implies_true, Nat.reduceBEq, reduceCtorEq, false_implies, List.zip_cons_cons, List.zip_nil_left, List.zip_nil_right, Nat.reduceLeDiff, List.forall_mem_nil, rs_42]
set_option maxRecDepth 100000 in
set_option maxHeartbeats 8000000 in
theorem stN_sound (hΓ : SoundG Try.prog Γ) (h1 : Γ 37 = clnSC) (h2 : Γ 42 = lnNC) (h3 : Γ 40 = dskC) : SoundC Try.prog 25 stNC := by
  refine sound_fn Try.func25 (by kernel_rfl) rfl rfl ?_
  intro args objs r0 hr
  obtain ⟨⟨⟨roots, cl, q⟩, k, m⟩, ⟨⟨o1, o2, o3, o4, o5⟩, o6⟩, rfl, rfl, rfl⟩ := mkC_inv hr
  refine ⟨rfl, by show 3 ≤ _; decide, fun E hN hns hF => ?_⟩
  refine vc_sound hΓ mixed _ _ _ ?_
  have hN := hN.trans nt_25
  have r1 : 1 ≤ roots.length := o1
  have r2 : roots.length ≤ 5 := o2
  have r3 : cl.length ≤ 4 := o3
  have r4 : 1 ≤ q := o4
  have r5 : q ≤ (roots.length : Int) := o5
  have g1 : decide ((roots.length : Int) < 1) = false := by simp; omega
  have g2 : decide ((roots.length : Int) > 7) = false := by simp; omega
  have g3 : decide (q < 1) = false := by simp; omega
  have g4 : decide (q > (roots.length : Int)) = false := by simp; omega
  have k1 := clnS_at roots (by omega)
  have k2 := clnS_at cl (by omega)
  have k3 := lnN_at ⟨roots, cl, q⟩ k m ⟨o1, o2, o3, o4, o5⟩ o6
  have k4 := dsk_at
  have z0 : ((0 : Int) != 0) = false := rfl
  dsimp only [Cf.av] at k3 ⊢
  simp only [runA, runB, runC, runD, runE, runF, fieldE, storeE, binE, ↓reduceIte, Nat.reduceLT, Nat.reduceLeDiff, Nat.reduceEqDiff, Nat.reduceAdd, Nat.reduceMul, Nat.reduceSub, reduceCtorEq, putAt, unE, Nat.reduceBEq, convE, buildE, List.replicate, Int.reduceLT, Int.reduceLE, Int.reduceToNat, mkE, mapSetE, hN, hF, ty_3, ty_4, ty_9, ty_27, ty_36, ty_43, ty_45, ty_79, ty_118, ty_123, ty_127, notIf, isEq, h1, h2, h3, g1, g2, g3, g4, k1, k2, k3, k4, z0, texts_length]
  iterate 6 (try (refine drawnP_intro (by kernel_rfl) (by kernel_rfl) ?_; simp only [runA, runB, runC, runD, runE, runF, fieldE, storeE, binE, ↓reduceIte, Nat.reduceLT, Nat.reduceLeDiff, Nat.reduceEqDiff, Nat.reduceAdd, Nat.reduceMul, Nat.reduceSub, reduceCtorEq, putAt, unE, Nat.reduceBEq, convE, buildE, List.replicate, Int.reduceLT, Int.reduceLE, Int.reduceToNat, mkE, mapSetE, hN, hF, ty_3, ty_4, ty_9, ty_27, ty_36, ty_43, ty_45, ty_79, ty_118, ty_123, ty_127, notIf, isEq, h1, h2, h3, g1, g2, g3, g4, k1, k2, k3, k4, z0, texts_length]))
  simp only [runB, finC, finD, Option.isSome_some, Option.isSome_none, ↓reduceIte, Nat.reduceEqDiff, Nat.reduceAdd, Nat.reduceMul, forall_eq_or_imp, forall_eq, implies_true, Nat.reduceBEq, reduceCtorEq, false_implies, List.zip_cons_cons, List.zip_nil_left, List.zip_nil_right, Nat.reduceLeDiff, List.forall_mem_nil, rs_25]


variable {Γ : FuncId → Contract}

structure Wo where
  R : Int
  q : Int
  C : Int
  l : List Rul
  roots : List (List UInt8)
  cls : List (List UInt8)
  reps : List (List PC)
  stos : List (List PC)
  ag : Bool
  es : List (List UInt8 × List PC)
  ck : List (List PC)
def Wo.ov (w : Wo) : List (List OV) := [[.c (.int .i64 w.R), .c (.int .i64 w.q), .c (.int .i64 w.C), .c (.sl (ruls w.l)), .c (.sl (texts w.roots)), .own 1 (texts w.cls), .c (.int .i64 w.q), .c (.int .i64 4), .c (.int .i64 32), .c (.int .i64 0), .own 1 w.reps, .own 1 w.stos, .mp w.ag w.es, .own 3 w.ck, .c .junk, .c .junk, .c .junk, .c .junk, .c .junk, .c .junk, .c .junk, .c .junk, .c .junk, .c .junk, .c (.bool false), .c (.bool false)]]
theorem ruls_iff {a b : List Rul} : ruls a = ruls b ↔ a = b := ⟨ruls_inj, fun h => by rw [h]⟩
theorem Wo.ov_inj {a b : Wo} (h : a.ov = b.ov) : a = b := by
  obtain ⟨a1, a2, a3, a4, a5, a6, a7, a8, a9, a10, a11⟩ := a
  obtain ⟨b1, b2, b3, b4, b5, b6, b7, b8, b9, b10, b11⟩ := b
  unfold Wo.ov at h
  simp only [List.cons.injEq, OV.c.injEq, OV.own.injEq, OV.mp.injEq, PC.int.injEq, PC.sl.injEq, texts_iff, ruls_iff, true_and, and_true] at h
  simp only [Wo.mk.injEq, h, and_self]
def corB (C : Int) (i : Nat) : Bool := (IntKind.i64.wrap ((BitVec.ofInt IntKind.i64.bits (C.fdiv (2 ^ min i IntKind.i64.bits)) &&& BitVec.ofInt IntKind.i64.bits 1).toNat : Int) == 1)
noncomputable def corC : Contract := mkC (α := Wo × Nat) (fun p => p.2 < 64) (fun p => [.ptr 6400000 0, .c (.int .i64 (p.2 : Int))]) (fun p => p.1.ov) (fun p => ⟨[.pv (.c (.bool (corB p.1.C p.2)))], p.1.ov⟩)
theorem cor_at (w : Wo) (i : Nat) (h : i < 64) : corC [.ptr 6400000 0, .c (.int .i64 (i : Int))] w.ov = some ⟨[.pv (.c (.bool (corB w.C i)))], w.ov⟩ :=
  mkC_at (α := Wo × Nat) (w, i) h (by
    rintro ⟨w', i'⟩ _ h ho
    simp only [List.cons.injEq, AV.c.injEq, PC.int.injEq, true_and, and_true, Int.natCast_inj] at h
    have ho : w'.ov = w.ov := ho
    rw [Wo.ov_inj ho, show i' = i from h])
set_option maxRecDepth 100000 in
set_option maxHeartbeats 4000000 in
theorem cor_sound : SoundC Try.prog 23 corC := by
  refine sound_fn Try.func23 (by kernel_rfl) rfl rfl ?_
  intro args objs r0 hr
  obtain ⟨⟨⟨R, q, C, l, roots, cls, reps, stos, ag, es, ck⟩, i⟩, h1, rfl, rfl, rfl⟩ := mkC_inv hr
  refine ⟨rfl, by show 2 ≤ _; decide, fun E hN hns hF => ?_⟩
  refine vc_sound none0_sound mixed _ _ _ ?_
  have hN := hN.trans nt_23
  unfold Wo.ov
  dsimp only
  have hb : ((i : Int) < 0) = False := by simp
  simp only [runA, runB, runC, runD, runE, runF, fieldE, storeE, binE, ↓reduceIte, Nat.reduceLT, Nat.reduceLeDiff, Nat.reduceEqDiff, Nat.reduceAdd, Nat.reduceMul, Nat.reduceSub, reduceCtorEq, putAt, unE, Nat.reduceBEq, convE, buildE, List.replicate, Int.reduceLT, Int.reduceLE, Int.reduceToNat, mkE, mapSetE, hN, hF, ty_3, ty_4, ty_22, ty_24, ty_37, ty_38, ty_39, ty_40, ty_41, ty_42, ty_45, ty_46, ty_47, ty_48, ty_49, ty_50, ty_51, ty_52, ty_53, ty_55, notIf, isEq, shOp, hb]
  unfold corB
  simp only [runB, finC, finD, Option.isSome_some, Option.isSome_none, ↓reduceIte, Nat.reduceEqDiff, Nat.reduceAdd, Nat.reduceMul, forall_eq_or_imp, forall_eq, implies_true, Nat.reduceBEq, reduceCtorEq, false_implies, List.zip_cons_cons, List.zip_nil_left, List.zip_nil_right, Nat.reduceLeDiff, List.forall_mem_nil, rs_23]


variable {Γ : FuncId → Contract}

def jr (n : Nat) : List (List PC) := List.replicate n [.junk]
theorem jr_zero : jr 0 = [] := rfl
theorem jr_length (n : Nat) : (jr n).length = n := by simp [jr]
theorem jr_succ (n : Nat) : jr n ++ [[PC.junk]] = jr (n + 1) := by simp [jr, List.replicate_succ']
def kyR (ks : List Ky) : List (List PC) := ks.map fun k => [.str k.seed, .sl (texts k.leaves), .int .i64 k.next]
theorem kyR_length (ks : List Ky) : (kyR ks).length = ks.length := by simp [kyR]
structure pplOK (w : Wo) (ks : List Ky) : Prop where
  r1 : 1 ≤ w.R
  r5 : w.R ≤ 5
  rl : w.R = (w.roots.length : Int)
  cl : w.cls.length ≤ 4
  q1 : 1 ≤ w.q
  q2 : w.q ≤ w.R
  l3 : w.l.length ≤ 3
  ru : ∀ x ∈ w.l, ruleS x.1 x.2 w.R w.q = 0
  kl : w.R = (ks.length : Int)
  e1 : w.reps = []
  e2 : w.stos = []
noncomputable def pplC : Contract := mkC (α := Wo × List Ky) (fun p => pplOK p.1 p.2) (fun p => [.ptr 6400000 0, .c (.sl (kyR p.2))]) (fun p => p.1.ov) (fun p => ⟨[], { p.1 with reps := jr p.1.R.toNat, stos := jr p.1.l.length }.ov⟩)
theorem ppl_at (w : Wo) (ks : List Ky) (h : pplOK w ks) : pplC [.ptr 6400000 0, .c (.sl (kyR ks))] w.ov = some ⟨[], { w with reps := jr w.R.toNat, stos := jr w.l.length }.ov⟩ :=
  mkC_at (α := Wo × List Ky) (w, ks) h (by
    rintro ⟨w', ks'⟩ _ h ho
    have ho : w'.ov = w.ov := ho
    rw [Wo.ov_inj ho])
set_option maxRecDepth 100000 in
set_option maxHeartbeats 16000000 in
theorem ppl_sound (hΓ : SoundG Try.prog Γ) (h1 : Γ 23 = corC) (h2 : Γ 24 = rpNC) (h3 : Γ 25 = stNC) : SoundC Try.prog 14 pplC := by
  refine sound_fn Try.func14 (by kernel_rfl) rfl rfl ?_
  intro args objs r0 hr
  obtain ⟨⟨⟨R, q, C, l, roots, cls, reps, stos, ag, es, ck⟩, ks⟩, hp, rfl, rfl, rfl⟩ := mkC_inv hr
  obtain ⟨r1, r5, rl, cl, q1, q2, l3, ru, kl, w1, w2⟩ := hp
  dsimp only at r1 r5 rl cl q1 q2 l3 ru kl w1 w2
  refine ⟨rfl, by show 2 ≤ _; decide, fun E hN hns hF => ?_⟩
  refine vc_sound hΓ mixed _ _ _ ?_
  have hN := hN.trans nt_14
  subst w1 w2
  unfold Wo.ov at hns ⊢
  dsimp only at hns ⊢
  subst rl
  have hn : roots.length ≤ 5 := by omega
  have hkn : ks.length = roots.length := by omega
  rw [Int.toNat_natCast]
  have hz : rowsOK 1 [[PC.junk]] := by
    intro r hr
    rw [List.mem_singleton] at hr
    rw [hr]; rfl
  have CF : Cf.ok ⟨roots, cls, q⟩ := ⟨by show 1 ≤ roots.length; omega, hn, cl, q1, q2⟩
  simp only [runA, runB, runC, runD, runE, runF, fieldE, storeE, binE, ↓reduceIte, Nat.reduceLT, Nat.reduceLeDiff, Nat.reduceEqDiff, Nat.reduceAdd, Nat.reduceMul, Nat.reduceSub, reduceCtorEq, putAt, unE, Nat.reduceBEq, convE, buildE, List.replicate, Int.reduceLT, Int.reduceLE, Int.reduceToNat, mkE, mapSetE, hN, hF, ty_3, ty_4, ty_9, ty_22, ty_24, ty_26, ty_36, ty_37, ty_38, ty_39, ty_40, ty_41, ty_42, ty_43, ty_45, ty_46, ty_47, ty_48, ty_49, ty_50, ty_51, ty_52, ty_53, ty_55, ty_61, ty_76, ty_79, notIf, isEq, texts_length]
  refine AWP.loop (fun k st => ∃ i : Nat, i ≤ roots.length ∧ k = roots.length - i ∧ st = ⟨[(0, .ptr 6400000 0), (1, .c (.sl (kyR ks))), (15, .c (.int .i64 (roots.length : Int))), (16, .c (.int .i64 (i : Int)))], [(6400000, .obj [.c (.int .i64 (roots.length : Int)), .c (.int .i64 q), .c (.int .i64 C), .c (.sl (ruls l)), .c (.sl (texts roots)), .own 6400006 1 (texts cls), .c (.int .i64 q), .c (.int .i64 4), .c (.int .i64 32), .c (.int .i64 0), .own 6400011 1 (jr i), .own 6400012 1 [], .mp 6400013, .own 6400014 3 ck, .c .junk, .c .junk, .c .junk, .c .junk, .c .junk, .c .junk, .c .junk, .c .junk, .c .junk, .c .junk, .c (.bool false), .c (.bool false)] false), (6400006, .row 1 (cls.length)), (6400011, .row 1 i), (6400012, .row 1 0), (6400013, .mp ag es), (6400014, .row 3 ck.length)]⟩) ⟨roots.length, _, ?w, 0, Nat.zero_le _, rfl, rfl⟩ ?r
  case w =>
    rw [hns]
    simp only [runB, finC, finD, AS.get, AS.mem, false_implies, implies_true, ↓reduceIte, Nat.reduceEqDiff, Option.isSome_some, Option.isSome_none, forall_eq_or_imp, forall_eq, reduceCtorEq, Nat.reduceAdd, Nat.reduceMul, List.zip_cons_cons, List.zip_nil_left, List.zip_nil_right, List.forall_mem_nil, texts_length, jr_zero]
    first | done | simp
  case r =>
    rintro k st ⟨i, hi, rfl, rfl⟩
    refine vc_sound hΓ mixed _ _ _ ?_
    by_cases hlt : i < roots.length
    · have g8 : decide ((i : Int) < (roots.length : Int)) = true := by simpa using hlt
      have e2 : IntKind.i64.wrap ((i : Int) + 1) = (i : Int) + 1 := wrapI (by omega)
      have k1 := cor_at ⟨(roots.length : Int), q, C, l, roots, cls, jr i, [], ag, es, ck⟩ i (by omega)
      unfold Wo.ov at k1
      dsimp only at k1
      have hL : ((i + 1) * 8 ≤ 140737488355328) = True := eq_true (by omega)
      obtain ⟨sd, lv, nx, hk⟩ : ∃ sd lv nx, (kyR ks)[i]? = some [.str sd, .sl (texts lv), .int .i64 nx] := ⟨(ks[i]).seed, (ks[i]).leaves, (ks[i]).next, by simp [kyR, show i < ks.length by omega]⟩
      have k2 := rpN_at ⟨roots, cls, q⟩ (i : Int) CF (by omega) (by show (i : Int) < (roots.length : Int); omega)
      dsimp only at k2
      cases hb : corB C i with
      | true =>
        rw [hb] at k1
        simp only [runA, runB, runC, runD, runE, runF, fieldE, storeE, binE, ↓reduceIte, Nat.reduceLT, Nat.reduceLeDiff, Nat.reduceEqDiff, Nat.reduceAdd, Nat.reduceMul, Nat.reduceSub, reduceCtorEq, putAt, unE, Nat.reduceBEq, convE, buildE, List.replicate, Int.reduceLT, Int.reduceLE, Int.reduceToNat, mkE, mapSetE, hN, hF, ty_3, ty_4, ty_9, ty_22, ty_24, ty_26, ty_36, ty_37, ty_38, ty_39, ty_40, ty_41, ty_42, ty_43, ty_45, ty_46, ty_47, ty_48, ty_49, ty_50, ty_51, ty_52, ty_53, ty_55, ty_61, ty_76, ty_79, notIf, isEq, g8, e2, h1, h2, k1, k2, hk, hz, jr_length, hL, jr_succ, texts_length, keyI, kyR_length, AV.toPC]
        iterate 3 (try (refine drawnP_intro (by kernel_rfl) (by kernel_rfl) ?_; try simp only [runA, runB, runC, runD, runE, runF, fieldE, storeE, binE, ↓reduceIte, Nat.reduceLT, Nat.reduceLeDiff, Nat.reduceEqDiff, Nat.reduceAdd, Nat.reduceMul, Nat.reduceSub, reduceCtorEq, putAt, unE, Nat.reduceBEq, convE, buildE, List.replicate, Int.reduceLT, Int.reduceLE, Int.reduceToNat, mkE, mapSetE, hN, hF, ty_3, ty_4, ty_9, ty_22, ty_24, ty_26, ty_36, ty_37, ty_38, ty_39, ty_40, ty_41, ty_42, ty_43, ty_45, ty_46, ty_47, ty_48, ty_49, ty_50, ty_51, ty_52, ty_53, ty_55, ty_61, ty_76, ty_79, notIf, isEq, g8, e2, h1, h2, k1, k2, hk, hz, jr_length, hL, jr_succ, texts_length, keyI, kyR_length, AV.toPC]))
        refine ⟨roots.length - (i + 1), _, by omega, ?_, i + 1, by omega, rfl, rfl⟩
        rw [hns]
        simp only [runB, finC, finD, AS.get, AS.mem, false_implies, implies_true, ↓reduceIte, Nat.reduceEqDiff, Option.isSome_some, Option.isSome_none, forall_eq_or_imp, forall_eq, reduceCtorEq, Nat.reduceAdd, Nat.reduceMul, List.zip_cons_cons, List.zip_nil_left, List.zip_nil_right, List.forall_mem_nil, texts_length, jr_zero]
        first | done | simp
      | false =>
        rw [hb] at k1
        simp only [runA, runB, runC, runD, runE, runF, fieldE, storeE, binE, ↓reduceIte, Nat.reduceLT, Nat.reduceLeDiff, Nat.reduceEqDiff, Nat.reduceAdd, Nat.reduceMul, Nat.reduceSub, reduceCtorEq, putAt, unE, Nat.reduceBEq, convE, buildE, List.replicate, Int.reduceLT, Int.reduceLE, Int.reduceToNat, mkE, mapSetE, hN, hF, ty_3, ty_4, ty_9, ty_22, ty_24, ty_26, ty_36, ty_37, ty_38, ty_39, ty_40, ty_41, ty_42, ty_43, ty_45, ty_46, ty_47, ty_48, ty_49, ty_50, ty_51, ty_52, ty_53, ty_55, ty_61, ty_76, ty_79, notIf, isEq, g8, e2, h1, h2, k1, k2, hk, hz, jr_length, hL, jr_succ, texts_length, keyI, kyR_length, AV.toPC]
        iterate 3 (try (refine drawnP_intro (by kernel_rfl) (by kernel_rfl) ?_; try simp only [runA, runB, runC, runD, runE, runF, fieldE, storeE, binE, ↓reduceIte, Nat.reduceLT, Nat.reduceLeDiff, Nat.reduceEqDiff, Nat.reduceAdd, Nat.reduceMul, Nat.reduceSub, reduceCtorEq, putAt, unE, Nat.reduceBEq, convE, buildE, List.replicate, Int.reduceLT, Int.reduceLE, Int.reduceToNat, mkE, mapSetE, hN, hF, ty_3, ty_4, ty_9, ty_22, ty_24, ty_26, ty_36, ty_37, ty_38, ty_39, ty_40, ty_41, ty_42, ty_43, ty_45, ty_46, ty_47, ty_48, ty_49, ty_50, ty_51, ty_52, ty_53, ty_55, ty_61, ty_76, ty_79, notIf, isEq, g8, e2, h1, h2, k1, k2, hk, hz, jr_length, hL, jr_succ, texts_length, keyI, kyR_length, AV.toPC]))
        refine ⟨roots.length - (i + 1), _, by omega, ?_, i + 1, by omega, rfl, rfl⟩
        rw [hns]
        simp only [runB, finC, finD, AS.get, AS.mem, false_implies, implies_true, ↓reduceIte, Nat.reduceEqDiff, Option.isSome_some, Option.isSome_none, forall_eq_or_imp, forall_eq, reduceCtorEq, Nat.reduceAdd, Nat.reduceMul, List.zip_cons_cons, List.zip_nil_left, List.zip_nil_right, List.forall_mem_nil, texts_length, jr_zero]
        first | done | simp
    · have g8 : decide ((i : Int) < (roots.length : Int)) = false := by simpa using hlt
      obtain rfl : i = roots.length := by omega
      simp only [runA, runB, runC, runD, runE, runF, fieldE, storeE, binE, ↓reduceIte, Nat.reduceLT, Nat.reduceLeDiff, Nat.reduceEqDiff, Nat.reduceAdd, Nat.reduceMul, Nat.reduceSub, reduceCtorEq, putAt, unE, Nat.reduceBEq, convE, buildE, List.replicate, Int.reduceLT, Int.reduceLE, Int.reduceToNat, mkE, mapSetE, hN, hF, ty_3, ty_4, ty_9, ty_22, ty_24, ty_26, ty_36, ty_37, ty_38, ty_39, ty_40, ty_41, ty_42, ty_43, ty_45, ty_46, ty_47, ty_48, ty_49, ty_50, ty_51, ty_52, ty_53, ty_55, ty_61, ty_76, ty_79, notIf, isEq, g8, ruls_length, texts_length]
      refine AWP.loop (fun k st => ∃ j : Nat, j ≤ l.length ∧ k = l.length - j ∧ st = ⟨[(0, .ptr 6400000 0), (64, .c (.sl (ruls l))), (65, .c (.int .i64 (l.length : Int))), (66, .c (.int .i64 (j : Int)))], [(6400000, .obj [.c (.int .i64 (roots.length : Int)), .c (.int .i64 q), .c (.int .i64 C), .c (.sl (ruls l)), .c (.sl (texts roots)), .own 6400006 1 (texts cls), .c (.int .i64 q), .c (.int .i64 4), .c (.int .i64 32), .c (.int .i64 0), .own 6400011 1 (jr roots.length), .own 6400012 1 (jr j), .mp 6400013, .own 6400014 3 ck, .c .junk, .c .junk, .c .junk, .c .junk, .c .junk, .c .junk, .c .junk, .c .junk, .c .junk, .c .junk, .c (.bool false), .c (.bool false)] false), (6400006, .row 1 (cls.length)), (6400011, .row 1 roots.length), (6400012, .row 1 j), (6400013, .mp ag es), (6400014, .row 3 ck.length)]⟩) ⟨l.length, _, ?w, 0, Nat.zero_le _, rfl, rfl⟩ ?r
      case w =>
        rw [hns]
        simp only [runB, finC, finD, AS.get, AS.mem, false_implies, implies_true, ↓reduceIte, Nat.reduceEqDiff, Option.isSome_some, Option.isSome_none, forall_eq_or_imp, forall_eq, reduceCtorEq, Nat.reduceAdd, Nat.reduceMul, List.zip_cons_cons, List.zip_nil_left, List.zip_nil_right, List.forall_mem_nil, texts_length, jr_zero]
        first | done | simp
      case r =>
        rintro k st ⟨j, hj, rfl, rfl⟩
        refine vc_sound hΓ mixed _ _ _ ?_
        by_cases hlt : j < l.length
        · have g9 : decide ((j : Int) < (l.length : Int)) = true := by simpa using hlt
          have e2 : IntKind.i64.wrap ((j : Int) + 1) = (j : Int) + 1 := wrapI (by omega)
          obtain ⟨x, y, hx⟩ : ∃ x y, l[j]? = some (x, y) := ⟨l[j].1, l[j].2, by simp [hlt]⟩
          have hxr : (ruls l)[j]? = some [.int .i64 x, .int .i64 y] := by simp [ruls, hx]
          have k3 := stN_at ⟨roots, cls, q⟩ x y CF (ru (x, y) (List.mem_of_getElem? hx))
          dsimp only at k3
          have hL : ((j + 1) * 8 ≤ 140737488355328) = True := eq_true (by omega)
          simp only [runA, runB, runC, runD, runE, runF, fieldE, storeE, binE, ↓reduceIte, Nat.reduceLT, Nat.reduceLeDiff, Nat.reduceEqDiff, Nat.reduceAdd, Nat.reduceMul, Nat.reduceSub, reduceCtorEq, putAt, unE, Nat.reduceBEq, convE, buildE, List.replicate, Int.reduceLT, Int.reduceLE, Int.reduceToNat, mkE, mapSetE, hN, hF, ty_3, ty_4, ty_9, ty_22, ty_24, ty_26, ty_36, ty_37, ty_38, ty_39, ty_40, ty_41, ty_42, ty_43, ty_45, ty_46, ty_47, ty_48, ty_49, ty_50, ty_51, ty_52, ty_53, ty_55, ty_61, ty_76, ty_79, notIf, isEq, g9, e2, h3, k3, hxr, hz, jr_length, hL, jr_succ, texts_length, AV.toPC]
          iterate 3 (try (refine drawnP_intro (by kernel_rfl) (by kernel_rfl) ?_; try simp only [runA, runB, runC, runD, runE, runF, fieldE, storeE, binE, ↓reduceIte, Nat.reduceLT, Nat.reduceLeDiff, Nat.reduceEqDiff, Nat.reduceAdd, Nat.reduceMul, Nat.reduceSub, reduceCtorEq, putAt, unE, Nat.reduceBEq, convE, buildE, List.replicate, Int.reduceLT, Int.reduceLE, Int.reduceToNat, mkE, mapSetE, hN, hF, ty_3, ty_4, ty_9, ty_22, ty_24, ty_26, ty_36, ty_37, ty_38, ty_39, ty_40, ty_41, ty_42, ty_43, ty_45, ty_46, ty_47, ty_48, ty_49, ty_50, ty_51, ty_52, ty_53, ty_55, ty_61, ty_76, ty_79, notIf, isEq, g9, e2, h3, k3, hxr, hz, jr_length, hL, jr_succ, texts_length, AV.toPC]))
          refine ⟨l.length - (j + 1), _, by omega, ?_, j + 1, by omega, rfl, rfl⟩
          rw [hns]
          simp only [runB, finC, finD, AS.get, AS.mem, false_implies, implies_true, ↓reduceIte, Nat.reduceEqDiff, Option.isSome_some, Option.isSome_none, forall_eq_or_imp, forall_eq, reduceCtorEq, Nat.reduceAdd, Nat.reduceMul, List.zip_cons_cons, List.zip_nil_left, List.zip_nil_right, List.forall_mem_nil, texts_length, jr_zero]
          first | done | simp
        · have g9 : decide ((j : Int) < (l.length : Int)) = false := by simpa using hlt
          obtain rfl : j = l.length := by omega
          simp only [runA, runB, runC, runD, runE, runF, fieldE, storeE, binE, ↓reduceIte, Nat.reduceLT, Nat.reduceLeDiff, Nat.reduceEqDiff, Nat.reduceAdd, Nat.reduceMul, Nat.reduceSub, reduceCtorEq, putAt, unE, Nat.reduceBEq, convE, buildE, List.replicate, Int.reduceLT, Int.reduceLE, Int.reduceToNat, mkE, mapSetE, hN, hF, ty_3, ty_4, ty_9, ty_22, ty_24, ty_26, ty_36, ty_37, ty_38, ty_39, ty_40, ty_41, ty_42, ty_43, ty_45, ty_46, ty_47, ty_48, ty_49, ty_50, ty_51, ty_52, ty_53, ty_55, ty_61, ty_76, ty_79, notIf, isEq, g9]
          simp only [runB, finC, finD, Option.isSome_some, Option.isSome_none, ↓reduceIte, Nat.reduceEqDiff, Nat.reduceAdd, Nat.reduceMul, forall_eq_or_imp, forall_eq, implies_true, Nat.reduceBEq, reduceCtorEq, false_implies, List.zip_cons_cons, List.zip_nil_left, List.zip_nil_right, Nat.reduceLeDiff, List.forall_mem_nil, rs_14, texts_length, jr_length]

end Go.Proofs.Ytofkehedjcinhaa.AM
