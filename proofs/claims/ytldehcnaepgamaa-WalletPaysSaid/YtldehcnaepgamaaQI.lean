/-
  QI: BvA Bv1 Bv2.
-/
import Derived.Test.YtldehcnaepgamaaQF
import Derived.Test.YtldehcnaepgamaaQG
import Derived.Test.YtldehcnaepgamaaQH
import Derived.Test.YtldehcnaepgamaaQE
set_option linter.unusedVariables false
set_option linter.unusedSimpArgs false
namespace Go.Proofs.Ytldehcnaepgamaa.AM
open Go

variable {Γ : FuncId → Contract}

set_option maxRecDepth 100000 in
set_option maxHeartbeats 4000000 in
theorem rTxVa_sound (hΓ : SoundG Try.prog Γ) (h1 : Γ 32 = txCkC) (h2 : Γ 33 = txTC) (h3 : Γ 77 = sverC) : SoundC Try.prog 36 txVaC := by
  refine sound_fn Try.func36 (by kernel_rfl) rfl rfl ?_
  intro args objs r0 hr
  obtain ⟨⟨t, roots⟩, hl, rfl, rfl, rfl⟩ := mkC_inv hr
  have hl : roots.length ≤ 9223372036854775807 := hl
  refine ⟨rfl, by show 2 ≤ _; decide, fun E hN hns hF => ?_⟩
  refine vc_sound hΓ mixed _ _ _ ?_
  have hN := hN.trans nt_36
  unfold Txn.av
  dsimp only
  have q1 := txCk_at t
  by_cases hk : okT t
  case neg =>
    rw [show txS t = 9 from if_neg hk] at q1
    have hS : validT t roots = false := by unfold validT; rw [decide_eq_false hk]; rfl
    have b0 : ((9 : Int) != 0) = true := rfl
    rw [hS]
    simp only [runA, runB, runC, runD, runE, runF, fieldE, storeE, binE, ↓reduceIte, Nat.reduceLT, Nat.reduceLeDiff, Nat.reduceEqDiff, Nat.reduceAdd, Nat.reduceMul, Nat.reduceSub, reduceCtorEq, putAt, unE, Nat.reduceBEq, convE, buildE, List.replicate, Int.reduceLT, Int.reduceLE, Int.reduceToNat, mkE, mapSetE, hN, hF, ty_3, ty_4, ty_5, ty_9, ty_22, ty_25, ty_54, notIf, isEq, h1, q1, b0]
    simp only [runB, finC, finD, Option.isSome_some, Option.isSome_none, ↓reduceIte, Nat.reduceEqDiff, Nat.reduceAdd, Nat.reduceMul, forall_eq_or_imp, forall_eq, implies_true, Nat.reduceBEq, reduceCtorEq, false_implies, List.zip_cons_cons, List.zip_nil_left, List.zip_nil_right, Nat.reduceLeDiff, List.forall_mem_nil, rs_36]
  rw [show txS t = 0 from if_pos hk] at q1
  have b0 : ((0 : Int) != 0) = false := rfl
  by_cases hf : t.fr < (roots.length : Int)
  case neg =>
    have hS : validT t roots = false := by unfold validT; rw [decide_eq_false hf, Bool.and_false]; rfl
    have g1 : decide (t.fr ≥ (roots.length : Int)) = true := by simp; omega
    rw [hS]
    simp only [runA, runB, runC, runD, runE, runF, fieldE, storeE, binE, ↓reduceIte, Nat.reduceLT, Nat.reduceLeDiff, Nat.reduceEqDiff, Nat.reduceAdd, Nat.reduceMul, Nat.reduceSub, reduceCtorEq, putAt, unE, Nat.reduceBEq, convE, buildE, List.replicate, Int.reduceLT, Int.reduceLE, Int.reduceToNat, mkE, mapSetE, hN, hF, ty_3, ty_4, ty_5, ty_9, ty_22, ty_25, ty_54, notIf, isEq, texts_length, h1, q1, b0, g1]
    simp only [runB, finC, finD, Option.isSome_some, Option.isSome_none, ↓reduceIte, Nat.reduceEqDiff, Nat.reduceAdd, Nat.reduceMul, forall_eq_or_imp, forall_eq, implies_true, Nat.reduceBEq, reduceCtorEq, false_implies, List.zip_cons_cons, List.zip_nil_left, List.zip_nil_right, Nat.reduceLeDiff, List.forall_mem_nil, rs_36]
  have g1 : decide (t.fr ≥ (roots.length : Int)) = false := by simp; omega
  have hS : validT t roots = (verS (roots.getD t.fr.toNat []) 2 (txT t) t.sig).2 := by unfold validT; rw [decide_eq_true hf, decide_eq_true hk]; simp
  rw [hS]
  obtain ⟨k0, hk3⟩ := hk.1
  have q2 := txT_at t
  have q3 := sver_at (roots.getD t.fr.toNat []) 2 (txT t) t.sig (by have := txT_len t; omega)
  have hg := textsD roots t.fr.toNat (by omega)
  have g0 : (0 ≤ t.fr) = True := eq_true k0
  generalize verS (roots.getD t.fr.toNat []) 2 (txT t) t.sig = vv at q3 ⊢
  generalize roots.getD t.fr.toNat [] = rt at q3 hg
  generalize txT t = tt at q2 q3
  simp only [runA, runB, runC, runD, runE, runF, fieldE, storeE, binE, ↓reduceIte, Nat.reduceLT, Nat.reduceLeDiff, Nat.reduceEqDiff, Nat.reduceAdd, Nat.reduceMul, Nat.reduceSub, reduceCtorEq, putAt, unE, Nat.reduceBEq, convE, buildE, List.replicate, Int.reduceLT, Int.reduceLE, Int.reduceToNat, mkE, mapSetE, hN, hF, ty_3, ty_4, ty_5, ty_9, ty_22, ty_25, ty_54, notIf, isEq, texts_length, h1, q1, b0, g0, g1, hg, h2, q2, h3, q3]
  refine drawnP_intro (by kernel_rfl) (by kernel_rfl) ?_
  simp only [runA, runB, runC, runD, runE, runF, fieldE, storeE, binE, ↓reduceIte, Nat.reduceLT, Nat.reduceLeDiff, Nat.reduceEqDiff, Nat.reduceAdd, Nat.reduceMul, Nat.reduceSub, reduceCtorEq, putAt, unE, Nat.reduceBEq, convE, buildE, List.replicate, Int.reduceLT, Int.reduceLE, Int.reduceToNat, mkE, mapSetE, hN, hF, ty_3, ty_4, ty_5, ty_9, ty_22, ty_25, ty_54, notIf, isEq]
  simp only [runB, finC, finD, Option.isSome_some, Option.isSome_none, ↓reduceIte, Nat.reduceEqDiff, Nat.reduceAdd, Nat.reduceMul, forall_eq_or_imp, forall_eq, implies_true, Nat.reduceBEq, reduceCtorEq, false_implies, List.zip_cons_cons, List.zip_nil_left, List.zip_nil_right, Nat.reduceLeDiff, List.forall_mem_nil, rs_36]

variable {Γ : FuncId → Contract}


set_option maxRecDepth 100000 in
set_option maxHeartbeats 4000000 in
theorem rTxT_sound (hΓ : SoundG Try.prog Γ) (h1 : Γ 32 = txCkC) (h2 : Γ 75 = rTxFC) : SoundC Try.prog 33 txTC := by
  refine sound_fn Try.func33 (by kernel_rfl) rfl rfl ?_
  intro args objs r0 hr
  obtain ⟨⟨fr, to, am, no, sig⟩, _, rfl, rfl, rfl⟩ := mkC_inv hr
  refine ⟨rfl, by show 1 ≤ _; decide, fun E hN hns hF => ?_⟩
  refine vc_sound hΓ mixed _ _ _ ?_
  have hN := hN.trans nt_33
  have q1 := txCk_at ⟨fr, to, am, no, sig⟩
  have q2 := rTxF_at ⟨[], 0⟩ fr to am no sig (by simp)
  have b9 : ((9 : Int) != 0) = true := rfl
  have b0 : ((0 : Int) != 0) = false := rfl
  unfold Txn.av
  dsimp only at q1 ⊢
  by_cases hk : okT ⟨fr, to, am, no, sig⟩
  · rw [show txS ⟨fr, to, am, no, sig⟩ = 0 from if_pos hk] at q1
    rw [show txT ⟨fr, to, am, no, sig⟩ = txB ⟨fr, to, am, no, sig⟩ from if_pos hk]
    rw [txF_ok hk (by simp), List.nil_append] at q2
    dsimp only at q2
    rw [show bytes [] = [] from rfl] at q2
    generalize bytes (txB ⟨fr, to, am, no, sig⟩) = B at q2 ⊢
    simp only [runA, runB, runC, runD, runE, runF, fieldE, storeE, binE, ↓reduceIte, Nat.reduceLT, Nat.reduceLeDiff, Nat.reduceEqDiff, Nat.reduceAdd, Nat.reduceMul, Nat.reduceSub, reduceCtorEq, putAt, unE, Nat.reduceBEq, convE, buildE, List.replicate, Int.reduceLT, Int.reduceLE, Int.reduceToNat, mkE, mapSetE, hN, hF, ty_3, ty_5, ty_9, ty_25, ty_54, ty_119, notIf, isEq, h1, q1, b0, h2, q2]
    simp only [runB, finC, finD, Option.isSome_some, Option.isSome_none, ↓reduceIte, Nat.reduceEqDiff, Nat.reduceAdd, Nat.reduceMul, forall_eq_or_imp, forall_eq, implies_true, Nat.reduceBEq, reduceCtorEq, false_implies, List.zip_cons_cons, List.zip_nil_left, List.zip_nil_right, Nat.reduceLeDiff, List.forall_mem_nil, rs_33, ty_3, ty_5, ty_9, ty_25, ty_54, ty_119]
  · rw [show txS ⟨fr, to, am, no, sig⟩ = 9 from if_neg hk] at q1
    rw [show txT ⟨fr, to, am, no, sig⟩ = [] from if_neg hk, show bytes [] = [] from rfl]
    simp only [runA, runB, runC, runD, runE, runF, fieldE, storeE, binE, ↓reduceIte, Nat.reduceLT, Nat.reduceLeDiff, Nat.reduceEqDiff, Nat.reduceAdd, Nat.reduceMul, Nat.reduceSub, reduceCtorEq, putAt, unE, Nat.reduceBEq, convE, buildE, List.replicate, Int.reduceLT, Int.reduceLE, Int.reduceToNat, mkE, mapSetE, hN, hF, ty_3, ty_5, ty_9, ty_25, ty_54, ty_119, notIf, isEq, h1, q1, b9]
    simp only [runB, finC, finD, Option.isSome_some, Option.isSome_none, ↓reduceIte, Nat.reduceEqDiff, Nat.reduceAdd, Nat.reduceMul, forall_eq_or_imp, forall_eq, implies_true, Nat.reduceBEq, reduceCtorEq, false_implies, List.zip_cons_cons, List.zip_nil_left, List.zip_nil_right, Nat.reduceLeDiff, List.forall_mem_nil, rs_33, ty_3, ty_5, ty_9, ty_25, ty_54, ty_119]

variable {Γ : FuncId → Contract}


theorem getB2 (a b : UInt8) : getB [a, b] = (a.toNat : Int) * 256 + (b.toNat : Int) := by
  have := a.toNat_lt
  have := b.toNat_lt
  unfold getB
  simp only [List.foldl_cons, List.foldl_nil]
  omega

set_option maxRecDepth 100000 in
set_option maxHeartbeats 4000000 in
theorem rVer_sound (hΓ : SoundG Try.prog Γ) (h4 : Γ 117 = opnC) (h5 : Γ 116 = climbC) : SoundC Try.prog 77 sverC := by
  refine sound_fn Try.func77 (by kernel_rfl) rfl rfl ?_
  intro args objs r0 hr
  obtain ⟨⟨root, h, text, sig⟩, hl, rfl, rfl, rfl⟩ := mkC_inv hr
  refine ⟨rfl, by show 4 ≤ _; decide, fun E hN hns hF => ?_⟩
  refine vc_sound hΓ mixed _ _ _ ?_
  have hN := hN.trans nt_77
  have hl : text.length ≤ 1099511627776 := hl
  dsimp only
  by_cases c0 : 0 ≤ h ∧ h ≤ 4 ∧ (sig.length : Int) = 90 + 8 * h
  case neg =>
    have hS : verS root h text sig = (0, false) := if_pos (by
      unfold sizeS
      split
      · exact .inl rfl
      · rename_i hc
        exact .inr (by intro e; exact c0 ⟨by omega, by omega, by omega⟩))
    rw [hS]
    by_cases c1 : h < 0
    · have g1 : decide (h < 0) = true := decide_eq_true c1
      simp only [runA, runB, runC, runD, runE, runF, fieldE, storeE, binE, ↓reduceIte, Nat.reduceLT, Nat.reduceLeDiff, Nat.reduceEqDiff, Nat.reduceAdd, Nat.reduceMul, Nat.reduceSub, reduceCtorEq, putAt, unE, Nat.reduceBEq, convE, buildE, List.replicate, Int.reduceLT, Int.reduceLE, Int.reduceToNat, mkE, mapSetE, hN, hF, ty_3, ty_4, ty_5, ty_9, ty_22, ty_25, ty_46, notIf, isEq, g1]
      simp only [runB, finC, finD, Option.isSome_some, Option.isSome_none, ↓reduceIte, Nat.reduceEqDiff, Nat.reduceAdd, Nat.reduceMul, forall_eq_or_imp, forall_eq, implies_true, Nat.reduceBEq, reduceCtorEq, false_implies, List.zip_cons_cons, List.zip_nil_left, List.zip_nil_right, Nat.reduceLeDiff, List.forall_mem_nil, rs_77, ty_3, ty_4, ty_5, ty_9, ty_22, ty_25, ty_46]
    have g1 : decide (h < 0) = false := decide_eq_false c1
    by_cases c2 : h > 4
    · have g2 : decide (h > 4) = true := decide_eq_true c2
      simp only [runA, runB, runC, runD, runE, runF, fieldE, storeE, binE, ↓reduceIte, Nat.reduceLT, Nat.reduceLeDiff, Nat.reduceEqDiff, Nat.reduceAdd, Nat.reduceMul, Nat.reduceSub, reduceCtorEq, putAt, unE, Nat.reduceBEq, convE, buildE, List.replicate, Int.reduceLT, Int.reduceLE, Int.reduceToNat, mkE, mapSetE, hN, hF, ty_3, ty_4, ty_5, ty_9, ty_22, ty_25, ty_46, notIf, isEq, g1, g2]
      simp only [runB, finC, finD, Option.isSome_some, Option.isSome_none, ↓reduceIte, Nat.reduceEqDiff, Nat.reduceAdd, Nat.reduceMul, forall_eq_or_imp, forall_eq, implies_true, Nat.reduceBEq, reduceCtorEq, false_implies, List.zip_cons_cons, List.zip_nil_left, List.zip_nil_right, Nat.reduceLeDiff, List.forall_mem_nil, rs_77, ty_3, ty_4, ty_5, ty_9, ty_22, ty_25, ty_46]
    have g2 : decide (h > 4) = false := decide_eq_false c2
    have e1 : IntKind.i64.wrap (8 * h) = 8 * h := wrapI (by omega)
    have e2 : IntKind.i64.wrap (90 + 8 * h) = 90 + 8 * h := wrapI (by omega)
    have g3 : ((sig.length : Int) != 90 + 8 * h) = true := by rw [bne_iff_ne]; omega
    simp only [runA, runB, runC, runD, runE, runF, fieldE, storeE, binE, ↓reduceIte, Nat.reduceLT, Nat.reduceLeDiff, Nat.reduceEqDiff, Nat.reduceAdd, Nat.reduceMul, Nat.reduceSub, reduceCtorEq, putAt, unE, Nat.reduceBEq, convE, buildE, List.replicate, Int.reduceLT, Int.reduceLE, Int.reduceToNat, mkE, mapSetE, hN, hF, ty_3, ty_4, ty_5, ty_9, ty_22, ty_25, ty_46, notIf, isEq, g1, g2, e1, e2, g3]
    simp only [runB, finC, finD, Option.isSome_some, Option.isSome_none, ↓reduceIte, Nat.reduceEqDiff, Nat.reduceAdd, Nat.reduceMul, forall_eq_or_imp, forall_eq, implies_true, Nat.reduceBEq, reduceCtorEq, false_implies, List.zip_cons_cons, List.zip_nil_left, List.zip_nil_right, Nat.reduceLeDiff, List.forall_mem_nil, rs_77, ty_3, ty_4, ty_5, ty_9, ty_22, ty_25, ty_46]
  obtain ⟨hh0, hh4, hsz⟩ := c0
  obtain ⟨H, rfl⟩ : ∃ H : Nat, h = (H : Int) := ⟨h.toNat, by omega⟩
  have hH : H ≤ 4 := by omega
  have hsl : sig.length = 90 + 8 * H := by omega
  have g1 : decide ((H : Int) < 0) = false := decide_eq_false (by omega)
  have g2 : decide ((H : Int) > 4) = false := decide_eq_false (by omega)
  have e1 : IntKind.i64.wrap (8 * (H : Int)) = 8 * (H : Int) := wrapI (by omega)
  have e2 : IntKind.i64.wrap (90 + 8 * (H : Int)) = 90 + 8 * (H : Int) := wrapI (by omega)
  have g3 : ((sig.length : Int) != 90 + 8 * (H : Int)) = false := by rw [hsz, bne_self_eq_false]
  clear hr
  obtain ⟨a, b, sd, rfl⟩ : ∃ a b sd, sig = a :: b :: sd := by
    cases sig with
    | nil => simp at hsl; omega
    | cons a s =>
      cases s with
      | nil => simp at hsl; omega
      | cons b sd => exact ⟨a, b, sd, rfl⟩
  have i0 : (a :: b :: sd)[0]? = some a := rfl
  have i1 : (a :: b :: sd)[1]? = some b := rfl
  have t2 : getB ((a :: b :: sd).take 2) = (a.toNat : Int) * 256 + (b.toNat : Int) := getB2 a b
  generalize hsg : a :: b :: sd = sig at hsz hsl g3 i0 i1 t2 ⊢
  have ha := a.toNat_lt
  have hb := b.toNat_lt
  have w0 : IntKind.i64.wrap (a.toNat : Int) = (a.toNat : Int) := wrapI (by omega)
  have w1 : IntKind.i64.wrap (b.toNat : Int) = (b.toNat : Int) := wrapI (by omega)
  have w2 : IntKind.i64.wrap ((a.toNat : Int) * 256) = (a.toNat : Int) * 256 := wrapI (by omega)
  have w3 : IntKind.i64.wrap ((a.toNat : Int) * 256 + (b.toNat : Int)) = (a.toNat : Int) * 256 + (b.toNat : Int) := wrapI (by omega)
  simp only [runA, runB, runC, runD, runE, runF, fieldE, storeE, binE, ↓reduceIte, Nat.reduceLT, Nat.reduceLeDiff, Nat.reduceEqDiff, Nat.reduceAdd, Nat.reduceMul, Nat.reduceSub, reduceCtorEq, putAt, unE, Nat.reduceBEq, convE, buildE, List.replicate, Int.reduceLT, Int.reduceLE, Int.reduceToNat, mkE, mapSetE, hN, hF, ty_3, ty_4, ty_5, ty_9, ty_22, ty_25, ty_46, notIf, isEq, g1, g2, e1, e2, g3, i0, i1, w0, w1, w2, w3]
  refine drawnP_intro (by kernel_rfl) (by kernel_rfl) ?_
  simp only [runA, runB, runC, runD, runE, runF, fieldE, storeE, binE, ↓reduceIte, Nat.reduceLT, Nat.reduceLeDiff, Nat.reduceEqDiff, Nat.reduceAdd, Nat.reduceMul, Nat.reduceSub, reduceCtorEq, putAt, unE, Nat.reduceBEq, convE, buildE, List.replicate, Int.reduceLT, Int.reduceLE, Int.reduceToNat, mkE, mapSetE, hN, hF, ty_3, ty_4, ty_5, ty_9, ty_22, ty_25, ty_46, notIf, isEq, g1, g2, e1, e2, g3, i0, i1, w0, w1, w2, w3]
  rw [← t2]
  have hdl : (sig.drop 2).length = 88 + 8 * H := by rw [List.length_drop]; omega
  have hcl := fun i => chk_length (sig.drop 2) i
  refine AWP.loop (fun k st => ∃ i : Nat, i ≤ 11 + H ∧ k = 11 + H - i ∧ st = ⟨[(0, .c (.str root)), (1, .c (.int .i64 (H : Int))), (2, .c (.sl (bytes text))), (3, .c (.str sig)), (10, .c (.int .i64 (getB (sig.take 2)))), (11, .own 3073 1 (texts (chk (sig.drop 2) i))), (12, .c (.int .i64 (2 + 8 * (i : Int))))], [(3073, .row 1 i)]⟩) ⟨11 + H, _, ?w, 0, Nat.zero_le _, rfl, rfl⟩ ?r
  case w =>
    have z1 : texts (chk (sig.drop 2) 0) = [] := rfl
    have z2 : (2 + 8 * ((0 : Nat) : Int)) = 2 := rfl
    rw [hns]
    simp only [runB, finC, finD, AS.get, AS.mem, false_implies, implies_true, ↓reduceIte, Nat.reduceEqDiff, Option.isSome_some, Option.isSome_none, forall_eq_or_imp, forall_eq, reduceCtorEq, Nat.reduceAdd, Nat.reduceMul, List.zip_cons_cons, List.zip_nil_left, List.zip_nil_right, List.forall_mem_nil, z1, z2]
    first | done | simp
  case r =>
    rintro k st ⟨i, hi, rfl, rfl⟩
    refine vc_sound hΓ mixed _ _ _ ?_
    by_cases hlt : i < 11 + H
    · have k1 : decide (2 + 8 * (i : Int) < (sig.length : Int)) = true := decide_eq_true (by omega)
      have x1 : IntKind.i64.wrap (2 + 8 * (i : Int) + 8) = 2 + 8 * ((i + 1 : Nat) : Int) := by rw [wrapI (by omega)]; omega
      have x2 : ((0 : Int) ≤ 2 + 8 * (i : Int)) = True := eq_true (by omega)
      have x3 : (2 + 8 * (i : Int) ≤ 2 + 8 * ((i + 1 : Nat) : Int)) = True := eq_true (by omega)
      have x4 : (2 + 8 * ((i + 1 : Nat) : Int) ≤ (sig.length : Int)) = True := eq_true (by omega)
      have x5 : (2 + 8 * (i : Int)).toNat = 2 + 8 * i := by omega
      have x6 : (2 + 8 * ((i + 1 : Nat) : Int)).toNat = 2 + 8 * i + 8 := by omega
      have x7 : (sig.take (2 + 8 * i + 8)).drop (2 + 8 * i) = ((sig.drop 2).drop (8 * i)).take 8 := by
        rw [List.drop_take, List.drop_drop, Nat.add_sub_cancel_left]
      have hsucc := chk_succ (sig.drop 2) i
      have hz := rowsOK_texts
      have hL : ((i + 1) * 16 ≤ 140737488355328) = True := eq_true (by omega)
      simp only [runA, runB, runC, runD, runE, runF, fieldE, storeE, binE, ↓reduceIte, Nat.reduceLT, Nat.reduceLeDiff, Nat.reduceEqDiff, Nat.reduceAdd, Nat.reduceMul, Nat.reduceSub, reduceCtorEq, putAt, unE, Nat.reduceBEq, convE, buildE, List.replicate, Int.reduceLT, Int.reduceLE, Int.reduceToNat, mkE, mapSetE, hN, hF, ty_3, ty_4, ty_5, ty_9, ty_22, ty_25, ty_46, notIf, isEq, sliceE, boundE, k1, x1, x2, x3, x4, x5, x6, x7, texts1, texts_app, ← hsucc, hz, hL, texts_length, hcl]
      refine ⟨11 + H - (i + 1), _, by omega, ?_, i + 1, by omega, rfl, rfl⟩
      rw [hns]
      simp only [runB, finC, finD, AS.get, AS.mem, false_implies, implies_true, ↓reduceIte, Nat.reduceEqDiff, Option.isSome_some, Option.isSome_none, forall_eq_or_imp, forall_eq, reduceCtorEq, Nat.reduceAdd, Nat.reduceMul, List.zip_cons_cons, List.zip_nil_left, List.zip_nil_right, List.forall_mem_nil]
      first | done | simp
    · obtain rfl : i = 11 + H := by omega
      have k1 : decide (2 + 8 * ((11 + H : Nat) : Int) < (sig.length : Int)) = false := decide_eq_false (by omega)
      have hok := chk_ok (sig.drop 2) (11 + H) (by omega)
      have hcl := chk_length (sig.drop 2) (11 + H)
      have hgl := getB_lt (sig.take 2)
      have hg0 := getB_nonneg (sig.take 2)
      have es := shl_pow H hH
      have eu : IntKind.u64.wrap (H : Int) = (H : Int) := by
        have : H = 0 ∨ H = 1 ∨ H = 2 ∨ H = 3 ∨ H = 4 := by omega
        rcases this with rfl | rfl | rfl | rfl | rfl <;> rfl
      have hsS : sizeS (H : Int) = 90 + 8 * (H : Int) := by
        unfold sizeS
        rw [if_neg (by omega)]
        first | done | omega
      have hV : verS root (H : Int) text sig = if getB (sig.take 2) ≥ ((2 ^ H : Nat) : Int) ∨ climbS (opnS text ((chk (sig.drop 2) (11 + H)).take 11)) (getB (sig.take 2)).toNat ((chk (sig.drop 2) (11 + H)).drop 11) ≠ root then (0, false) else (getB (sig.take 2), true) := by
        unfold verS
        rw [if_neg (by rw [hsS]; omega), Int.toNat_natCast]
      rw [hV]
      generalize chk (sig.drop 2) (11 + H) = L at hcl hok ⊢
      generalize getB (sig.take 2) = lf at hgl hg0 ⊢
      have hz := rowsOK_texts
      have d3 : ((0 : Int) ≤ 11) = True := eq_true (by decide)
      have d3' : (((0 : Nat) : Int) ≤ 11) = True := eq_true (by decide)
      have d4 : ((11 : Int) ≤ ((11 + H : Nat) : Int)) = True := eq_true (by omega)
      have htk : (texts L).take (11 + H) = texts L := by rw [← hcl, ← texts_length L, List.take_length]
      have htt := texts_takeS L 11
      have htd := texts_dropS L 11
      have q4 := opn_at text (L.take 11) hl
      have q5 := climb_at (opnS text (L.take 11)) lf (L.drop 11) ⟨Nat.le_trans (opnS_le _ _) (by decide), by show lf < _; omega, hok⟩
      rw [show (max lf 0) = lf from by omega] at q5
      by_cases c3 : lf ≥ ((2 ^ H : Nat) : Int)
      · have g5 : decide (lf ≥ ((2 ^ H : Nat) : Int)) = true := by simpa using c3
        rw [if_pos (.inl c3)]
        simp only [runA, runB, runC, runD, runE, runF, fieldE, storeE, binE, ↓reduceIte, Nat.reduceLT, Nat.reduceLeDiff, Nat.reduceEqDiff, Nat.reduceAdd, Nat.reduceMul, Nat.reduceSub, reduceCtorEq, putAt, unE, Nat.reduceBEq, convE, buildE, List.replicate, Int.reduceLT, Int.reduceLE, Int.reduceToNat, mkE, mapSetE, hN, hF, ty_3, ty_4, ty_5, ty_9, ty_22, ty_25, ty_46, notIf, isEq, sliceE, boundE, k1, eu, es, g5]
        refine drawnP_intro (by kernel_rfl) (by kernel_rfl) ?_
        simp only [runA, runB, runC, runD, runE, runF, fieldE, storeE, binE, ↓reduceIte, Nat.reduceLT, Nat.reduceLeDiff, Nat.reduceEqDiff, Nat.reduceAdd, Nat.reduceMul, Nat.reduceSub, reduceCtorEq, putAt, unE, Nat.reduceBEq, convE, buildE, List.replicate, Int.reduceLT, Int.reduceLE, Int.reduceToNat, mkE, mapSetE, hN, hF, ty_3, ty_4, ty_5, ty_9, ty_22, ty_25, ty_46, notIf, isEq, sliceE, boundE, k1, eu, es, g5]
        all_goals (simp only [runB, finC, finD, Option.isSome_some, Option.isSome_none, ↓reduceIte, Nat.reduceEqDiff, Nat.reduceAdd, Nat.reduceMul, forall_eq_or_imp, forall_eq, implies_true, Nat.reduceBEq, reduceCtorEq, false_implies, List.zip_cons_cons, List.zip_nil_left, List.zip_nil_right, Nat.reduceLeDiff, List.forall_mem_nil, rs_77, ty_3, ty_4, ty_5, ty_9, ty_22, ty_25, ty_46])
      have g5 : decide (lf ≥ ((2 ^ H : Nat) : Int)) = false := by simpa using c3
      generalize climbS (opnS text (L.take 11)) lf.toNat (L.drop 11) = rt at q5 ⊢
      generalize opnS text (L.take 11) = op at q4 q5
      by_cases c4 : rt = root
      · have g4 : (rt == root) = true := by simpa using c4
        rw [if_neg (by rintro (h | h); exact c3 h; exact h c4)]
        simp only [runA, runB, runC, runD, runE, runF, fieldE, storeE, binE, ↓reduceIte, Nat.reduceLT, Nat.reduceLeDiff, Nat.reduceEqDiff, Nat.reduceAdd, Nat.reduceMul, Nat.reduceSub, reduceCtorEq, putAt, unE, Nat.reduceBEq, convE, buildE, List.replicate, Int.reduceLT, Int.reduceLE, Int.reduceToNat, mkE, mapSetE, hN, hF, ty_3, ty_4, ty_5, ty_9, ty_22, ty_25, ty_46, notIf, isEq, sliceE, boundE, k1, eu, es, g5, d3, d3', d4, hz, texts_length, hcl, htt, htd, htk, h4, q4, h5, q5, g4, Int.le_refl, List.drop_zero]
        refine drawnP_intro (by kernel_rfl) (by kernel_rfl) ?_
        simp only [runA, runB, runC, runD, runE, runF, fieldE, storeE, binE, ↓reduceIte, Nat.reduceLT, Nat.reduceLeDiff, Nat.reduceEqDiff, Nat.reduceAdd, Nat.reduceMul, Nat.reduceSub, reduceCtorEq, putAt, unE, Nat.reduceBEq, convE, buildE, List.replicate, Int.reduceLT, Int.reduceLE, Int.reduceToNat, mkE, mapSetE, hN, hF, ty_3, ty_4, ty_5, ty_9, ty_22, ty_25, ty_46, notIf, isEq, sliceE, boundE, k1, eu, es, g5, d3, d3', d4, hz, texts_length, hcl, htt, htd, htk, h4, q4, h5, q5, g4, Int.le_refl, List.drop_zero]
        simp only [runB, finC, finD, Option.isSome_some, Option.isSome_none, ↓reduceIte, Nat.reduceEqDiff, Nat.reduceAdd, Nat.reduceMul, forall_eq_or_imp, forall_eq, implies_true, Nat.reduceBEq, reduceCtorEq, false_implies, List.zip_cons_cons, List.zip_nil_left, List.zip_nil_right, Nat.reduceLeDiff, List.forall_mem_nil, rs_77, ty_3, ty_4, ty_5, ty_9, ty_22, ty_25, ty_46]
      · have g4 : (rt == root) = false := by simpa using c4
        rw [if_pos (.inr c4)]
        simp only [runA, runB, runC, runD, runE, runF, fieldE, storeE, binE, ↓reduceIte, Nat.reduceLT, Nat.reduceLeDiff, Nat.reduceEqDiff, Nat.reduceAdd, Nat.reduceMul, Nat.reduceSub, reduceCtorEq, putAt, unE, Nat.reduceBEq, convE, buildE, List.replicate, Int.reduceLT, Int.reduceLE, Int.reduceToNat, mkE, mapSetE, hN, hF, ty_3, ty_4, ty_5, ty_9, ty_22, ty_25, ty_46, notIf, isEq, sliceE, boundE, k1, eu, es, g5, d3, d3', d4, hz, texts_length, hcl, htt, htd, htk, h4, q4, h5, q5, g4, Int.le_refl, List.drop_zero]
        refine drawnP_intro (by kernel_rfl) (by kernel_rfl) ?_
        simp only [runA, runB, runC, runD, runE, runF, fieldE, storeE, binE, ↓reduceIte, Nat.reduceLT, Nat.reduceLeDiff, Nat.reduceEqDiff, Nat.reduceAdd, Nat.reduceMul, Nat.reduceSub, reduceCtorEq, putAt, unE, Nat.reduceBEq, convE, buildE, List.replicate, Int.reduceLT, Int.reduceLE, Int.reduceToNat, mkE, mapSetE, hN, hF, ty_3, ty_4, ty_5, ty_9, ty_22, ty_25, ty_46, notIf, isEq, sliceE, boundE, k1, eu, es, g5, d3, d3', d4, hz, texts_length, hcl, htt, htd, htk, h4, q4, h5, q5, g4, Int.le_refl, List.drop_zero]
        simp only [runB, finC, finD, Option.isSome_some, Option.isSome_none, ↓reduceIte, Nat.reduceEqDiff, Nat.reduceAdd, Nat.reduceMul, forall_eq_or_imp, forall_eq, implies_true, Nat.reduceBEq, reduceCtorEq, false_implies, List.zip_cons_cons, List.zip_nil_left, List.zip_nil_right, Nat.reduceLeDiff, List.forall_mem_nil, rs_77, ty_3, ty_4, ty_5, ty_9, ty_22, ty_25, ty_46]

end Go.Proofs.Ytldehcnaepgamaa.AM
