/-
  QI: Dt7.
-/
import Derived.Test.YtcfijanfcgnnhaaQH
set_option linter.unusedVariables false
set_option linter.unusedSimpArgs false
namespace Go.Proofs.Ytcfijanfcgnnhaa.AM
open Go

variable {Γ : FuncId → Contract}


set_option maxRecDepth 100000 in
set_option maxHeartbeats 40000000 in
theorem dtl_sound (hΓ : SoundG Try.prog Γ) (h1 : Γ 9 = alive39C) (h2 : Γ 21 = dvC) (h3 : Γ 22 = dtC) (h4 : Γ 23 = dmC) (h5 : Γ 24 = voCkC) (h6 : Γ 25 = dec13C) (h7 : Γ 26 = hexC) (h8 : Γ 27 = txCkC) (h9 : Γ 28 = num39C) (h10 : Γ 11 = hexC) : SoundC Try.prog 5 dtlC := by
  refine sound_fn Try.func5 (by kernel_rfl) rfl rfl ?_
  intro args objs r0 hr
  obtain ⟨⟨⟨kd, vw, ht, bl, tk, sg, sig⟩, ⟨fr, to1, am, no, tsig⟩, ⟨mv, mh, mb⟩, s⟩, hs, rfl, rfl, rfl⟩ := mkC_inv hr
  refine ⟨rfl, by show 4 ≤ _; decide, fun E hN hns hF => ?_⟩
  refine vc_sound hΓ mixed _ _ _ ?_
  have hN := hN.trans nt_5
  have hs : s.length ≤ 17592186044416 := hs
  have qa : alive39C [] [] = some ⟨[.pv (.c (.bool true))], []⟩ := rfl
  have q3 := dv_at ⟨kd, vw, ht, bl, tk, sg, sig⟩
  have q4 := dt_at ⟨fr, to1, am, no, tsig⟩
  have q5 := dm_at ⟨mv, mh, mb⟩
  have q7 := voCk_at ⟨kd, vw, ht, bl, tk, sg, sig⟩
  have q8 := txCk_at ⟨fr, to1, am, no, tsig⟩
  have qs := hex_at s hs
  generalize hexS s = HS at qs
  have hbs : ∀ x : List UInt8, (x == x) = true := fun x => by simp
  have i0 : ((0 : Int) == 0) = true := rfl
  have i9 : ((9 : Int) == 9) = true := rfl
  have i90 : ((9 : Int) == 0) = false := rfl
  have j4 : ((4 : Int) == 4) = true := rfl
  have j5 : ((5 : Int) == 5) = true := rfl
  have j0 : ((0 : Int) != 0) = false := rfl
  have hm : (mkErr ⟨mv, mh, mb⟩ = 4 ∧ decide (mv < 0) = true) ∨ (mkErr ⟨mv, mh, mb⟩ = 4 ∧ decide (mv < 0) = false ∧ decide (mv > 1099511627776) = true) ∨ (mkErr ⟨mv, mh, mb⟩ = 4 ∧ decide (mv < 0) = false ∧ decide (mv > 1099511627776) = false ∧ decide (mh < 0) = true) ∨
      (mkErr ⟨mv, mh, mb⟩ = 4 ∧ decide (mv < 0) = false ∧ decide (mv > 1099511627776) = false ∧ decide (mh < 0) = false ∧ decide (mh > 1099511627776) = true) ∨
      (mkErr ⟨mv, mh, mb⟩ = 5 ∧ decide (mv < 0) = false ∧ decide (mv > 1099511627776) = false ∧ decide (mh < 0) = false ∧ decide (mh > 1099511627776) = false ∧ decide ((mb.length : Int) > 4096) = true) ∨
      (mkErr ⟨mv, mh, mb⟩ = 0 ∧ decide (mv < 0) = false ∧ decide (mv > 1099511627776) = false ∧ decide (mh < 0) = false ∧ decide (mh > 1099511627776) = false ∧ decide ((mb.length : Int) > 4096) = false ∧ (0 ≤ mv ∧ mv ≤ 1099511627776) ∧ (0 ≤ mh ∧ mh ≤ 1099511627776)) := by
    unfold mkErr
    simp only [decide_eq_true_eq, decide_eq_false_iff_not]
    split
    · omega
    · split <;> omega
  unfold Vt.av at q3 ⊢
  unfold Txn.av at q4 ⊢
  unfold Mk.av at q5 ⊢
  dsimp only at q3 q4 q5 q7 q8 ⊢
  by_cases hv : okV ⟨kd, vw, ht, bl, tk, sg, sig⟩
  · rw [show voS ⟨kd, vw, ht, bl, tk, sg, sig⟩ = 0 from if_pos hv] at q3 q7
    rw [if_pos hv] at q3
    obtain ⟨r1, r2, r3, r4, r5, r6, r7⟩ := okV_all hv
    dsimp only at r1 r2 r3 r4 r5 r6 r7
    have a1 := dec13_at kd r1.1 r1.2
    have a2 := dec13_at vw r2.1 r2.2
    have a3 := dec13_at ht r3.1 r3.2
    have a4 := dec13_at tk r4.1 r4.2
    have a5 := dec13_at sg r5.1 r5.2
    have a6 := hex_at bl (by omega)
    have a7 := hex_at sig (by omega)
    have n1 := decS_len r1
    have n2 := decS_len r2
    have n3 := decS_len r3
    have n4 := decS_len r4
    have n5 := decS_len r5
    have n6 := hexS_length bl
    have n7 := hexS_length sig
    have hv0 : ((0 : Int) == 0) = true := rfl
    unfold lineV at q3
    dsimp only at q3
    generalize decS kd = d1 at *
    generalize decS vw = d2 at *
    generalize decS ht = d3 at *
    generalize decS tk = d4 at *
    generalize decS sg = d5 at *
    generalize hexS bl = H1 at *
    generalize hexS sig = H2 at *
    have cv0 : (([118, 111, 116, 101, 32] : List UInt8).length + (d1 : List UInt8).length ≤ 9223372036854775807) := by simp only [List.length_append, List.length_cons, List.length_nil]; omega
    simp only [runA, runB, runC, runD, runE, runF, fieldE, storeE, binE, ↓reduceIte, Nat.reduceLT, Nat.reduceLeDiff, Nat.reduceEqDiff, Nat.reduceAdd, Nat.reduceMul, Nat.reduceSub, reduceCtorEq, putAt, unE, Nat.reduceBEq, convE, buildE, List.replicate, Int.reduceLT, Int.reduceLE, Int.reduceToNat, mkE, mapSetE] at cv0
    have cv1 : ((([118, 111, 116, 101, 32] ++ d1) : List UInt8).length + ([32] : List UInt8).length ≤ 9223372036854775807) := by simp only [List.length_append, List.length_cons, List.length_nil]; omega
    simp only [runA, runB, runC, runD, runE, runF, fieldE, storeE, binE, ↓reduceIte, Nat.reduceLT, Nat.reduceLeDiff, Nat.reduceEqDiff, Nat.reduceAdd, Nat.reduceMul, Nat.reduceSub, reduceCtorEq, putAt, unE, Nat.reduceBEq, convE, buildE, List.replicate, Int.reduceLT, Int.reduceLE, Int.reduceToNat, mkE, mapSetE] at cv1
    have cv2 : (((([118, 111, 116, 101, 32] ++ d1) ++ [32]) : List UInt8).length + (d2 : List UInt8).length ≤ 9223372036854775807) := by simp only [List.length_append, List.length_cons, List.length_nil]; omega
    simp only [runA, runB, runC, runD, runE, runF, fieldE, storeE, binE, ↓reduceIte, Nat.reduceLT, Nat.reduceLeDiff, Nat.reduceEqDiff, Nat.reduceAdd, Nat.reduceMul, Nat.reduceSub, reduceCtorEq, putAt, unE, Nat.reduceBEq, convE, buildE, List.replicate, Int.reduceLT, Int.reduceLE, Int.reduceToNat, mkE, mapSetE] at cv2
    have cv3 : ((((([118, 111, 116, 101, 32] ++ d1) ++ [32]) ++ d2) : List UInt8).length + ([32] : List UInt8).length ≤ 9223372036854775807) := by simp only [List.length_append, List.length_cons, List.length_nil]; omega
    simp only [runA, runB, runC, runD, runE, runF, fieldE, storeE, binE, ↓reduceIte, Nat.reduceLT, Nat.reduceLeDiff, Nat.reduceEqDiff, Nat.reduceAdd, Nat.reduceMul, Nat.reduceSub, reduceCtorEq, putAt, unE, Nat.reduceBEq, convE, buildE, List.replicate, Int.reduceLT, Int.reduceLE, Int.reduceToNat, mkE, mapSetE] at cv3
    have cv4 : (((((([118, 111, 116, 101, 32] ++ d1) ++ [32]) ++ d2) ++ [32]) : List UInt8).length + (d3 : List UInt8).length ≤ 9223372036854775807) := by simp only [List.length_append, List.length_cons, List.length_nil]; omega
    simp only [runA, runB, runC, runD, runE, runF, fieldE, storeE, binE, ↓reduceIte, Nat.reduceLT, Nat.reduceLeDiff, Nat.reduceEqDiff, Nat.reduceAdd, Nat.reduceMul, Nat.reduceSub, reduceCtorEq, putAt, unE, Nat.reduceBEq, convE, buildE, List.replicate, Int.reduceLT, Int.reduceLE, Int.reduceToNat, mkE, mapSetE] at cv4
    have cv5 : ((((((([118, 111, 116, 101, 32] ++ d1) ++ [32]) ++ d2) ++ [32]) ++ d3) : List UInt8).length + ([32] : List UInt8).length ≤ 9223372036854775807) := by simp only [List.length_append, List.length_cons, List.length_nil]; omega
    simp only [runA, runB, runC, runD, runE, runF, fieldE, storeE, binE, ↓reduceIte, Nat.reduceLT, Nat.reduceLeDiff, Nat.reduceEqDiff, Nat.reduceAdd, Nat.reduceMul, Nat.reduceSub, reduceCtorEq, putAt, unE, Nat.reduceBEq, convE, buildE, List.replicate, Int.reduceLT, Int.reduceLE, Int.reduceToNat, mkE, mapSetE] at cv5
    have cv6 : (((((((([118, 111, 116, 101, 32] ++ d1) ++ [32]) ++ d2) ++ [32]) ++ d3) ++ [32]) : List UInt8).length + (H1 : List UInt8).length ≤ 9223372036854775807) := by simp only [List.length_append, List.length_cons, List.length_nil]; omega
    simp only [runA, runB, runC, runD, runE, runF, fieldE, storeE, binE, ↓reduceIte, Nat.reduceLT, Nat.reduceLeDiff, Nat.reduceEqDiff, Nat.reduceAdd, Nat.reduceMul, Nat.reduceSub, reduceCtorEq, putAt, unE, Nat.reduceBEq, convE, buildE, List.replicate, Int.reduceLT, Int.reduceLE, Int.reduceToNat, mkE, mapSetE] at cv6
    have cv7 : ((((((((([118, 111, 116, 101, 32] ++ d1) ++ [32]) ++ d2) ++ [32]) ++ d3) ++ [32]) ++ H1) : List UInt8).length + ([32] : List UInt8).length ≤ 9223372036854775807) := by simp only [List.length_append, List.length_cons, List.length_nil]; omega
    simp only [runA, runB, runC, runD, runE, runF, fieldE, storeE, binE, ↓reduceIte, Nat.reduceLT, Nat.reduceLeDiff, Nat.reduceEqDiff, Nat.reduceAdd, Nat.reduceMul, Nat.reduceSub, reduceCtorEq, putAt, unE, Nat.reduceBEq, convE, buildE, List.replicate, Int.reduceLT, Int.reduceLE, Int.reduceToNat, mkE, mapSetE] at cv7
    have cv8 : (((((((((([118, 111, 116, 101, 32] ++ d1) ++ [32]) ++ d2) ++ [32]) ++ d3) ++ [32]) ++ H1) ++ [32]) : List UInt8).length + (d4 : List UInt8).length ≤ 9223372036854775807) := by simp only [List.length_append, List.length_cons, List.length_nil]; omega
    simp only [runA, runB, runC, runD, runE, runF, fieldE, storeE, binE, ↓reduceIte, Nat.reduceLT, Nat.reduceLeDiff, Nat.reduceEqDiff, Nat.reduceAdd, Nat.reduceMul, Nat.reduceSub, reduceCtorEq, putAt, unE, Nat.reduceBEq, convE, buildE, List.replicate, Int.reduceLT, Int.reduceLE, Int.reduceToNat, mkE, mapSetE] at cv8
    have cv9 : ((((((((((([118, 111, 116, 101, 32] ++ d1) ++ [32]) ++ d2) ++ [32]) ++ d3) ++ [32]) ++ H1) ++ [32]) ++ d4) : List UInt8).length + ([32] : List UInt8).length ≤ 9223372036854775807) := by simp only [List.length_append, List.length_cons, List.length_nil]; omega
    simp only [runA, runB, runC, runD, runE, runF, fieldE, storeE, binE, ↓reduceIte, Nat.reduceLT, Nat.reduceLeDiff, Nat.reduceEqDiff, Nat.reduceAdd, Nat.reduceMul, Nat.reduceSub, reduceCtorEq, putAt, unE, Nat.reduceBEq, convE, buildE, List.replicate, Int.reduceLT, Int.reduceLE, Int.reduceToNat, mkE, mapSetE] at cv9
    have cv10 : (((((((((((([118, 111, 116, 101, 32] ++ d1) ++ [32]) ++ d2) ++ [32]) ++ d3) ++ [32]) ++ H1) ++ [32]) ++ d4) ++ [32]) : List UInt8).length + (d5 : List UInt8).length ≤ 9223372036854775807) := by simp only [List.length_append, List.length_cons, List.length_nil]; omega
    simp only [runA, runB, runC, runD, runE, runF, fieldE, storeE, binE, ↓reduceIte, Nat.reduceLT, Nat.reduceLeDiff, Nat.reduceEqDiff, Nat.reduceAdd, Nat.reduceMul, Nat.reduceSub, reduceCtorEq, putAt, unE, Nat.reduceBEq, convE, buildE, List.replicate, Int.reduceLT, Int.reduceLE, Int.reduceToNat, mkE, mapSetE] at cv10
    have cv11 : ((((((((((((([118, 111, 116, 101, 32] ++ d1) ++ [32]) ++ d2) ++ [32]) ++ d3) ++ [32]) ++ H1) ++ [32]) ++ d4) ++ [32]) ++ d5) : List UInt8).length + ([32] : List UInt8).length ≤ 9223372036854775807) := by simp only [List.length_append, List.length_cons, List.length_nil]; omega
    simp only [runA, runB, runC, runD, runE, runF, fieldE, storeE, binE, ↓reduceIte, Nat.reduceLT, Nat.reduceLeDiff, Nat.reduceEqDiff, Nat.reduceAdd, Nat.reduceMul, Nat.reduceSub, reduceCtorEq, putAt, unE, Nat.reduceBEq, convE, buildE, List.replicate, Int.reduceLT, Int.reduceLE, Int.reduceToNat, mkE, mapSetE] at cv11
    have cv12 : (((((((((((((([118, 111, 116, 101, 32] ++ d1) ++ [32]) ++ d2) ++ [32]) ++ d3) ++ [32]) ++ H1) ++ [32]) ++ d4) ++ [32]) ++ d5) ++ [32]) : List UInt8).length + (H2 : List UInt8).length ≤ 9223372036854775807) := by simp only [List.length_append, List.length_cons, List.length_nil]; omega
    simp only [runA, runB, runC, runD, runE, runF, fieldE, storeE, binE, ↓reduceIte, Nat.reduceLT, Nat.reduceLeDiff, Nat.reduceEqDiff, Nat.reduceAdd, Nat.reduceMul, Nat.reduceSub, reduceCtorEq, putAt, unE, Nat.reduceBEq, convE, buildE, List.replicate, Int.reduceLT, Int.reduceLE, Int.reduceToNat, mkE, mapSetE] at cv12
    by_cases hx : okT ⟨fr, to1, am, no, tsig⟩
    · rw [show txS ⟨fr, to1, am, no, tsig⟩ = 0 from if_pos hx] at q4 q8
      rw [if_pos hx] at q4
      obtain ⟨g1, g2, g3, g4, g5, g6, g7, g8⟩ := id hx
      dsimp only at g1 g2 g3 g4 g5 g6 g7 g8
      have s1 : 0 ≤ fr ∧ fr ≤ 1099511627776 := by omega
      have s2 : 0 ≤ to1 ∧ to1 ≤ 1099511627776 := by omega
      have s3 : 0 ≤ am ∧ am ≤ 1099511627776 := by omega
      have s4 : 0 ≤ no ∧ no ≤ 1099511627776 := by omega
      have e1 := dec13_at fr s1.1 s1.2
      have e2 := dec13_at to1 s2.1 s2.2
      have e3 := dec13_at am s3.1 s3.2
      have e4 := dec13_at no s4.1 s4.2
      have e5 := hex_at tsig (by omega)
      have o1 := decS_len s1
      have o2 := decS_len s2
      have o3 := decS_len s3
      have o4 := decS_len s4
      have o5 := hexS_length tsig
      unfold lineT at q4
      dsimp only at q4
      generalize decS fr = f1 at *
      generalize decS to1 = f2 at *
      generalize decS am = f3 at *
      generalize decS no = f4 at *
      generalize hexS tsig = H3 at *
      have ct0 : (([116, 120, 32] : List UInt8).length + (f1 : List UInt8).length ≤ 9223372036854775807) := by simp only [List.length_append, List.length_cons, List.length_nil]; omega
      simp only [runA, runB, runC, runD, runE, runF, fieldE, storeE, binE, ↓reduceIte, Nat.reduceLT, Nat.reduceLeDiff, Nat.reduceEqDiff, Nat.reduceAdd, Nat.reduceMul, Nat.reduceSub, reduceCtorEq, putAt, unE, Nat.reduceBEq, convE, buildE, List.replicate, Int.reduceLT, Int.reduceLE, Int.reduceToNat, mkE, mapSetE] at ct0
      have ct1 : ((([116, 120, 32] ++ f1) : List UInt8).length + ([32] : List UInt8).length ≤ 9223372036854775807) := by simp only [List.length_append, List.length_cons, List.length_nil]; omega
      simp only [runA, runB, runC, runD, runE, runF, fieldE, storeE, binE, ↓reduceIte, Nat.reduceLT, Nat.reduceLeDiff, Nat.reduceEqDiff, Nat.reduceAdd, Nat.reduceMul, Nat.reduceSub, reduceCtorEq, putAt, unE, Nat.reduceBEq, convE, buildE, List.replicate, Int.reduceLT, Int.reduceLE, Int.reduceToNat, mkE, mapSetE] at ct1
      have ct2 : (((([116, 120, 32] ++ f1) ++ [32]) : List UInt8).length + (f2 : List UInt8).length ≤ 9223372036854775807) := by simp only [List.length_append, List.length_cons, List.length_nil]; omega
      simp only [runA, runB, runC, runD, runE, runF, fieldE, storeE, binE, ↓reduceIte, Nat.reduceLT, Nat.reduceLeDiff, Nat.reduceEqDiff, Nat.reduceAdd, Nat.reduceMul, Nat.reduceSub, reduceCtorEq, putAt, unE, Nat.reduceBEq, convE, buildE, List.replicate, Int.reduceLT, Int.reduceLE, Int.reduceToNat, mkE, mapSetE] at ct2
      have ct3 : ((((([116, 120, 32] ++ f1) ++ [32]) ++ f2) : List UInt8).length + ([32] : List UInt8).length ≤ 9223372036854775807) := by simp only [List.length_append, List.length_cons, List.length_nil]; omega
      simp only [runA, runB, runC, runD, runE, runF, fieldE, storeE, binE, ↓reduceIte, Nat.reduceLT, Nat.reduceLeDiff, Nat.reduceEqDiff, Nat.reduceAdd, Nat.reduceMul, Nat.reduceSub, reduceCtorEq, putAt, unE, Nat.reduceBEq, convE, buildE, List.replicate, Int.reduceLT, Int.reduceLE, Int.reduceToNat, mkE, mapSetE] at ct3
      have ct4 : (((((([116, 120, 32] ++ f1) ++ [32]) ++ f2) ++ [32]) : List UInt8).length + (f3 : List UInt8).length ≤ 9223372036854775807) := by simp only [List.length_append, List.length_cons, List.length_nil]; omega
      simp only [runA, runB, runC, runD, runE, runF, fieldE, storeE, binE, ↓reduceIte, Nat.reduceLT, Nat.reduceLeDiff, Nat.reduceEqDiff, Nat.reduceAdd, Nat.reduceMul, Nat.reduceSub, reduceCtorEq, putAt, unE, Nat.reduceBEq, convE, buildE, List.replicate, Int.reduceLT, Int.reduceLE, Int.reduceToNat, mkE, mapSetE] at ct4
      have ct5 : ((((((([116, 120, 32] ++ f1) ++ [32]) ++ f2) ++ [32]) ++ f3) : List UInt8).length + ([32] : List UInt8).length ≤ 9223372036854775807) := by simp only [List.length_append, List.length_cons, List.length_nil]; omega
      simp only [runA, runB, runC, runD, runE, runF, fieldE, storeE, binE, ↓reduceIte, Nat.reduceLT, Nat.reduceLeDiff, Nat.reduceEqDiff, Nat.reduceAdd, Nat.reduceMul, Nat.reduceSub, reduceCtorEq, putAt, unE, Nat.reduceBEq, convE, buildE, List.replicate, Int.reduceLT, Int.reduceLE, Int.reduceToNat, mkE, mapSetE] at ct5
      have ct6 : (((((((([116, 120, 32] ++ f1) ++ [32]) ++ f2) ++ [32]) ++ f3) ++ [32]) : List UInt8).length + (f4 : List UInt8).length ≤ 9223372036854775807) := by simp only [List.length_append, List.length_cons, List.length_nil]; omega
      simp only [runA, runB, runC, runD, runE, runF, fieldE, storeE, binE, ↓reduceIte, Nat.reduceLT, Nat.reduceLeDiff, Nat.reduceEqDiff, Nat.reduceAdd, Nat.reduceMul, Nat.reduceSub, reduceCtorEq, putAt, unE, Nat.reduceBEq, convE, buildE, List.replicate, Int.reduceLT, Int.reduceLE, Int.reduceToNat, mkE, mapSetE] at ct6
      have ct7 : ((((((((([116, 120, 32] ++ f1) ++ [32]) ++ f2) ++ [32]) ++ f3) ++ [32]) ++ f4) : List UInt8).length + ([32] : List UInt8).length ≤ 9223372036854775807) := by simp only [List.length_append, List.length_cons, List.length_nil]; omega
      simp only [runA, runB, runC, runD, runE, runF, fieldE, storeE, binE, ↓reduceIte, Nat.reduceLT, Nat.reduceLeDiff, Nat.reduceEqDiff, Nat.reduceAdd, Nat.reduceMul, Nat.reduceSub, reduceCtorEq, putAt, unE, Nat.reduceBEq, convE, buildE, List.replicate, Int.reduceLT, Int.reduceLE, Int.reduceToNat, mkE, mapSetE] at ct7
      have ct8 : (((((((((([116, 120, 32] ++ f1) ++ [32]) ++ f2) ++ [32]) ++ f3) ++ [32]) ++ f4) ++ [32]) : List UInt8).length + (H3 : List UInt8).length ≤ 9223372036854775807) := by simp only [List.length_append, List.length_cons, List.length_nil]; omega
      simp only [runA, runB, runC, runD, runE, runF, fieldE, storeE, binE, ↓reduceIte, Nat.reduceLT, Nat.reduceLeDiff, Nat.reduceEqDiff, Nat.reduceAdd, Nat.reduceMul, Nat.reduceSub, reduceCtorEq, putAt, unE, Nat.reduceBEq, convE, buildE, List.replicate, Int.reduceLT, Int.reduceLE, Int.reduceToNat, mkE, mapSetE] at ct8
      rcases hm with ⟨hE, b1⟩ | ⟨hE, b1, b2⟩ | ⟨hE, b1, b2, b3⟩ | ⟨hE, b1, b2, b3, b4⟩ | ⟨hE, b1, b2, b3, b4, b5⟩ | ⟨hE, b1, b2, b3, b4, b5, z1, z2⟩
      · rw [hE, if_neg (by decide)] at q5
        simp only [runA, runB, runC, runD, runE, runF, fieldE, storeE, binE, ↓reduceIte, Nat.reduceLT, Nat.reduceLeDiff, Nat.reduceEqDiff, Nat.reduceAdd, Nat.reduceMul, Nat.reduceSub, reduceCtorEq, putAt, unE, Nat.reduceBEq, convE, buildE, List.replicate, Int.reduceLT, Int.reduceLE, Int.reduceToNat, mkE, mapSetE, hN, hF, ty_3, ty_4, ty_9, ty_42, ty_47, ty_49, ty_51, notIf, isEq, h1, qa, h2, q3, h3, q4, h4, q5, h5, q7, h8, q8, h9, num39C, h10, h7, qs, hbs, i0, i9, i90, j0, j4, j5, h6, a1, a2, a3, a4, a5, a6, a7, cv0, cv1, cv2, cv3, cv4, cv5, cv6, cv7, cv8, cv9, cv10, cv11, cv12, h6, e1, e2, e3, e4, e5, ct0, ct1, ct2, ct3, ct4, ct5, ct6, ct7, ct8, b1]
        iterate 8 (try (refine drawnP_intro (by kernel_rfl) (by kernel_rfl) ?_; simp only [runA, runB, runC, runD, runE, runF, fieldE, storeE, binE, ↓reduceIte, Nat.reduceLT, Nat.reduceLeDiff, Nat.reduceEqDiff, Nat.reduceAdd, Nat.reduceMul, Nat.reduceSub, reduceCtorEq, putAt, unE, Nat.reduceBEq, convE, buildE, List.replicate, Int.reduceLT, Int.reduceLE, Int.reduceToNat, mkE, mapSetE, hN, hF, ty_3, ty_4, ty_9, ty_42, ty_47, ty_49, ty_51, notIf, isEq, h1, qa, h2, q3, h3, q4, h4, q5, h5, q7, h8, q8, h9, num39C, h10, h7, qs, hbs, i0, i9, i90, j0, j4, j5, h6, a1, a2, a3, a4, a5, a6, a7, cv0, cv1, cv2, cv3, cv4, cv5, cv6, cv7, cv8, cv9, cv10, cv11, cv12, h6, e1, e2, e3, e4, e5, ct0, ct1, ct2, ct3, ct4, ct5, ct6, ct7, ct8, b1]))
        simp only [runB, finC, finD, Option.isSome_some, Option.isSome_none, ↓reduceIte, Nat.reduceEqDiff, Nat.reduceAdd, Nat.reduceMul, forall_eq_or_imp, forall_eq, implies_true, Nat.reduceBEq, reduceCtorEq, false_implies, List.zip_cons_cons, List.zip_nil_left, List.zip_nil_right, Nat.reduceLeDiff, List.forall_mem_nil, rs_5]
      · rw [hE, if_neg (by decide)] at q5
        simp only [runA, runB, runC, runD, runE, runF, fieldE, storeE, binE, ↓reduceIte, Nat.reduceLT, Nat.reduceLeDiff, Nat.reduceEqDiff, Nat.reduceAdd, Nat.reduceMul, Nat.reduceSub, reduceCtorEq, putAt, unE, Nat.reduceBEq, convE, buildE, List.replicate, Int.reduceLT, Int.reduceLE, Int.reduceToNat, mkE, mapSetE, hN, hF, ty_3, ty_4, ty_9, ty_42, ty_47, ty_49, ty_51, notIf, isEq, h1, qa, h2, q3, h3, q4, h4, q5, h5, q7, h8, q8, h9, num39C, h10, h7, qs, hbs, i0, i9, i90, j0, j4, j5, h6, a1, a2, a3, a4, a5, a6, a7, cv0, cv1, cv2, cv3, cv4, cv5, cv6, cv7, cv8, cv9, cv10, cv11, cv12, h6, e1, e2, e3, e4, e5, ct0, ct1, ct2, ct3, ct4, ct5, ct6, ct7, ct8, b1, b2]
        iterate 8 (try (refine drawnP_intro (by kernel_rfl) (by kernel_rfl) ?_; simp only [runA, runB, runC, runD, runE, runF, fieldE, storeE, binE, ↓reduceIte, Nat.reduceLT, Nat.reduceLeDiff, Nat.reduceEqDiff, Nat.reduceAdd, Nat.reduceMul, Nat.reduceSub, reduceCtorEq, putAt, unE, Nat.reduceBEq, convE, buildE, List.replicate, Int.reduceLT, Int.reduceLE, Int.reduceToNat, mkE, mapSetE, hN, hF, ty_3, ty_4, ty_9, ty_42, ty_47, ty_49, ty_51, notIf, isEq, h1, qa, h2, q3, h3, q4, h4, q5, h5, q7, h8, q8, h9, num39C, h10, h7, qs, hbs, i0, i9, i90, j0, j4, j5, h6, a1, a2, a3, a4, a5, a6, a7, cv0, cv1, cv2, cv3, cv4, cv5, cv6, cv7, cv8, cv9, cv10, cv11, cv12, h6, e1, e2, e3, e4, e5, ct0, ct1, ct2, ct3, ct4, ct5, ct6, ct7, ct8, b1, b2]))
        simp only [runB, finC, finD, Option.isSome_some, Option.isSome_none, ↓reduceIte, Nat.reduceEqDiff, Nat.reduceAdd, Nat.reduceMul, forall_eq_or_imp, forall_eq, implies_true, Nat.reduceBEq, reduceCtorEq, false_implies, List.zip_cons_cons, List.zip_nil_left, List.zip_nil_right, Nat.reduceLeDiff, List.forall_mem_nil, rs_5]
      · rw [hE, if_neg (by decide)] at q5
        simp only [runA, runB, runC, runD, runE, runF, fieldE, storeE, binE, ↓reduceIte, Nat.reduceLT, Nat.reduceLeDiff, Nat.reduceEqDiff, Nat.reduceAdd, Nat.reduceMul, Nat.reduceSub, reduceCtorEq, putAt, unE, Nat.reduceBEq, convE, buildE, List.replicate, Int.reduceLT, Int.reduceLE, Int.reduceToNat, mkE, mapSetE, hN, hF, ty_3, ty_4, ty_9, ty_42, ty_47, ty_49, ty_51, notIf, isEq, h1, qa, h2, q3, h3, q4, h4, q5, h5, q7, h8, q8, h9, num39C, h10, h7, qs, hbs, i0, i9, i90, j0, j4, j5, h6, a1, a2, a3, a4, a5, a6, a7, cv0, cv1, cv2, cv3, cv4, cv5, cv6, cv7, cv8, cv9, cv10, cv11, cv12, h6, e1, e2, e3, e4, e5, ct0, ct1, ct2, ct3, ct4, ct5, ct6, ct7, ct8, b1, b2, b3]
        iterate 8 (try (refine drawnP_intro (by kernel_rfl) (by kernel_rfl) ?_; simp only [runA, runB, runC, runD, runE, runF, fieldE, storeE, binE, ↓reduceIte, Nat.reduceLT, Nat.reduceLeDiff, Nat.reduceEqDiff, Nat.reduceAdd, Nat.reduceMul, Nat.reduceSub, reduceCtorEq, putAt, unE, Nat.reduceBEq, convE, buildE, List.replicate, Int.reduceLT, Int.reduceLE, Int.reduceToNat, mkE, mapSetE, hN, hF, ty_3, ty_4, ty_9, ty_42, ty_47, ty_49, ty_51, notIf, isEq, h1, qa, h2, q3, h3, q4, h4, q5, h5, q7, h8, q8, h9, num39C, h10, h7, qs, hbs, i0, i9, i90, j0, j4, j5, h6, a1, a2, a3, a4, a5, a6, a7, cv0, cv1, cv2, cv3, cv4, cv5, cv6, cv7, cv8, cv9, cv10, cv11, cv12, h6, e1, e2, e3, e4, e5, ct0, ct1, ct2, ct3, ct4, ct5, ct6, ct7, ct8, b1, b2, b3]))
        simp only [runB, finC, finD, Option.isSome_some, Option.isSome_none, ↓reduceIte, Nat.reduceEqDiff, Nat.reduceAdd, Nat.reduceMul, forall_eq_or_imp, forall_eq, implies_true, Nat.reduceBEq, reduceCtorEq, false_implies, List.zip_cons_cons, List.zip_nil_left, List.zip_nil_right, Nat.reduceLeDiff, List.forall_mem_nil, rs_5]
      · rw [hE, if_neg (by decide)] at q5
        simp only [runA, runB, runC, runD, runE, runF, fieldE, storeE, binE, ↓reduceIte, Nat.reduceLT, Nat.reduceLeDiff, Nat.reduceEqDiff, Nat.reduceAdd, Nat.reduceMul, Nat.reduceSub, reduceCtorEq, putAt, unE, Nat.reduceBEq, convE, buildE, List.replicate, Int.reduceLT, Int.reduceLE, Int.reduceToNat, mkE, mapSetE, hN, hF, ty_3, ty_4, ty_9, ty_42, ty_47, ty_49, ty_51, notIf, isEq, h1, qa, h2, q3, h3, q4, h4, q5, h5, q7, h8, q8, h9, num39C, h10, h7, qs, hbs, i0, i9, i90, j0, j4, j5, h6, a1, a2, a3, a4, a5, a6, a7, cv0, cv1, cv2, cv3, cv4, cv5, cv6, cv7, cv8, cv9, cv10, cv11, cv12, h6, e1, e2, e3, e4, e5, ct0, ct1, ct2, ct3, ct4, ct5, ct6, ct7, ct8, b1, b2, b3, b4]
        iterate 8 (try (refine drawnP_intro (by kernel_rfl) (by kernel_rfl) ?_; simp only [runA, runB, runC, runD, runE, runF, fieldE, storeE, binE, ↓reduceIte, Nat.reduceLT, Nat.reduceLeDiff, Nat.reduceEqDiff, Nat.reduceAdd, Nat.reduceMul, Nat.reduceSub, reduceCtorEq, putAt, unE, Nat.reduceBEq, convE, buildE, List.replicate, Int.reduceLT, Int.reduceLE, Int.reduceToNat, mkE, mapSetE, hN, hF, ty_3, ty_4, ty_9, ty_42, ty_47, ty_49, ty_51, notIf, isEq, h1, qa, h2, q3, h3, q4, h4, q5, h5, q7, h8, q8, h9, num39C, h10, h7, qs, hbs, i0, i9, i90, j0, j4, j5, h6, a1, a2, a3, a4, a5, a6, a7, cv0, cv1, cv2, cv3, cv4, cv5, cv6, cv7, cv8, cv9, cv10, cv11, cv12, h6, e1, e2, e3, e4, e5, ct0, ct1, ct2, ct3, ct4, ct5, ct6, ct7, ct8, b1, b2, b3, b4]))
        simp only [runB, finC, finD, Option.isSome_some, Option.isSome_none, ↓reduceIte, Nat.reduceEqDiff, Nat.reduceAdd, Nat.reduceMul, forall_eq_or_imp, forall_eq, implies_true, Nat.reduceBEq, reduceCtorEq, false_implies, List.zip_cons_cons, List.zip_nil_left, List.zip_nil_right, Nat.reduceLeDiff, List.forall_mem_nil, rs_5]
      · rw [hE, if_neg (by decide)] at q5
        simp only [runA, runB, runC, runD, runE, runF, fieldE, storeE, binE, ↓reduceIte, Nat.reduceLT, Nat.reduceLeDiff, Nat.reduceEqDiff, Nat.reduceAdd, Nat.reduceMul, Nat.reduceSub, reduceCtorEq, putAt, unE, Nat.reduceBEq, convE, buildE, List.replicate, Int.reduceLT, Int.reduceLE, Int.reduceToNat, mkE, mapSetE, hN, hF, ty_3, ty_4, ty_9, ty_42, ty_47, ty_49, ty_51, notIf, isEq, h1, qa, h2, q3, h3, q4, h4, q5, h5, q7, h8, q8, h9, num39C, h10, h7, qs, hbs, i0, i9, i90, j0, j4, j5, h6, a1, a2, a3, a4, a5, a6, a7, cv0, cv1, cv2, cv3, cv4, cv5, cv6, cv7, cv8, cv9, cv10, cv11, cv12, h6, e1, e2, e3, e4, e5, ct0, ct1, ct2, ct3, ct4, ct5, ct6, ct7, ct8, b1, b2, b3, b4, b5]
        iterate 8 (try (refine drawnP_intro (by kernel_rfl) (by kernel_rfl) ?_; simp only [runA, runB, runC, runD, runE, runF, fieldE, storeE, binE, ↓reduceIte, Nat.reduceLT, Nat.reduceLeDiff, Nat.reduceEqDiff, Nat.reduceAdd, Nat.reduceMul, Nat.reduceSub, reduceCtorEq, putAt, unE, Nat.reduceBEq, convE, buildE, List.replicate, Int.reduceLT, Int.reduceLE, Int.reduceToNat, mkE, mapSetE, hN, hF, ty_3, ty_4, ty_9, ty_42, ty_47, ty_49, ty_51, notIf, isEq, h1, qa, h2, q3, h3, q4, h4, q5, h5, q7, h8, q8, h9, num39C, h10, h7, qs, hbs, i0, i9, i90, j0, j4, j5, h6, a1, a2, a3, a4, a5, a6, a7, cv0, cv1, cv2, cv3, cv4, cv5, cv6, cv7, cv8, cv9, cv10, cv11, cv12, h6, e1, e2, e3, e4, e5, ct0, ct1, ct2, ct3, ct4, ct5, ct6, ct7, ct8, b1, b2, b3, b4, b5]))
        simp only [runB, finC, finD, Option.isSome_some, Option.isSome_none, ↓reduceIte, Nat.reduceEqDiff, Nat.reduceAdd, Nat.reduceMul, forall_eq_or_imp, forall_eq, implies_true, Nat.reduceBEq, reduceCtorEq, false_implies, List.zip_cons_cons, List.zip_nil_left, List.zip_nil_right, Nat.reduceLeDiff, List.forall_mem_nil, rs_5]
      · rw [hE, if_pos rfl] at q5
        have u1 := dec13_at mv z1.1 z1.2
        have u2 := dec13_at mh z2.1 z2.2
        have u3 := hex_at mb (by have : ¬ 4096 < (mb.length : Int) := of_decide_eq_false b5; omega)
        have v1 := decS_len z1
        have v2 := decS_len z2
        have v3 := hexS_length mb
        have v4 : ¬ 4096 < (mb.length : Int) := of_decide_eq_false b5
        unfold lineM at q5
        dsimp only at q5
        generalize decS mv = m1 at *
        generalize decS mh = m2 at *
        generalize hexS mb = H4 at *
        have cm0 : (([109, 97, 114, 107, 32] : List UInt8).length + (m1 : List UInt8).length ≤ 9223372036854775807) := by simp only [List.length_append, List.length_cons, List.length_nil]; omega
        simp only [runA, runB, runC, runD, runE, runF, fieldE, storeE, binE, ↓reduceIte, Nat.reduceLT, Nat.reduceLeDiff, Nat.reduceEqDiff, Nat.reduceAdd, Nat.reduceMul, Nat.reduceSub, reduceCtorEq, putAt, unE, Nat.reduceBEq, convE, buildE, List.replicate, Int.reduceLT, Int.reduceLE, Int.reduceToNat, mkE, mapSetE] at cm0
        have cm1 : ((([109, 97, 114, 107, 32] ++ m1) : List UInt8).length + ([32] : List UInt8).length ≤ 9223372036854775807) := by simp only [List.length_append, List.length_cons, List.length_nil]; omega
        simp only [runA, runB, runC, runD, runE, runF, fieldE, storeE, binE, ↓reduceIte, Nat.reduceLT, Nat.reduceLeDiff, Nat.reduceEqDiff, Nat.reduceAdd, Nat.reduceMul, Nat.reduceSub, reduceCtorEq, putAt, unE, Nat.reduceBEq, convE, buildE, List.replicate, Int.reduceLT, Int.reduceLE, Int.reduceToNat, mkE, mapSetE] at cm1
        have cm2 : (((([109, 97, 114, 107, 32] ++ m1) ++ [32]) : List UInt8).length + (m2 : List UInt8).length ≤ 9223372036854775807) := by simp only [List.length_append, List.length_cons, List.length_nil]; omega
        simp only [runA, runB, runC, runD, runE, runF, fieldE, storeE, binE, ↓reduceIte, Nat.reduceLT, Nat.reduceLeDiff, Nat.reduceEqDiff, Nat.reduceAdd, Nat.reduceMul, Nat.reduceSub, reduceCtorEq, putAt, unE, Nat.reduceBEq, convE, buildE, List.replicate, Int.reduceLT, Int.reduceLE, Int.reduceToNat, mkE, mapSetE] at cm2
        have cm3 : ((((([109, 97, 114, 107, 32] ++ m1) ++ [32]) ++ m2) : List UInt8).length + ([32] : List UInt8).length ≤ 9223372036854775807) := by simp only [List.length_append, List.length_cons, List.length_nil]; omega
        simp only [runA, runB, runC, runD, runE, runF, fieldE, storeE, binE, ↓reduceIte, Nat.reduceLT, Nat.reduceLeDiff, Nat.reduceEqDiff, Nat.reduceAdd, Nat.reduceMul, Nat.reduceSub, reduceCtorEq, putAt, unE, Nat.reduceBEq, convE, buildE, List.replicate, Int.reduceLT, Int.reduceLE, Int.reduceToNat, mkE, mapSetE] at cm3
        have cm4 : (((((([109, 97, 114, 107, 32] ++ m1) ++ [32]) ++ m2) ++ [32]) : List UInt8).length + (H4 : List UInt8).length ≤ 9223372036854775807) := by simp only [List.length_append, List.length_cons, List.length_nil]; omega
        simp only [runA, runB, runC, runD, runE, runF, fieldE, storeE, binE, ↓reduceIte, Nat.reduceLT, Nat.reduceLeDiff, Nat.reduceEqDiff, Nat.reduceAdd, Nat.reduceMul, Nat.reduceSub, reduceCtorEq, putAt, unE, Nat.reduceBEq, convE, buildE, List.replicate, Int.reduceLT, Int.reduceLE, Int.reduceToNat, mkE, mapSetE] at cm4
        simp only [runA, runB, runC, runD, runE, runF, fieldE, storeE, binE, ↓reduceIte, Nat.reduceLT, Nat.reduceLeDiff, Nat.reduceEqDiff, Nat.reduceAdd, Nat.reduceMul, Nat.reduceSub, reduceCtorEq, putAt, unE, Nat.reduceBEq, convE, buildE, List.replicate, Int.reduceLT, Int.reduceLE, Int.reduceToNat, mkE, mapSetE, hN, hF, ty_3, ty_4, ty_9, ty_42, ty_47, ty_49, ty_51, notIf, isEq, h1, qa, h2, q3, h3, q4, h4, q5, h5, q7, h8, q8, h9, num39C, h10, h7, qs, hbs, i0, i9, i90, j0, j4, j5, h6, a1, a2, a3, a4, a5, a6, a7, cv0, cv1, cv2, cv3, cv4, cv5, cv6, cv7, cv8, cv9, cv10, cv11, cv12, h6, e1, e2, e3, e4, e5, ct0, ct1, ct2, ct3, ct4, ct5, ct6, ct7, ct8, b1, b2, b3, b4, b5, h6, u1, u2, u3, cm0, cm1, cm2, cm3, cm4]
        iterate 8 (try (refine drawnP_intro (by kernel_rfl) (by kernel_rfl) ?_; simp only [runA, runB, runC, runD, runE, runF, fieldE, storeE, binE, ↓reduceIte, Nat.reduceLT, Nat.reduceLeDiff, Nat.reduceEqDiff, Nat.reduceAdd, Nat.reduceMul, Nat.reduceSub, reduceCtorEq, putAt, unE, Nat.reduceBEq, convE, buildE, List.replicate, Int.reduceLT, Int.reduceLE, Int.reduceToNat, mkE, mapSetE, hN, hF, ty_3, ty_4, ty_9, ty_42, ty_47, ty_49, ty_51, notIf, isEq, h1, qa, h2, q3, h3, q4, h4, q5, h5, q7, h8, q8, h9, num39C, h10, h7, qs, hbs, i0, i9, i90, j0, j4, j5, h6, a1, a2, a3, a4, a5, a6, a7, cv0, cv1, cv2, cv3, cv4, cv5, cv6, cv7, cv8, cv9, cv10, cv11, cv12, h6, e1, e2, e3, e4, e5, ct0, ct1, ct2, ct3, ct4, ct5, ct6, ct7, ct8, b1, b2, b3, b4, b5, h6, u1, u2, u3, cm0, cm1, cm2, cm3, cm4]))
        simp only [runB, finC, finD, Option.isSome_some, Option.isSome_none, ↓reduceIte, Nat.reduceEqDiff, Nat.reduceAdd, Nat.reduceMul, forall_eq_or_imp, forall_eq, implies_true, Nat.reduceBEq, reduceCtorEq, false_implies, List.zip_cons_cons, List.zip_nil_left, List.zip_nil_right, Nat.reduceLeDiff, List.forall_mem_nil, rs_5]
    · rw [show txS ⟨fr, to1, am, no, tsig⟩ = 9 from if_neg hx] at q4 q8
      rw [if_neg hx] at q4
      rcases hm with ⟨hE, b1⟩ | ⟨hE, b1, b2⟩ | ⟨hE, b1, b2, b3⟩ | ⟨hE, b1, b2, b3, b4⟩ | ⟨hE, b1, b2, b3, b4, b5⟩ | ⟨hE, b1, b2, b3, b4, b5, z1, z2⟩
      · rw [hE, if_neg (by decide)] at q5
        simp only [runA, runB, runC, runD, runE, runF, fieldE, storeE, binE, ↓reduceIte, Nat.reduceLT, Nat.reduceLeDiff, Nat.reduceEqDiff, Nat.reduceAdd, Nat.reduceMul, Nat.reduceSub, reduceCtorEq, putAt, unE, Nat.reduceBEq, convE, buildE, List.replicate, Int.reduceLT, Int.reduceLE, Int.reduceToNat, mkE, mapSetE, hN, hF, ty_3, ty_4, ty_9, ty_42, ty_47, ty_49, ty_51, notIf, isEq, h1, qa, h2, q3, h3, q4, h4, q5, h5, q7, h8, q8, h9, num39C, h10, h7, qs, hbs, i0, i9, i90, j0, j4, j5, h6, a1, a2, a3, a4, a5, a6, a7, cv0, cv1, cv2, cv3, cv4, cv5, cv6, cv7, cv8, cv9, cv10, cv11, cv12, b1]
        iterate 8 (try (refine drawnP_intro (by kernel_rfl) (by kernel_rfl) ?_; simp only [runA, runB, runC, runD, runE, runF, fieldE, storeE, binE, ↓reduceIte, Nat.reduceLT, Nat.reduceLeDiff, Nat.reduceEqDiff, Nat.reduceAdd, Nat.reduceMul, Nat.reduceSub, reduceCtorEq, putAt, unE, Nat.reduceBEq, convE, buildE, List.replicate, Int.reduceLT, Int.reduceLE, Int.reduceToNat, mkE, mapSetE, hN, hF, ty_3, ty_4, ty_9, ty_42, ty_47, ty_49, ty_51, notIf, isEq, h1, qa, h2, q3, h3, q4, h4, q5, h5, q7, h8, q8, h9, num39C, h10, h7, qs, hbs, i0, i9, i90, j0, j4, j5, h6, a1, a2, a3, a4, a5, a6, a7, cv0, cv1, cv2, cv3, cv4, cv5, cv6, cv7, cv8, cv9, cv10, cv11, cv12, b1]))
        simp only [runB, finC, finD, Option.isSome_some, Option.isSome_none, ↓reduceIte, Nat.reduceEqDiff, Nat.reduceAdd, Nat.reduceMul, forall_eq_or_imp, forall_eq, implies_true, Nat.reduceBEq, reduceCtorEq, false_implies, List.zip_cons_cons, List.zip_nil_left, List.zip_nil_right, Nat.reduceLeDiff, List.forall_mem_nil, rs_5]
      · rw [hE, if_neg (by decide)] at q5
        simp only [runA, runB, runC, runD, runE, runF, fieldE, storeE, binE, ↓reduceIte, Nat.reduceLT, Nat.reduceLeDiff, Nat.reduceEqDiff, Nat.reduceAdd, Nat.reduceMul, Nat.reduceSub, reduceCtorEq, putAt, unE, Nat.reduceBEq, convE, buildE, List.replicate, Int.reduceLT, Int.reduceLE, Int.reduceToNat, mkE, mapSetE, hN, hF, ty_3, ty_4, ty_9, ty_42, ty_47, ty_49, ty_51, notIf, isEq, h1, qa, h2, q3, h3, q4, h4, q5, h5, q7, h8, q8, h9, num39C, h10, h7, qs, hbs, i0, i9, i90, j0, j4, j5, h6, a1, a2, a3, a4, a5, a6, a7, cv0, cv1, cv2, cv3, cv4, cv5, cv6, cv7, cv8, cv9, cv10, cv11, cv12, b1, b2]
        iterate 8 (try (refine drawnP_intro (by kernel_rfl) (by kernel_rfl) ?_; simp only [runA, runB, runC, runD, runE, runF, fieldE, storeE, binE, ↓reduceIte, Nat.reduceLT, Nat.reduceLeDiff, Nat.reduceEqDiff, Nat.reduceAdd, Nat.reduceMul, Nat.reduceSub, reduceCtorEq, putAt, unE, Nat.reduceBEq, convE, buildE, List.replicate, Int.reduceLT, Int.reduceLE, Int.reduceToNat, mkE, mapSetE, hN, hF, ty_3, ty_4, ty_9, ty_42, ty_47, ty_49, ty_51, notIf, isEq, h1, qa, h2, q3, h3, q4, h4, q5, h5, q7, h8, q8, h9, num39C, h10, h7, qs, hbs, i0, i9, i90, j0, j4, j5, h6, a1, a2, a3, a4, a5, a6, a7, cv0, cv1, cv2, cv3, cv4, cv5, cv6, cv7, cv8, cv9, cv10, cv11, cv12, b1, b2]))
        simp only [runB, finC, finD, Option.isSome_some, Option.isSome_none, ↓reduceIte, Nat.reduceEqDiff, Nat.reduceAdd, Nat.reduceMul, forall_eq_or_imp, forall_eq, implies_true, Nat.reduceBEq, reduceCtorEq, false_implies, List.zip_cons_cons, List.zip_nil_left, List.zip_nil_right, Nat.reduceLeDiff, List.forall_mem_nil, rs_5]
      · rw [hE, if_neg (by decide)] at q5
        simp only [runA, runB, runC, runD, runE, runF, fieldE, storeE, binE, ↓reduceIte, Nat.reduceLT, Nat.reduceLeDiff, Nat.reduceEqDiff, Nat.reduceAdd, Nat.reduceMul, Nat.reduceSub, reduceCtorEq, putAt, unE, Nat.reduceBEq, convE, buildE, List.replicate, Int.reduceLT, Int.reduceLE, Int.reduceToNat, mkE, mapSetE, hN, hF, ty_3, ty_4, ty_9, ty_42, ty_47, ty_49, ty_51, notIf, isEq, h1, qa, h2, q3, h3, q4, h4, q5, h5, q7, h8, q8, h9, num39C, h10, h7, qs, hbs, i0, i9, i90, j0, j4, j5, h6, a1, a2, a3, a4, a5, a6, a7, cv0, cv1, cv2, cv3, cv4, cv5, cv6, cv7, cv8, cv9, cv10, cv11, cv12, b1, b2, b3]
        iterate 8 (try (refine drawnP_intro (by kernel_rfl) (by kernel_rfl) ?_; simp only [runA, runB, runC, runD, runE, runF, fieldE, storeE, binE, ↓reduceIte, Nat.reduceLT, Nat.reduceLeDiff, Nat.reduceEqDiff, Nat.reduceAdd, Nat.reduceMul, Nat.reduceSub, reduceCtorEq, putAt, unE, Nat.reduceBEq, convE, buildE, List.replicate, Int.reduceLT, Int.reduceLE, Int.reduceToNat, mkE, mapSetE, hN, hF, ty_3, ty_4, ty_9, ty_42, ty_47, ty_49, ty_51, notIf, isEq, h1, qa, h2, q3, h3, q4, h4, q5, h5, q7, h8, q8, h9, num39C, h10, h7, qs, hbs, i0, i9, i90, j0, j4, j5, h6, a1, a2, a3, a4, a5, a6, a7, cv0, cv1, cv2, cv3, cv4, cv5, cv6, cv7, cv8, cv9, cv10, cv11, cv12, b1, b2, b3]))
        simp only [runB, finC, finD, Option.isSome_some, Option.isSome_none, ↓reduceIte, Nat.reduceEqDiff, Nat.reduceAdd, Nat.reduceMul, forall_eq_or_imp, forall_eq, implies_true, Nat.reduceBEq, reduceCtorEq, false_implies, List.zip_cons_cons, List.zip_nil_left, List.zip_nil_right, Nat.reduceLeDiff, List.forall_mem_nil, rs_5]
      · rw [hE, if_neg (by decide)] at q5
        simp only [runA, runB, runC, runD, runE, runF, fieldE, storeE, binE, ↓reduceIte, Nat.reduceLT, Nat.reduceLeDiff, Nat.reduceEqDiff, Nat.reduceAdd, Nat.reduceMul, Nat.reduceSub, reduceCtorEq, putAt, unE, Nat.reduceBEq, convE, buildE, List.replicate, Int.reduceLT, Int.reduceLE, Int.reduceToNat, mkE, mapSetE, hN, hF, ty_3, ty_4, ty_9, ty_42, ty_47, ty_49, ty_51, notIf, isEq, h1, qa, h2, q3, h3, q4, h4, q5, h5, q7, h8, q8, h9, num39C, h10, h7, qs, hbs, i0, i9, i90, j0, j4, j5, h6, a1, a2, a3, a4, a5, a6, a7, cv0, cv1, cv2, cv3, cv4, cv5, cv6, cv7, cv8, cv9, cv10, cv11, cv12, b1, b2, b3, b4]
        iterate 8 (try (refine drawnP_intro (by kernel_rfl) (by kernel_rfl) ?_; simp only [runA, runB, runC, runD, runE, runF, fieldE, storeE, binE, ↓reduceIte, Nat.reduceLT, Nat.reduceLeDiff, Nat.reduceEqDiff, Nat.reduceAdd, Nat.reduceMul, Nat.reduceSub, reduceCtorEq, putAt, unE, Nat.reduceBEq, convE, buildE, List.replicate, Int.reduceLT, Int.reduceLE, Int.reduceToNat, mkE, mapSetE, hN, hF, ty_3, ty_4, ty_9, ty_42, ty_47, ty_49, ty_51, notIf, isEq, h1, qa, h2, q3, h3, q4, h4, q5, h5, q7, h8, q8, h9, num39C, h10, h7, qs, hbs, i0, i9, i90, j0, j4, j5, h6, a1, a2, a3, a4, a5, a6, a7, cv0, cv1, cv2, cv3, cv4, cv5, cv6, cv7, cv8, cv9, cv10, cv11, cv12, b1, b2, b3, b4]))
        simp only [runB, finC, finD, Option.isSome_some, Option.isSome_none, ↓reduceIte, Nat.reduceEqDiff, Nat.reduceAdd, Nat.reduceMul, forall_eq_or_imp, forall_eq, implies_true, Nat.reduceBEq, reduceCtorEq, false_implies, List.zip_cons_cons, List.zip_nil_left, List.zip_nil_right, Nat.reduceLeDiff, List.forall_mem_nil, rs_5]
      · rw [hE, if_neg (by decide)] at q5
        simp only [runA, runB, runC, runD, runE, runF, fieldE, storeE, binE, ↓reduceIte, Nat.reduceLT, Nat.reduceLeDiff, Nat.reduceEqDiff, Nat.reduceAdd, Nat.reduceMul, Nat.reduceSub, reduceCtorEq, putAt, unE, Nat.reduceBEq, convE, buildE, List.replicate, Int.reduceLT, Int.reduceLE, Int.reduceToNat, mkE, mapSetE, hN, hF, ty_3, ty_4, ty_9, ty_42, ty_47, ty_49, ty_51, notIf, isEq, h1, qa, h2, q3, h3, q4, h4, q5, h5, q7, h8, q8, h9, num39C, h10, h7, qs, hbs, i0, i9, i90, j0, j4, j5, h6, a1, a2, a3, a4, a5, a6, a7, cv0, cv1, cv2, cv3, cv4, cv5, cv6, cv7, cv8, cv9, cv10, cv11, cv12, b1, b2, b3, b4, b5]
        iterate 8 (try (refine drawnP_intro (by kernel_rfl) (by kernel_rfl) ?_; simp only [runA, runB, runC, runD, runE, runF, fieldE, storeE, binE, ↓reduceIte, Nat.reduceLT, Nat.reduceLeDiff, Nat.reduceEqDiff, Nat.reduceAdd, Nat.reduceMul, Nat.reduceSub, reduceCtorEq, putAt, unE, Nat.reduceBEq, convE, buildE, List.replicate, Int.reduceLT, Int.reduceLE, Int.reduceToNat, mkE, mapSetE, hN, hF, ty_3, ty_4, ty_9, ty_42, ty_47, ty_49, ty_51, notIf, isEq, h1, qa, h2, q3, h3, q4, h4, q5, h5, q7, h8, q8, h9, num39C, h10, h7, qs, hbs, i0, i9, i90, j0, j4, j5, h6, a1, a2, a3, a4, a5, a6, a7, cv0, cv1, cv2, cv3, cv4, cv5, cv6, cv7, cv8, cv9, cv10, cv11, cv12, b1, b2, b3, b4, b5]))
        simp only [runB, finC, finD, Option.isSome_some, Option.isSome_none, ↓reduceIte, Nat.reduceEqDiff, Nat.reduceAdd, Nat.reduceMul, forall_eq_or_imp, forall_eq, implies_true, Nat.reduceBEq, reduceCtorEq, false_implies, List.zip_cons_cons, List.zip_nil_left, List.zip_nil_right, Nat.reduceLeDiff, List.forall_mem_nil, rs_5]
      · rw [hE, if_pos rfl] at q5
        have u1 := dec13_at mv z1.1 z1.2
        have u2 := dec13_at mh z2.1 z2.2
        have u3 := hex_at mb (by have : ¬ 4096 < (mb.length : Int) := of_decide_eq_false b5; omega)
        have v1 := decS_len z1
        have v2 := decS_len z2
        have v3 := hexS_length mb
        have v4 : ¬ 4096 < (mb.length : Int) := of_decide_eq_false b5
        unfold lineM at q5
        dsimp only at q5
        generalize decS mv = m1 at *
        generalize decS mh = m2 at *
        generalize hexS mb = H4 at *
        have cm0 : (([109, 97, 114, 107, 32] : List UInt8).length + (m1 : List UInt8).length ≤ 9223372036854775807) := by simp only [List.length_append, List.length_cons, List.length_nil]; omega
        simp only [runA, runB, runC, runD, runE, runF, fieldE, storeE, binE, ↓reduceIte, Nat.reduceLT, Nat.reduceLeDiff, Nat.reduceEqDiff, Nat.reduceAdd, Nat.reduceMul, Nat.reduceSub, reduceCtorEq, putAt, unE, Nat.reduceBEq, convE, buildE, List.replicate, Int.reduceLT, Int.reduceLE, Int.reduceToNat, mkE, mapSetE] at cm0
        have cm1 : ((([109, 97, 114, 107, 32] ++ m1) : List UInt8).length + ([32] : List UInt8).length ≤ 9223372036854775807) := by simp only [List.length_append, List.length_cons, List.length_nil]; omega
        simp only [runA, runB, runC, runD, runE, runF, fieldE, storeE, binE, ↓reduceIte, Nat.reduceLT, Nat.reduceLeDiff, Nat.reduceEqDiff, Nat.reduceAdd, Nat.reduceMul, Nat.reduceSub, reduceCtorEq, putAt, unE, Nat.reduceBEq, convE, buildE, List.replicate, Int.reduceLT, Int.reduceLE, Int.reduceToNat, mkE, mapSetE] at cm1
        have cm2 : (((([109, 97, 114, 107, 32] ++ m1) ++ [32]) : List UInt8).length + (m2 : List UInt8).length ≤ 9223372036854775807) := by simp only [List.length_append, List.length_cons, List.length_nil]; omega
        simp only [runA, runB, runC, runD, runE, runF, fieldE, storeE, binE, ↓reduceIte, Nat.reduceLT, Nat.reduceLeDiff, Nat.reduceEqDiff, Nat.reduceAdd, Nat.reduceMul, Nat.reduceSub, reduceCtorEq, putAt, unE, Nat.reduceBEq, convE, buildE, List.replicate, Int.reduceLT, Int.reduceLE, Int.reduceToNat, mkE, mapSetE] at cm2
        have cm3 : ((((([109, 97, 114, 107, 32] ++ m1) ++ [32]) ++ m2) : List UInt8).length + ([32] : List UInt8).length ≤ 9223372036854775807) := by simp only [List.length_append, List.length_cons, List.length_nil]; omega
        simp only [runA, runB, runC, runD, runE, runF, fieldE, storeE, binE, ↓reduceIte, Nat.reduceLT, Nat.reduceLeDiff, Nat.reduceEqDiff, Nat.reduceAdd, Nat.reduceMul, Nat.reduceSub, reduceCtorEq, putAt, unE, Nat.reduceBEq, convE, buildE, List.replicate, Int.reduceLT, Int.reduceLE, Int.reduceToNat, mkE, mapSetE] at cm3
        have cm4 : (((((([109, 97, 114, 107, 32] ++ m1) ++ [32]) ++ m2) ++ [32]) : List UInt8).length + (H4 : List UInt8).length ≤ 9223372036854775807) := by simp only [List.length_append, List.length_cons, List.length_nil]; omega
        simp only [runA, runB, runC, runD, runE, runF, fieldE, storeE, binE, ↓reduceIte, Nat.reduceLT, Nat.reduceLeDiff, Nat.reduceEqDiff, Nat.reduceAdd, Nat.reduceMul, Nat.reduceSub, reduceCtorEq, putAt, unE, Nat.reduceBEq, convE, buildE, List.replicate, Int.reduceLT, Int.reduceLE, Int.reduceToNat, mkE, mapSetE] at cm4
        simp only [runA, runB, runC, runD, runE, runF, fieldE, storeE, binE, ↓reduceIte, Nat.reduceLT, Nat.reduceLeDiff, Nat.reduceEqDiff, Nat.reduceAdd, Nat.reduceMul, Nat.reduceSub, reduceCtorEq, putAt, unE, Nat.reduceBEq, convE, buildE, List.replicate, Int.reduceLT, Int.reduceLE, Int.reduceToNat, mkE, mapSetE, hN, hF, ty_3, ty_4, ty_9, ty_42, ty_47, ty_49, ty_51, notIf, isEq, h1, qa, h2, q3, h3, q4, h4, q5, h5, q7, h8, q8, h9, num39C, h10, h7, qs, hbs, i0, i9, i90, j0, j4, j5, h6, a1, a2, a3, a4, a5, a6, a7, cv0, cv1, cv2, cv3, cv4, cv5, cv6, cv7, cv8, cv9, cv10, cv11, cv12, b1, b2, b3, b4, b5, h6, u1, u2, u3, cm0, cm1, cm2, cm3, cm4]
        iterate 8 (try (refine drawnP_intro (by kernel_rfl) (by kernel_rfl) ?_; simp only [runA, runB, runC, runD, runE, runF, fieldE, storeE, binE, ↓reduceIte, Nat.reduceLT, Nat.reduceLeDiff, Nat.reduceEqDiff, Nat.reduceAdd, Nat.reduceMul, Nat.reduceSub, reduceCtorEq, putAt, unE, Nat.reduceBEq, convE, buildE, List.replicate, Int.reduceLT, Int.reduceLE, Int.reduceToNat, mkE, mapSetE, hN, hF, ty_3, ty_4, ty_9, ty_42, ty_47, ty_49, ty_51, notIf, isEq, h1, qa, h2, q3, h3, q4, h4, q5, h5, q7, h8, q8, h9, num39C, h10, h7, qs, hbs, i0, i9, i90, j0, j4, j5, h6, a1, a2, a3, a4, a5, a6, a7, cv0, cv1, cv2, cv3, cv4, cv5, cv6, cv7, cv8, cv9, cv10, cv11, cv12, b1, b2, b3, b4, b5, h6, u1, u2, u3, cm0, cm1, cm2, cm3, cm4]))
        simp only [runB, finC, finD, Option.isSome_some, Option.isSome_none, ↓reduceIte, Nat.reduceEqDiff, Nat.reduceAdd, Nat.reduceMul, forall_eq_or_imp, forall_eq, implies_true, Nat.reduceBEq, reduceCtorEq, false_implies, List.zip_cons_cons, List.zip_nil_left, List.zip_nil_right, Nat.reduceLeDiff, List.forall_mem_nil, rs_5]
  · rw [show voS ⟨kd, vw, ht, bl, tk, sg, sig⟩ = 9 from if_neg hv] at q3 q7
    rw [if_neg hv] at q3
    by_cases hx : okT ⟨fr, to1, am, no, tsig⟩
    · rw [show txS ⟨fr, to1, am, no, tsig⟩ = 0 from if_pos hx] at q4 q8
      rw [if_pos hx] at q4
      obtain ⟨g1, g2, g3, g4, g5, g6, g7, g8⟩ := id hx
      dsimp only at g1 g2 g3 g4 g5 g6 g7 g8
      have s1 : 0 ≤ fr ∧ fr ≤ 1099511627776 := by omega
      have s2 : 0 ≤ to1 ∧ to1 ≤ 1099511627776 := by omega
      have s3 : 0 ≤ am ∧ am ≤ 1099511627776 := by omega
      have s4 : 0 ≤ no ∧ no ≤ 1099511627776 := by omega
      have e1 := dec13_at fr s1.1 s1.2
      have e2 := dec13_at to1 s2.1 s2.2
      have e3 := dec13_at am s3.1 s3.2
      have e4 := dec13_at no s4.1 s4.2
      have e5 := hex_at tsig (by omega)
      have o1 := decS_len s1
      have o2 := decS_len s2
      have o3 := decS_len s3
      have o4 := decS_len s4
      have o5 := hexS_length tsig
      unfold lineT at q4
      dsimp only at q4
      generalize decS fr = f1 at *
      generalize decS to1 = f2 at *
      generalize decS am = f3 at *
      generalize decS no = f4 at *
      generalize hexS tsig = H3 at *
      have ct0 : (([116, 120, 32] : List UInt8).length + (f1 : List UInt8).length ≤ 9223372036854775807) := by simp only [List.length_append, List.length_cons, List.length_nil]; omega
      simp only [runA, runB, runC, runD, runE, runF, fieldE, storeE, binE, ↓reduceIte, Nat.reduceLT, Nat.reduceLeDiff, Nat.reduceEqDiff, Nat.reduceAdd, Nat.reduceMul, Nat.reduceSub, reduceCtorEq, putAt, unE, Nat.reduceBEq, convE, buildE, List.replicate, Int.reduceLT, Int.reduceLE, Int.reduceToNat, mkE, mapSetE] at ct0
      have ct1 : ((([116, 120, 32] ++ f1) : List UInt8).length + ([32] : List UInt8).length ≤ 9223372036854775807) := by simp only [List.length_append, List.length_cons, List.length_nil]; omega
      simp only [runA, runB, runC, runD, runE, runF, fieldE, storeE, binE, ↓reduceIte, Nat.reduceLT, Nat.reduceLeDiff, Nat.reduceEqDiff, Nat.reduceAdd, Nat.reduceMul, Nat.reduceSub, reduceCtorEq, putAt, unE, Nat.reduceBEq, convE, buildE, List.replicate, Int.reduceLT, Int.reduceLE, Int.reduceToNat, mkE, mapSetE] at ct1
      have ct2 : (((([116, 120, 32] ++ f1) ++ [32]) : List UInt8).length + (f2 : List UInt8).length ≤ 9223372036854775807) := by simp only [List.length_append, List.length_cons, List.length_nil]; omega
      simp only [runA, runB, runC, runD, runE, runF, fieldE, storeE, binE, ↓reduceIte, Nat.reduceLT, Nat.reduceLeDiff, Nat.reduceEqDiff, Nat.reduceAdd, Nat.reduceMul, Nat.reduceSub, reduceCtorEq, putAt, unE, Nat.reduceBEq, convE, buildE, List.replicate, Int.reduceLT, Int.reduceLE, Int.reduceToNat, mkE, mapSetE] at ct2
      have ct3 : ((((([116, 120, 32] ++ f1) ++ [32]) ++ f2) : List UInt8).length + ([32] : List UInt8).length ≤ 9223372036854775807) := by simp only [List.length_append, List.length_cons, List.length_nil]; omega
      simp only [runA, runB, runC, runD, runE, runF, fieldE, storeE, binE, ↓reduceIte, Nat.reduceLT, Nat.reduceLeDiff, Nat.reduceEqDiff, Nat.reduceAdd, Nat.reduceMul, Nat.reduceSub, reduceCtorEq, putAt, unE, Nat.reduceBEq, convE, buildE, List.replicate, Int.reduceLT, Int.reduceLE, Int.reduceToNat, mkE, mapSetE] at ct3
      have ct4 : (((((([116, 120, 32] ++ f1) ++ [32]) ++ f2) ++ [32]) : List UInt8).length + (f3 : List UInt8).length ≤ 9223372036854775807) := by simp only [List.length_append, List.length_cons, List.length_nil]; omega
      simp only [runA, runB, runC, runD, runE, runF, fieldE, storeE, binE, ↓reduceIte, Nat.reduceLT, Nat.reduceLeDiff, Nat.reduceEqDiff, Nat.reduceAdd, Nat.reduceMul, Nat.reduceSub, reduceCtorEq, putAt, unE, Nat.reduceBEq, convE, buildE, List.replicate, Int.reduceLT, Int.reduceLE, Int.reduceToNat, mkE, mapSetE] at ct4
      have ct5 : ((((((([116, 120, 32] ++ f1) ++ [32]) ++ f2) ++ [32]) ++ f3) : List UInt8).length + ([32] : List UInt8).length ≤ 9223372036854775807) := by simp only [List.length_append, List.length_cons, List.length_nil]; omega
      simp only [runA, runB, runC, runD, runE, runF, fieldE, storeE, binE, ↓reduceIte, Nat.reduceLT, Nat.reduceLeDiff, Nat.reduceEqDiff, Nat.reduceAdd, Nat.reduceMul, Nat.reduceSub, reduceCtorEq, putAt, unE, Nat.reduceBEq, convE, buildE, List.replicate, Int.reduceLT, Int.reduceLE, Int.reduceToNat, mkE, mapSetE] at ct5
      have ct6 : (((((((([116, 120, 32] ++ f1) ++ [32]) ++ f2) ++ [32]) ++ f3) ++ [32]) : List UInt8).length + (f4 : List UInt8).length ≤ 9223372036854775807) := by simp only [List.length_append, List.length_cons, List.length_nil]; omega
      simp only [runA, runB, runC, runD, runE, runF, fieldE, storeE, binE, ↓reduceIte, Nat.reduceLT, Nat.reduceLeDiff, Nat.reduceEqDiff, Nat.reduceAdd, Nat.reduceMul, Nat.reduceSub, reduceCtorEq, putAt, unE, Nat.reduceBEq, convE, buildE, List.replicate, Int.reduceLT, Int.reduceLE, Int.reduceToNat, mkE, mapSetE] at ct6
      have ct7 : ((((((((([116, 120, 32] ++ f1) ++ [32]) ++ f2) ++ [32]) ++ f3) ++ [32]) ++ f4) : List UInt8).length + ([32] : List UInt8).length ≤ 9223372036854775807) := by simp only [List.length_append, List.length_cons, List.length_nil]; omega
      simp only [runA, runB, runC, runD, runE, runF, fieldE, storeE, binE, ↓reduceIte, Nat.reduceLT, Nat.reduceLeDiff, Nat.reduceEqDiff, Nat.reduceAdd, Nat.reduceMul, Nat.reduceSub, reduceCtorEq, putAt, unE, Nat.reduceBEq, convE, buildE, List.replicate, Int.reduceLT, Int.reduceLE, Int.reduceToNat, mkE, mapSetE] at ct7
      have ct8 : (((((((((([116, 120, 32] ++ f1) ++ [32]) ++ f2) ++ [32]) ++ f3) ++ [32]) ++ f4) ++ [32]) : List UInt8).length + (H3 : List UInt8).length ≤ 9223372036854775807) := by simp only [List.length_append, List.length_cons, List.length_nil]; omega
      simp only [runA, runB, runC, runD, runE, runF, fieldE, storeE, binE, ↓reduceIte, Nat.reduceLT, Nat.reduceLeDiff, Nat.reduceEqDiff, Nat.reduceAdd, Nat.reduceMul, Nat.reduceSub, reduceCtorEq, putAt, unE, Nat.reduceBEq, convE, buildE, List.replicate, Int.reduceLT, Int.reduceLE, Int.reduceToNat, mkE, mapSetE] at ct8
      rcases hm with ⟨hE, b1⟩ | ⟨hE, b1, b2⟩ | ⟨hE, b1, b2, b3⟩ | ⟨hE, b1, b2, b3, b4⟩ | ⟨hE, b1, b2, b3, b4, b5⟩ | ⟨hE, b1, b2, b3, b4, b5, z1, z2⟩
      · rw [hE, if_neg (by decide)] at q5
        simp only [runA, runB, runC, runD, runE, runF, fieldE, storeE, binE, ↓reduceIte, Nat.reduceLT, Nat.reduceLeDiff, Nat.reduceEqDiff, Nat.reduceAdd, Nat.reduceMul, Nat.reduceSub, reduceCtorEq, putAt, unE, Nat.reduceBEq, convE, buildE, List.replicate, Int.reduceLT, Int.reduceLE, Int.reduceToNat, mkE, mapSetE, hN, hF, ty_3, ty_4, ty_9, ty_42, ty_47, ty_49, ty_51, notIf, isEq, h1, qa, h2, q3, h3, q4, h4, q5, h5, q7, h8, q8, h9, num39C, h10, h7, qs, hbs, i0, i9, i90, j0, j4, j5, h6, e1, e2, e3, e4, e5, ct0, ct1, ct2, ct3, ct4, ct5, ct6, ct7, ct8, b1]
        iterate 8 (try (refine drawnP_intro (by kernel_rfl) (by kernel_rfl) ?_; simp only [runA, runB, runC, runD, runE, runF, fieldE, storeE, binE, ↓reduceIte, Nat.reduceLT, Nat.reduceLeDiff, Nat.reduceEqDiff, Nat.reduceAdd, Nat.reduceMul, Nat.reduceSub, reduceCtorEq, putAt, unE, Nat.reduceBEq, convE, buildE, List.replicate, Int.reduceLT, Int.reduceLE, Int.reduceToNat, mkE, mapSetE, hN, hF, ty_3, ty_4, ty_9, ty_42, ty_47, ty_49, ty_51, notIf, isEq, h1, qa, h2, q3, h3, q4, h4, q5, h5, q7, h8, q8, h9, num39C, h10, h7, qs, hbs, i0, i9, i90, j0, j4, j5, h6, e1, e2, e3, e4, e5, ct0, ct1, ct2, ct3, ct4, ct5, ct6, ct7, ct8, b1]))
        simp only [runB, finC, finD, Option.isSome_some, Option.isSome_none, ↓reduceIte, Nat.reduceEqDiff, Nat.reduceAdd, Nat.reduceMul, forall_eq_or_imp, forall_eq, implies_true, Nat.reduceBEq, reduceCtorEq, false_implies, List.zip_cons_cons, List.zip_nil_left, List.zip_nil_right, Nat.reduceLeDiff, List.forall_mem_nil, rs_5]
      · rw [hE, if_neg (by decide)] at q5
        simp only [runA, runB, runC, runD, runE, runF, fieldE, storeE, binE, ↓reduceIte, Nat.reduceLT, Nat.reduceLeDiff, Nat.reduceEqDiff, Nat.reduceAdd, Nat.reduceMul, Nat.reduceSub, reduceCtorEq, putAt, unE, Nat.reduceBEq, convE, buildE, List.replicate, Int.reduceLT, Int.reduceLE, Int.reduceToNat, mkE, mapSetE, hN, hF, ty_3, ty_4, ty_9, ty_42, ty_47, ty_49, ty_51, notIf, isEq, h1, qa, h2, q3, h3, q4, h4, q5, h5, q7, h8, q8, h9, num39C, h10, h7, qs, hbs, i0, i9, i90, j0, j4, j5, h6, e1, e2, e3, e4, e5, ct0, ct1, ct2, ct3, ct4, ct5, ct6, ct7, ct8, b1, b2]
        iterate 8 (try (refine drawnP_intro (by kernel_rfl) (by kernel_rfl) ?_; simp only [runA, runB, runC, runD, runE, runF, fieldE, storeE, binE, ↓reduceIte, Nat.reduceLT, Nat.reduceLeDiff, Nat.reduceEqDiff, Nat.reduceAdd, Nat.reduceMul, Nat.reduceSub, reduceCtorEq, putAt, unE, Nat.reduceBEq, convE, buildE, List.replicate, Int.reduceLT, Int.reduceLE, Int.reduceToNat, mkE, mapSetE, hN, hF, ty_3, ty_4, ty_9, ty_42, ty_47, ty_49, ty_51, notIf, isEq, h1, qa, h2, q3, h3, q4, h4, q5, h5, q7, h8, q8, h9, num39C, h10, h7, qs, hbs, i0, i9, i90, j0, j4, j5, h6, e1, e2, e3, e4, e5, ct0, ct1, ct2, ct3, ct4, ct5, ct6, ct7, ct8, b1, b2]))
        simp only [runB, finC, finD, Option.isSome_some, Option.isSome_none, ↓reduceIte, Nat.reduceEqDiff, Nat.reduceAdd, Nat.reduceMul, forall_eq_or_imp, forall_eq, implies_true, Nat.reduceBEq, reduceCtorEq, false_implies, List.zip_cons_cons, List.zip_nil_left, List.zip_nil_right, Nat.reduceLeDiff, List.forall_mem_nil, rs_5]
      · rw [hE, if_neg (by decide)] at q5
        simp only [runA, runB, runC, runD, runE, runF, fieldE, storeE, binE, ↓reduceIte, Nat.reduceLT, Nat.reduceLeDiff, Nat.reduceEqDiff, Nat.reduceAdd, Nat.reduceMul, Nat.reduceSub, reduceCtorEq, putAt, unE, Nat.reduceBEq, convE, buildE, List.replicate, Int.reduceLT, Int.reduceLE, Int.reduceToNat, mkE, mapSetE, hN, hF, ty_3, ty_4, ty_9, ty_42, ty_47, ty_49, ty_51, notIf, isEq, h1, qa, h2, q3, h3, q4, h4, q5, h5, q7, h8, q8, h9, num39C, h10, h7, qs, hbs, i0, i9, i90, j0, j4, j5, h6, e1, e2, e3, e4, e5, ct0, ct1, ct2, ct3, ct4, ct5, ct6, ct7, ct8, b1, b2, b3]
        iterate 8 (try (refine drawnP_intro (by kernel_rfl) (by kernel_rfl) ?_; simp only [runA, runB, runC, runD, runE, runF, fieldE, storeE, binE, ↓reduceIte, Nat.reduceLT, Nat.reduceLeDiff, Nat.reduceEqDiff, Nat.reduceAdd, Nat.reduceMul, Nat.reduceSub, reduceCtorEq, putAt, unE, Nat.reduceBEq, convE, buildE, List.replicate, Int.reduceLT, Int.reduceLE, Int.reduceToNat, mkE, mapSetE, hN, hF, ty_3, ty_4, ty_9, ty_42, ty_47, ty_49, ty_51, notIf, isEq, h1, qa, h2, q3, h3, q4, h4, q5, h5, q7, h8, q8, h9, num39C, h10, h7, qs, hbs, i0, i9, i90, j0, j4, j5, h6, e1, e2, e3, e4, e5, ct0, ct1, ct2, ct3, ct4, ct5, ct6, ct7, ct8, b1, b2, b3]))
        simp only [runB, finC, finD, Option.isSome_some, Option.isSome_none, ↓reduceIte, Nat.reduceEqDiff, Nat.reduceAdd, Nat.reduceMul, forall_eq_or_imp, forall_eq, implies_true, Nat.reduceBEq, reduceCtorEq, false_implies, List.zip_cons_cons, List.zip_nil_left, List.zip_nil_right, Nat.reduceLeDiff, List.forall_mem_nil, rs_5]
      · rw [hE, if_neg (by decide)] at q5
        simp only [runA, runB, runC, runD, runE, runF, fieldE, storeE, binE, ↓reduceIte, Nat.reduceLT, Nat.reduceLeDiff, Nat.reduceEqDiff, Nat.reduceAdd, Nat.reduceMul, Nat.reduceSub, reduceCtorEq, putAt, unE, Nat.reduceBEq, convE, buildE, List.replicate, Int.reduceLT, Int.reduceLE, Int.reduceToNat, mkE, mapSetE, hN, hF, ty_3, ty_4, ty_9, ty_42, ty_47, ty_49, ty_51, notIf, isEq, h1, qa, h2, q3, h3, q4, h4, q5, h5, q7, h8, q8, h9, num39C, h10, h7, qs, hbs, i0, i9, i90, j0, j4, j5, h6, e1, e2, e3, e4, e5, ct0, ct1, ct2, ct3, ct4, ct5, ct6, ct7, ct8, b1, b2, b3, b4]
        iterate 8 (try (refine drawnP_intro (by kernel_rfl) (by kernel_rfl) ?_; simp only [runA, runB, runC, runD, runE, runF, fieldE, storeE, binE, ↓reduceIte, Nat.reduceLT, Nat.reduceLeDiff, Nat.reduceEqDiff, Nat.reduceAdd, Nat.reduceMul, Nat.reduceSub, reduceCtorEq, putAt, unE, Nat.reduceBEq, convE, buildE, List.replicate, Int.reduceLT, Int.reduceLE, Int.reduceToNat, mkE, mapSetE, hN, hF, ty_3, ty_4, ty_9, ty_42, ty_47, ty_49, ty_51, notIf, isEq, h1, qa, h2, q3, h3, q4, h4, q5, h5, q7, h8, q8, h9, num39C, h10, h7, qs, hbs, i0, i9, i90, j0, j4, j5, h6, e1, e2, e3, e4, e5, ct0, ct1, ct2, ct3, ct4, ct5, ct6, ct7, ct8, b1, b2, b3, b4]))
        simp only [runB, finC, finD, Option.isSome_some, Option.isSome_none, ↓reduceIte, Nat.reduceEqDiff, Nat.reduceAdd, Nat.reduceMul, forall_eq_or_imp, forall_eq, implies_true, Nat.reduceBEq, reduceCtorEq, false_implies, List.zip_cons_cons, List.zip_nil_left, List.zip_nil_right, Nat.reduceLeDiff, List.forall_mem_nil, rs_5]
      · rw [hE, if_neg (by decide)] at q5
        simp only [runA, runB, runC, runD, runE, runF, fieldE, storeE, binE, ↓reduceIte, Nat.reduceLT, Nat.reduceLeDiff, Nat.reduceEqDiff, Nat.reduceAdd, Nat.reduceMul, Nat.reduceSub, reduceCtorEq, putAt, unE, Nat.reduceBEq, convE, buildE, List.replicate, Int.reduceLT, Int.reduceLE, Int.reduceToNat, mkE, mapSetE, hN, hF, ty_3, ty_4, ty_9, ty_42, ty_47, ty_49, ty_51, notIf, isEq, h1, qa, h2, q3, h3, q4, h4, q5, h5, q7, h8, q8, h9, num39C, h10, h7, qs, hbs, i0, i9, i90, j0, j4, j5, h6, e1, e2, e3, e4, e5, ct0, ct1, ct2, ct3, ct4, ct5, ct6, ct7, ct8, b1, b2, b3, b4, b5]
        iterate 8 (try (refine drawnP_intro (by kernel_rfl) (by kernel_rfl) ?_; simp only [runA, runB, runC, runD, runE, runF, fieldE, storeE, binE, ↓reduceIte, Nat.reduceLT, Nat.reduceLeDiff, Nat.reduceEqDiff, Nat.reduceAdd, Nat.reduceMul, Nat.reduceSub, reduceCtorEq, putAt, unE, Nat.reduceBEq, convE, buildE, List.replicate, Int.reduceLT, Int.reduceLE, Int.reduceToNat, mkE, mapSetE, hN, hF, ty_3, ty_4, ty_9, ty_42, ty_47, ty_49, ty_51, notIf, isEq, h1, qa, h2, q3, h3, q4, h4, q5, h5, q7, h8, q8, h9, num39C, h10, h7, qs, hbs, i0, i9, i90, j0, j4, j5, h6, e1, e2, e3, e4, e5, ct0, ct1, ct2, ct3, ct4, ct5, ct6, ct7, ct8, b1, b2, b3, b4, b5]))
        simp only [runB, finC, finD, Option.isSome_some, Option.isSome_none, ↓reduceIte, Nat.reduceEqDiff, Nat.reduceAdd, Nat.reduceMul, forall_eq_or_imp, forall_eq, implies_true, Nat.reduceBEq, reduceCtorEq, false_implies, List.zip_cons_cons, List.zip_nil_left, List.zip_nil_right, Nat.reduceLeDiff, List.forall_mem_nil, rs_5]
      · rw [hE, if_pos rfl] at q5
        have u1 := dec13_at mv z1.1 z1.2
        have u2 := dec13_at mh z2.1 z2.2
        have u3 := hex_at mb (by have : ¬ 4096 < (mb.length : Int) := of_decide_eq_false b5; omega)
        have v1 := decS_len z1
        have v2 := decS_len z2
        have v3 := hexS_length mb
        have v4 : ¬ 4096 < (mb.length : Int) := of_decide_eq_false b5
        unfold lineM at q5
        dsimp only at q5
        generalize decS mv = m1 at *
        generalize decS mh = m2 at *
        generalize hexS mb = H4 at *
        have cm0 : (([109, 97, 114, 107, 32] : List UInt8).length + (m1 : List UInt8).length ≤ 9223372036854775807) := by simp only [List.length_append, List.length_cons, List.length_nil]; omega
        simp only [runA, runB, runC, runD, runE, runF, fieldE, storeE, binE, ↓reduceIte, Nat.reduceLT, Nat.reduceLeDiff, Nat.reduceEqDiff, Nat.reduceAdd, Nat.reduceMul, Nat.reduceSub, reduceCtorEq, putAt, unE, Nat.reduceBEq, convE, buildE, List.replicate, Int.reduceLT, Int.reduceLE, Int.reduceToNat, mkE, mapSetE] at cm0
        have cm1 : ((([109, 97, 114, 107, 32] ++ m1) : List UInt8).length + ([32] : List UInt8).length ≤ 9223372036854775807) := by simp only [List.length_append, List.length_cons, List.length_nil]; omega
        simp only [runA, runB, runC, runD, runE, runF, fieldE, storeE, binE, ↓reduceIte, Nat.reduceLT, Nat.reduceLeDiff, Nat.reduceEqDiff, Nat.reduceAdd, Nat.reduceMul, Nat.reduceSub, reduceCtorEq, putAt, unE, Nat.reduceBEq, convE, buildE, List.replicate, Int.reduceLT, Int.reduceLE, Int.reduceToNat, mkE, mapSetE] at cm1
        have cm2 : (((([109, 97, 114, 107, 32] ++ m1) ++ [32]) : List UInt8).length + (m2 : List UInt8).length ≤ 9223372036854775807) := by simp only [List.length_append, List.length_cons, List.length_nil]; omega
        simp only [runA, runB, runC, runD, runE, runF, fieldE, storeE, binE, ↓reduceIte, Nat.reduceLT, Nat.reduceLeDiff, Nat.reduceEqDiff, Nat.reduceAdd, Nat.reduceMul, Nat.reduceSub, reduceCtorEq, putAt, unE, Nat.reduceBEq, convE, buildE, List.replicate, Int.reduceLT, Int.reduceLE, Int.reduceToNat, mkE, mapSetE] at cm2
        have cm3 : ((((([109, 97, 114, 107, 32] ++ m1) ++ [32]) ++ m2) : List UInt8).length + ([32] : List UInt8).length ≤ 9223372036854775807) := by simp only [List.length_append, List.length_cons, List.length_nil]; omega
        simp only [runA, runB, runC, runD, runE, runF, fieldE, storeE, binE, ↓reduceIte, Nat.reduceLT, Nat.reduceLeDiff, Nat.reduceEqDiff, Nat.reduceAdd, Nat.reduceMul, Nat.reduceSub, reduceCtorEq, putAt, unE, Nat.reduceBEq, convE, buildE, List.replicate, Int.reduceLT, Int.reduceLE, Int.reduceToNat, mkE, mapSetE] at cm3
        have cm4 : (((((([109, 97, 114, 107, 32] ++ m1) ++ [32]) ++ m2) ++ [32]) : List UInt8).length + (H4 : List UInt8).length ≤ 9223372036854775807) := by simp only [List.length_append, List.length_cons, List.length_nil]; omega
        simp only [runA, runB, runC, runD, runE, runF, fieldE, storeE, binE, ↓reduceIte, Nat.reduceLT, Nat.reduceLeDiff, Nat.reduceEqDiff, Nat.reduceAdd, Nat.reduceMul, Nat.reduceSub, reduceCtorEq, putAt, unE, Nat.reduceBEq, convE, buildE, List.replicate, Int.reduceLT, Int.reduceLE, Int.reduceToNat, mkE, mapSetE] at cm4
        simp only [runA, runB, runC, runD, runE, runF, fieldE, storeE, binE, ↓reduceIte, Nat.reduceLT, Nat.reduceLeDiff, Nat.reduceEqDiff, Nat.reduceAdd, Nat.reduceMul, Nat.reduceSub, reduceCtorEq, putAt, unE, Nat.reduceBEq, convE, buildE, List.replicate, Int.reduceLT, Int.reduceLE, Int.reduceToNat, mkE, mapSetE, hN, hF, ty_3, ty_4, ty_9, ty_42, ty_47, ty_49, ty_51, notIf, isEq, h1, qa, h2, q3, h3, q4, h4, q5, h5, q7, h8, q8, h9, num39C, h10, h7, qs, hbs, i0, i9, i90, j0, j4, j5, h6, e1, e2, e3, e4, e5, ct0, ct1, ct2, ct3, ct4, ct5, ct6, ct7, ct8, b1, b2, b3, b4, b5, h6, u1, u2, u3, cm0, cm1, cm2, cm3, cm4]
        iterate 8 (try (refine drawnP_intro (by kernel_rfl) (by kernel_rfl) ?_; simp only [runA, runB, runC, runD, runE, runF, fieldE, storeE, binE, ↓reduceIte, Nat.reduceLT, Nat.reduceLeDiff, Nat.reduceEqDiff, Nat.reduceAdd, Nat.reduceMul, Nat.reduceSub, reduceCtorEq, putAt, unE, Nat.reduceBEq, convE, buildE, List.replicate, Int.reduceLT, Int.reduceLE, Int.reduceToNat, mkE, mapSetE, hN, hF, ty_3, ty_4, ty_9, ty_42, ty_47, ty_49, ty_51, notIf, isEq, h1, qa, h2, q3, h3, q4, h4, q5, h5, q7, h8, q8, h9, num39C, h10, h7, qs, hbs, i0, i9, i90, j0, j4, j5, h6, e1, e2, e3, e4, e5, ct0, ct1, ct2, ct3, ct4, ct5, ct6, ct7, ct8, b1, b2, b3, b4, b5, h6, u1, u2, u3, cm0, cm1, cm2, cm3, cm4]))
        simp only [runB, finC, finD, Option.isSome_some, Option.isSome_none, ↓reduceIte, Nat.reduceEqDiff, Nat.reduceAdd, Nat.reduceMul, forall_eq_or_imp, forall_eq, implies_true, Nat.reduceBEq, reduceCtorEq, false_implies, List.zip_cons_cons, List.zip_nil_left, List.zip_nil_right, Nat.reduceLeDiff, List.forall_mem_nil, rs_5]
    · rw [show txS ⟨fr, to1, am, no, tsig⟩ = 9 from if_neg hx] at q4 q8
      rw [if_neg hx] at q4
      rcases hm with ⟨hE, b1⟩ | ⟨hE, b1, b2⟩ | ⟨hE, b1, b2, b3⟩ | ⟨hE, b1, b2, b3, b4⟩ | ⟨hE, b1, b2, b3, b4, b5⟩ | ⟨hE, b1, b2, b3, b4, b5, z1, z2⟩
      · rw [hE, if_neg (by decide)] at q5
        simp only [runA, runB, runC, runD, runE, runF, fieldE, storeE, binE, ↓reduceIte, Nat.reduceLT, Nat.reduceLeDiff, Nat.reduceEqDiff, Nat.reduceAdd, Nat.reduceMul, Nat.reduceSub, reduceCtorEq, putAt, unE, Nat.reduceBEq, convE, buildE, List.replicate, Int.reduceLT, Int.reduceLE, Int.reduceToNat, mkE, mapSetE, hN, hF, ty_3, ty_4, ty_9, ty_42, ty_47, ty_49, ty_51, notIf, isEq, h1, qa, h2, q3, h3, q4, h4, q5, h5, q7, h8, q8, h9, num39C, h10, h7, qs, hbs, i0, i9, i90, j0, j4, j5, b1]
        iterate 8 (try (refine drawnP_intro (by kernel_rfl) (by kernel_rfl) ?_; simp only [runA, runB, runC, runD, runE, runF, fieldE, storeE, binE, ↓reduceIte, Nat.reduceLT, Nat.reduceLeDiff, Nat.reduceEqDiff, Nat.reduceAdd, Nat.reduceMul, Nat.reduceSub, reduceCtorEq, putAt, unE, Nat.reduceBEq, convE, buildE, List.replicate, Int.reduceLT, Int.reduceLE, Int.reduceToNat, mkE, mapSetE, hN, hF, ty_3, ty_4, ty_9, ty_42, ty_47, ty_49, ty_51, notIf, isEq, h1, qa, h2, q3, h3, q4, h4, q5, h5, q7, h8, q8, h9, num39C, h10, h7, qs, hbs, i0, i9, i90, j0, j4, j5, b1]))
        simp only [runB, finC, finD, Option.isSome_some, Option.isSome_none, ↓reduceIte, Nat.reduceEqDiff, Nat.reduceAdd, Nat.reduceMul, forall_eq_or_imp, forall_eq, implies_true, Nat.reduceBEq, reduceCtorEq, false_implies, List.zip_cons_cons, List.zip_nil_left, List.zip_nil_right, Nat.reduceLeDiff, List.forall_mem_nil, rs_5]
      · rw [hE, if_neg (by decide)] at q5
        simp only [runA, runB, runC, runD, runE, runF, fieldE, storeE, binE, ↓reduceIte, Nat.reduceLT, Nat.reduceLeDiff, Nat.reduceEqDiff, Nat.reduceAdd, Nat.reduceMul, Nat.reduceSub, reduceCtorEq, putAt, unE, Nat.reduceBEq, convE, buildE, List.replicate, Int.reduceLT, Int.reduceLE, Int.reduceToNat, mkE, mapSetE, hN, hF, ty_3, ty_4, ty_9, ty_42, ty_47, ty_49, ty_51, notIf, isEq, h1, qa, h2, q3, h3, q4, h4, q5, h5, q7, h8, q8, h9, num39C, h10, h7, qs, hbs, i0, i9, i90, j0, j4, j5, b1, b2]
        iterate 8 (try (refine drawnP_intro (by kernel_rfl) (by kernel_rfl) ?_; simp only [runA, runB, runC, runD, runE, runF, fieldE, storeE, binE, ↓reduceIte, Nat.reduceLT, Nat.reduceLeDiff, Nat.reduceEqDiff, Nat.reduceAdd, Nat.reduceMul, Nat.reduceSub, reduceCtorEq, putAt, unE, Nat.reduceBEq, convE, buildE, List.replicate, Int.reduceLT, Int.reduceLE, Int.reduceToNat, mkE, mapSetE, hN, hF, ty_3, ty_4, ty_9, ty_42, ty_47, ty_49, ty_51, notIf, isEq, h1, qa, h2, q3, h3, q4, h4, q5, h5, q7, h8, q8, h9, num39C, h10, h7, qs, hbs, i0, i9, i90, j0, j4, j5, b1, b2]))
        simp only [runB, finC, finD, Option.isSome_some, Option.isSome_none, ↓reduceIte, Nat.reduceEqDiff, Nat.reduceAdd, Nat.reduceMul, forall_eq_or_imp, forall_eq, implies_true, Nat.reduceBEq, reduceCtorEq, false_implies, List.zip_cons_cons, List.zip_nil_left, List.zip_nil_right, Nat.reduceLeDiff, List.forall_mem_nil, rs_5]
      · rw [hE, if_neg (by decide)] at q5
        simp only [runA, runB, runC, runD, runE, runF, fieldE, storeE, binE, ↓reduceIte, Nat.reduceLT, Nat.reduceLeDiff, Nat.reduceEqDiff, Nat.reduceAdd, Nat.reduceMul, Nat.reduceSub, reduceCtorEq, putAt, unE, Nat.reduceBEq, convE, buildE, List.replicate, Int.reduceLT, Int.reduceLE, Int.reduceToNat, mkE, mapSetE, hN, hF, ty_3, ty_4, ty_9, ty_42, ty_47, ty_49, ty_51, notIf, isEq, h1, qa, h2, q3, h3, q4, h4, q5, h5, q7, h8, q8, h9, num39C, h10, h7, qs, hbs, i0, i9, i90, j0, j4, j5, b1, b2, b3]
        iterate 8 (try (refine drawnP_intro (by kernel_rfl) (by kernel_rfl) ?_; simp only [runA, runB, runC, runD, runE, runF, fieldE, storeE, binE, ↓reduceIte, Nat.reduceLT, Nat.reduceLeDiff, Nat.reduceEqDiff, Nat.reduceAdd, Nat.reduceMul, Nat.reduceSub, reduceCtorEq, putAt, unE, Nat.reduceBEq, convE, buildE, List.replicate, Int.reduceLT, Int.reduceLE, Int.reduceToNat, mkE, mapSetE, hN, hF, ty_3, ty_4, ty_9, ty_42, ty_47, ty_49, ty_51, notIf, isEq, h1, qa, h2, q3, h3, q4, h4, q5, h5, q7, h8, q8, h9, num39C, h10, h7, qs, hbs, i0, i9, i90, j0, j4, j5, b1, b2, b3]))
        simp only [runB, finC, finD, Option.isSome_some, Option.isSome_none, ↓reduceIte, Nat.reduceEqDiff, Nat.reduceAdd, Nat.reduceMul, forall_eq_or_imp, forall_eq, implies_true, Nat.reduceBEq, reduceCtorEq, false_implies, List.zip_cons_cons, List.zip_nil_left, List.zip_nil_right, Nat.reduceLeDiff, List.forall_mem_nil, rs_5]
      · rw [hE, if_neg (by decide)] at q5
        simp only [runA, runB, runC, runD, runE, runF, fieldE, storeE, binE, ↓reduceIte, Nat.reduceLT, Nat.reduceLeDiff, Nat.reduceEqDiff, Nat.reduceAdd, Nat.reduceMul, Nat.reduceSub, reduceCtorEq, putAt, unE, Nat.reduceBEq, convE, buildE, List.replicate, Int.reduceLT, Int.reduceLE, Int.reduceToNat, mkE, mapSetE, hN, hF, ty_3, ty_4, ty_9, ty_42, ty_47, ty_49, ty_51, notIf, isEq, h1, qa, h2, q3, h3, q4, h4, q5, h5, q7, h8, q8, h9, num39C, h10, h7, qs, hbs, i0, i9, i90, j0, j4, j5, b1, b2, b3, b4]
        iterate 8 (try (refine drawnP_intro (by kernel_rfl) (by kernel_rfl) ?_; simp only [runA, runB, runC, runD, runE, runF, fieldE, storeE, binE, ↓reduceIte, Nat.reduceLT, Nat.reduceLeDiff, Nat.reduceEqDiff, Nat.reduceAdd, Nat.reduceMul, Nat.reduceSub, reduceCtorEq, putAt, unE, Nat.reduceBEq, convE, buildE, List.replicate, Int.reduceLT, Int.reduceLE, Int.reduceToNat, mkE, mapSetE, hN, hF, ty_3, ty_4, ty_9, ty_42, ty_47, ty_49, ty_51, notIf, isEq, h1, qa, h2, q3, h3, q4, h4, q5, h5, q7, h8, q8, h9, num39C, h10, h7, qs, hbs, i0, i9, i90, j0, j4, j5, b1, b2, b3, b4]))
        simp only [runB, finC, finD, Option.isSome_some, Option.isSome_none, ↓reduceIte, Nat.reduceEqDiff, Nat.reduceAdd, Nat.reduceMul, forall_eq_or_imp, forall_eq, implies_true, Nat.reduceBEq, reduceCtorEq, false_implies, List.zip_cons_cons, List.zip_nil_left, List.zip_nil_right, Nat.reduceLeDiff, List.forall_mem_nil, rs_5]
      · rw [hE, if_neg (by decide)] at q5
        simp only [runA, runB, runC, runD, runE, runF, fieldE, storeE, binE, ↓reduceIte, Nat.reduceLT, Nat.reduceLeDiff, Nat.reduceEqDiff, Nat.reduceAdd, Nat.reduceMul, Nat.reduceSub, reduceCtorEq, putAt, unE, Nat.reduceBEq, convE, buildE, List.replicate, Int.reduceLT, Int.reduceLE, Int.reduceToNat, mkE, mapSetE, hN, hF, ty_3, ty_4, ty_9, ty_42, ty_47, ty_49, ty_51, notIf, isEq, h1, qa, h2, q3, h3, q4, h4, q5, h5, q7, h8, q8, h9, num39C, h10, h7, qs, hbs, i0, i9, i90, j0, j4, j5, b1, b2, b3, b4, b5]
        iterate 8 (try (refine drawnP_intro (by kernel_rfl) (by kernel_rfl) ?_; simp only [runA, runB, runC, runD, runE, runF, fieldE, storeE, binE, ↓reduceIte, Nat.reduceLT, Nat.reduceLeDiff, Nat.reduceEqDiff, Nat.reduceAdd, Nat.reduceMul, Nat.reduceSub, reduceCtorEq, putAt, unE, Nat.reduceBEq, convE, buildE, List.replicate, Int.reduceLT, Int.reduceLE, Int.reduceToNat, mkE, mapSetE, hN, hF, ty_3, ty_4, ty_9, ty_42, ty_47, ty_49, ty_51, notIf, isEq, h1, qa, h2, q3, h3, q4, h4, q5, h5, q7, h8, q8, h9, num39C, h10, h7, qs, hbs, i0, i9, i90, j0, j4, j5, b1, b2, b3, b4, b5]))
        simp only [runB, finC, finD, Option.isSome_some, Option.isSome_none, ↓reduceIte, Nat.reduceEqDiff, Nat.reduceAdd, Nat.reduceMul, forall_eq_or_imp, forall_eq, implies_true, Nat.reduceBEq, reduceCtorEq, false_implies, List.zip_cons_cons, List.zip_nil_left, List.zip_nil_right, Nat.reduceLeDiff, List.forall_mem_nil, rs_5]
      · rw [hE, if_pos rfl] at q5
        have u1 := dec13_at mv z1.1 z1.2
        have u2 := dec13_at mh z2.1 z2.2
        have u3 := hex_at mb (by have : ¬ 4096 < (mb.length : Int) := of_decide_eq_false b5; omega)
        have v1 := decS_len z1
        have v2 := decS_len z2
        have v3 := hexS_length mb
        have v4 : ¬ 4096 < (mb.length : Int) := of_decide_eq_false b5
        unfold lineM at q5
        dsimp only at q5
        generalize decS mv = m1 at *
        generalize decS mh = m2 at *
        generalize hexS mb = H4 at *
        have cm0 : (([109, 97, 114, 107, 32] : List UInt8).length + (m1 : List UInt8).length ≤ 9223372036854775807) := by simp only [List.length_append, List.length_cons, List.length_nil]; omega
        simp only [runA, runB, runC, runD, runE, runF, fieldE, storeE, binE, ↓reduceIte, Nat.reduceLT, Nat.reduceLeDiff, Nat.reduceEqDiff, Nat.reduceAdd, Nat.reduceMul, Nat.reduceSub, reduceCtorEq, putAt, unE, Nat.reduceBEq, convE, buildE, List.replicate, Int.reduceLT, Int.reduceLE, Int.reduceToNat, mkE, mapSetE] at cm0
        have cm1 : ((([109, 97, 114, 107, 32] ++ m1) : List UInt8).length + ([32] : List UInt8).length ≤ 9223372036854775807) := by simp only [List.length_append, List.length_cons, List.length_nil]; omega
        simp only [runA, runB, runC, runD, runE, runF, fieldE, storeE, binE, ↓reduceIte, Nat.reduceLT, Nat.reduceLeDiff, Nat.reduceEqDiff, Nat.reduceAdd, Nat.reduceMul, Nat.reduceSub, reduceCtorEq, putAt, unE, Nat.reduceBEq, convE, buildE, List.replicate, Int.reduceLT, Int.reduceLE, Int.reduceToNat, mkE, mapSetE] at cm1
        have cm2 : (((([109, 97, 114, 107, 32] ++ m1) ++ [32]) : List UInt8).length + (m2 : List UInt8).length ≤ 9223372036854775807) := by simp only [List.length_append, List.length_cons, List.length_nil]; omega
        simp only [runA, runB, runC, runD, runE, runF, fieldE, storeE, binE, ↓reduceIte, Nat.reduceLT, Nat.reduceLeDiff, Nat.reduceEqDiff, Nat.reduceAdd, Nat.reduceMul, Nat.reduceSub, reduceCtorEq, putAt, unE, Nat.reduceBEq, convE, buildE, List.replicate, Int.reduceLT, Int.reduceLE, Int.reduceToNat, mkE, mapSetE] at cm2
        have cm3 : ((((([109, 97, 114, 107, 32] ++ m1) ++ [32]) ++ m2) : List UInt8).length + ([32] : List UInt8).length ≤ 9223372036854775807) := by simp only [List.length_append, List.length_cons, List.length_nil]; omega
        simp only [runA, runB, runC, runD, runE, runF, fieldE, storeE, binE, ↓reduceIte, Nat.reduceLT, Nat.reduceLeDiff, Nat.reduceEqDiff, Nat.reduceAdd, Nat.reduceMul, Nat.reduceSub, reduceCtorEq, putAt, unE, Nat.reduceBEq, convE, buildE, List.replicate, Int.reduceLT, Int.reduceLE, Int.reduceToNat, mkE, mapSetE] at cm3
        have cm4 : (((((([109, 97, 114, 107, 32] ++ m1) ++ [32]) ++ m2) ++ [32]) : List UInt8).length + (H4 : List UInt8).length ≤ 9223372036854775807) := by simp only [List.length_append, List.length_cons, List.length_nil]; omega
        simp only [runA, runB, runC, runD, runE, runF, fieldE, storeE, binE, ↓reduceIte, Nat.reduceLT, Nat.reduceLeDiff, Nat.reduceEqDiff, Nat.reduceAdd, Nat.reduceMul, Nat.reduceSub, reduceCtorEq, putAt, unE, Nat.reduceBEq, convE, buildE, List.replicate, Int.reduceLT, Int.reduceLE, Int.reduceToNat, mkE, mapSetE] at cm4
        simp only [runA, runB, runC, runD, runE, runF, fieldE, storeE, binE, ↓reduceIte, Nat.reduceLT, Nat.reduceLeDiff, Nat.reduceEqDiff, Nat.reduceAdd, Nat.reduceMul, Nat.reduceSub, reduceCtorEq, putAt, unE, Nat.reduceBEq, convE, buildE, List.replicate, Int.reduceLT, Int.reduceLE, Int.reduceToNat, mkE, mapSetE, hN, hF, ty_3, ty_4, ty_9, ty_42, ty_47, ty_49, ty_51, notIf, isEq, h1, qa, h2, q3, h3, q4, h4, q5, h5, q7, h8, q8, h9, num39C, h10, h7, qs, hbs, i0, i9, i90, j0, j4, j5, b1, b2, b3, b4, b5, h6, u1, u2, u3, cm0, cm1, cm2, cm3, cm4]
        iterate 8 (try (refine drawnP_intro (by kernel_rfl) (by kernel_rfl) ?_; simp only [runA, runB, runC, runD, runE, runF, fieldE, storeE, binE, ↓reduceIte, Nat.reduceLT, Nat.reduceLeDiff, Nat.reduceEqDiff, Nat.reduceAdd, Nat.reduceMul, Nat.reduceSub, reduceCtorEq, putAt, unE, Nat.reduceBEq, convE, buildE, List.replicate, Int.reduceLT, Int.reduceLE, Int.reduceToNat, mkE, mapSetE, hN, hF, ty_3, ty_4, ty_9, ty_42, ty_47, ty_49, ty_51, notIf, isEq, h1, qa, h2, q3, h3, q4, h4, q5, h5, q7, h8, q8, h9, num39C, h10, h7, qs, hbs, i0, i9, i90, j0, j4, j5, b1, b2, b3, b4, b5, h6, u1, u2, u3, cm0, cm1, cm2, cm3, cm4]))
        simp only [runB, finC, finD, Option.isSome_some, Option.isSome_none, ↓reduceIte, Nat.reduceEqDiff, Nat.reduceAdd, Nat.reduceMul, forall_eq_or_imp, forall_eq, implies_true, Nat.reduceBEq, reduceCtorEq, false_implies, List.zip_cons_cons, List.zip_nil_left, List.zip_nil_right, Nat.reduceLeDiff, List.forall_mem_nil, rs_5]

end Go.Proofs.Ytcfijanfcgnnhaa.AM
