/-
  QV: Dvk.
-/
import Derived.Test.YtcfijanfcgnnhaaDoorQU
set_option linter.unusedVariables false
set_option linter.unusedSimpArgs false
namespace Go.Proofs.YtcfijanfcgnnhaaDoor.AM
open Go

variable {Γ : FuncId → Contract}

noncomputable def dbC : Contract := mkC (α := Vt × Txn × Mk × List UInt8) (fun p => True) (fun p => [p.1.av, p.2.1.av, p.2.2.1.av, .c (.str p.2.2.2)]) (fun _ => []) (fun _ => ⟨[.pv (.c (.bool true))], []⟩)

set_option maxRecDepth 100000 in
set_option maxHeartbeats 40000000 in
theorem db_sound (hΓ : SoundG Tryd.prog Γ) (h1 : Γ 4 = alive39C) (h2 : Γ 5 = dvC) (h3 : Γ 6 = dtC) (h4 : Γ 7 = dmC) (h5 : Γ 8 = parC) : SoundC Tryd.prog 3 dbC := by
  refine sound_fnA ⟨[], [(8, .tidy [3, 4, 5, 6, 9, 10, 11, 12, 13, 14, 15, 16, 17, 18, 19, 20]), (9, .tidy [3, 113])]⟩ Tryd.func3 (by kernel_rfl) rfl rfl ?_
  intro args objs r0 hr
  obtain ⟨⟨⟨kd, vw, ht, bl, tk, sg, sig⟩, ⟨fr, to1, am, no, tsig⟩, ⟨mv, mh, mb⟩, s⟩, hs, rfl, rfl, rfl⟩ := mkC_inv hr
  refine ⟨rfl, by show 4 ≤ _; decide, fun E hN hns hF => ?_⟩
  refine vc_sound hΓ mixed _ _ _ ?_
  have hN := hN.trans nt_3
  have qa : alive39C [] [] = some ⟨[.pv (.c (.bool true))], []⟩ := rfl
  have q3 := dv_at ⟨kd, vw, ht, bl, tk, sg, sig⟩
  have q4 := dt_at ⟨fr, to1, am, no, tsig⟩
  have q5 := dm_at ⟨mv, mh, mb⟩
  generalize hA : (if okV ⟨kd, vw, ht, bl, tk, sg, sig⟩ then lineV ⟨kd, vw, ht, bl, tk, sg, sig⟩ else []) = A at q3
  generalize hB : (if okT ⟨fr, to1, am, no, tsig⟩ then lineT ⟨fr, to1, am, no, tsig⟩ else []) = B at q4
  generalize hC : (if mkErr ⟨mv, mh, mb⟩ = 0 then lineM ⟨mv, mh, mb⟩ else []) = C at q5
  generalize hea : voS ⟨kd, vw, ht, bl, tk, sg, sig⟩ = ea at q3
  generalize heb : txS ⟨fr, to1, am, no, tsig⟩ = eb at q4
  generalize hec : mkErr ⟨mv, mh, mb⟩ = ec at q5
  have p1 := par_at A
  have p2 := par_at B
  have p3 := par_at C
  have p4 := par_at s
  obtain ⟨⟨⟨ka, ⟨a1, a2, a3, a4, a5, a6, a7⟩, ⟨a8, a9, a10, a11, a12⟩, ⟨a13, a14, a15⟩⟩, na⟩, hpa⟩ : ∃ x, parS A = x := ⟨_, rfl⟩
  obtain ⟨⟨⟨kb, ⟨b1, b2, b3, b4, b5, b6, b7⟩, ⟨b8, b9, b10, b11, b12⟩, ⟨b13, b14, b15⟩⟩, nb⟩, hpb⟩ : ∃ x, parS B = x := ⟨_, rfl⟩
  obtain ⟨⟨⟨kc, ⟨c1, c2, c3, c4, c5, c6, c7⟩, ⟨c8, c9, c10, c11, c12⟩, ⟨c13, c14, c15⟩⟩, nc⟩, hpc⟩ : ∃ x, parS C = x := ⟨_, rfl⟩
  obtain ⟨⟨⟨kp, ⟨d1, d2, d3, d4, d5, d6, d7⟩, ⟨d8, d9, d10, d11, d12⟩, ⟨d13, d14, d15⟩⟩, np⟩, hpd⟩ : ∃ x, parS s = x := ⟨_, rfl⟩
  rw [hpa] at p1
  rw [hpb] at p2
  rw [hpc] at p3
  rw [hpd] at p4
  unfold Vt.av at q3 ⊢
  unfold Txn.av at q4 ⊢
  unfold Mk.av at q5 ⊢
  unfold En.av at p1 p2 p3 p4
  dsimp only at q3 q4 q5 p1 p2 p3 p4 ⊢
  obtain ⟨Q, hQ⟩ : ∃ Q, retQ Tryd.prog [] Tryd.f3 ⟨[.pv (.c (.bool true))], []⟩ = Q := ⟨_, rfl⟩
  show vc Γ Tryd.prog E (cutC 8 bodyDB (tlC 8 bodyDB)) (retQ Tryd.prog [] Tryd.f3 ⟨[.pv (.c (.bool true))], []⟩) _
  rw [hQ]
  generalize hX : tlC 8 bodyDB = X
  simp only [cutC, bodyDB, Tryd.f3, Option.getD_some]
  simp only [runA, runB, runC, runD, runE, runF, fieldE, storeE, binE, ↓reduceIte, Nat.reduceLT, Nat.reduceLeDiff, Nat.reduceEqDiff, Nat.reduceAdd, Nat.reduceMul, Nat.reduceSub, reduceCtorEq, putAt, unE, Nat.reduceBEq, convE, buildE, List.replicate, Int.reduceLT, Int.reduceLE, Int.reduceToNat, mkE, mapSetE, hN, hF, ty_3, ty_4, ty_9, ty_23, ty_25, ty_27, ty_29, ty_35, notIf, isEq, h1, qa, h2, q3, h3, q4, h4, q5, h5, p1, p2, p3, p4]
  subst hX
  clear p1 p2 p3 q3 q4 q5 qa
  show vc Γ Tryd.prog E (cutC 1 (tlC 8 bodyDB) (tlC 9 bodyDB)) _ _
  generalize hY : tlC 9 bodyDB = Y
  simp only [tlC, cutC, bodyDB, Tryd.f3, Option.getD_some]
  have kV := caseV hA hea hpa
  have kT := caseT hB heb hpb
  have kM := caseM hC hec hpc
  have kS := caseS hpd
  dsimp only at kV kT kM kS
  clear hA hea hpa hB heb hpb hC hec hpc hpd
  have REST : vc Γ Tryd.prog E Y Q ⟨[(3, .c (.str s)), (113, .c (.bool false))], [(1216, .obj [.c (.str kc), .c (.int .i64 c1), .c (.int .i64 c2), .c (.int .i64 c3), .c (.str c4), .c (.int .i64 c5), .c (.int .i64 c6), .c (.str c7), .c (.int .i64 c8), .c (.int .i64 c9), .c (.int .i64 c10), .c (.int .i64 c11), .c (.str c12), .c (.int .i64 c13), .c (.int .i64 c14), .c (.str c15)] false), (1088, .obj [.c (.str kb), .c (.int .i64 b1), .c (.int .i64 b2), .c (.int .i64 b3), .c (.str b4), .c (.int .i64 b5), .c (.int .i64 b6), .c (.str b7), .c (.int .i64 b8), .c (.int .i64 b9), .c (.int .i64 b10), .c (.int .i64 b11), .c (.str b12), .c (.int .i64 b13), .c (.int .i64 b14), .c (.str b15)] false), (960, .obj [.c (.str ka), .c (.int .i64 a1), .c (.int .i64 a2), .c (.int .i64 a3), .c (.str a4), .c (.int .i64 a5), .c (.int .i64 a6), .c (.str a7), .c (.int .i64 a8), .c (.int .i64 a9), .c (.int .i64 a10), .c (.int .i64 a11), .c (.str a12), .c (.int .i64 a13), .c (.int .i64 a14), .c (.str a15)] false), (384, .obj [.c (.int .i64 mv), .c (.int .i64 mh), .c (.str mb)] false), (320, .obj [.c (.int .i64 fr), .c (.int .i64 to1), .c (.int .i64 am), .c (.int .i64 no), .c (.str tsig)] false), (256, .obj [.c (.int .i64 kd), .c (.int .i64 vw), .c (.int .i64 ht), .c (.str bl), .c (.int .i64 tk), .c (.int .i64 sg), .c (.str sig)] false)]⟩ := by
    subst hY
    have hbs : (s == s) = true := by simp
    simp only [tlC, bodyDB, Tryd.f3, Option.getD_some]
    rcases kS with ⟨n0, n1, n2⟩ | ⟨n0, ⟨n1, n2, n3⟩ | ⟨n1, n2, n3, n4⟩ | ⟨n1, n2, n3, n4, n5⟩⟩
    · rcases n1 with n1 | ⟨n1, n3⟩
      · simp only [runA, runB, runC, runD, runE, runF, fieldE, storeE, binE, ↓reduceIte, Nat.reduceLT, Nat.reduceLeDiff, Nat.reduceEqDiff, Nat.reduceAdd, Nat.reduceMul, Nat.reduceSub, reduceCtorEq, putAt, unE, Nat.reduceBEq, convE, buildE, List.replicate, Int.reduceLT, Int.reduceLE, Int.reduceToNat, mkE, mapSetE, hN, hF, ty_3, ty_4, ty_9, ty_23, ty_25, ty_27, ty_29, ty_35, notIf, isEq, eqg_vo, eqg_tx, eqg_mk, eqg_en, h5, p4, n0, n1, n2]
        rw [← hQ]
        simp only [runB, finC, finD, Option.isSome_some, Option.isSome_none, ↓reduceIte, Nat.reduceEqDiff, Nat.reduceAdd, Nat.reduceMul, forall_eq_or_imp, forall_eq, implies_true, Nat.reduceBEq, reduceCtorEq, false_implies, List.zip_cons_cons, List.zip_nil_left, List.zip_nil_right, Nat.reduceLeDiff, List.forall_mem_nil, rs_3]
      · simp only [runA, runB, runC, runD, runE, runF, fieldE, storeE, binE, ↓reduceIte, Nat.reduceLT, Nat.reduceLeDiff, Nat.reduceEqDiff, Nat.reduceAdd, Nat.reduceMul, Nat.reduceSub, reduceCtorEq, putAt, unE, Nat.reduceBEq, convE, buildE, List.replicate, Int.reduceLT, Int.reduceLE, Int.reduceToNat, mkE, mapSetE, hN, hF, ty_3, ty_4, ty_9, ty_23, ty_25, ty_27, ty_29, ty_35, notIf, isEq, eqg_vo, eqg_tx, eqg_mk, eqg_en, h5, p4, n0, n1, n3, n2]
        rw [← hQ]
        simp only [runB, finC, finD, Option.isSome_some, Option.isSome_none, ↓reduceIte, Nat.reduceEqDiff, Nat.reduceAdd, Nat.reduceMul, forall_eq_or_imp, forall_eq, implies_true, Nat.reduceBEq, reduceCtorEq, false_implies, List.zip_cons_cons, List.zip_nil_left, List.zip_nil_right, Nat.reduceLeDiff, List.forall_mem_nil, rs_3]
    · have q := dv_at ⟨d1, d2, d3, d4, d5, d6, d7⟩
      rw [if_pos n2, n3] at q
      unfold Vt.av at q
      dsimp only at q
      simp only [runA, runB, runC, runD, runE, runF, fieldE, storeE, binE, ↓reduceIte, Nat.reduceLT, Nat.reduceLeDiff, Nat.reduceEqDiff, Nat.reduceAdd, Nat.reduceMul, Nat.reduceSub, reduceCtorEq, putAt, unE, Nat.reduceBEq, convE, buildE, List.replicate, Int.reduceLT, Int.reduceLE, Int.reduceToNat, mkE, mapSetE, hN, hF, ty_3, ty_4, ty_9, ty_23, ty_25, ty_27, ty_29, ty_35, notIf, isEq, eqg_vo, eqg_tx, eqg_mk, eqg_en, h5, p4, n0, n1, h2, q, hbs]
      rw [← hQ]
      simp only [runB, finC, finD, Option.isSome_some, Option.isSome_none, ↓reduceIte, Nat.reduceEqDiff, Nat.reduceAdd, Nat.reduceMul, forall_eq_or_imp, forall_eq, implies_true, Nat.reduceBEq, reduceCtorEq, false_implies, List.zip_cons_cons, List.zip_nil_left, List.zip_nil_right, Nat.reduceLeDiff, List.forall_mem_nil, rs_3]
    · have q := dt_at ⟨d8, d9, d10, d11, d12⟩
      rw [if_pos n3, n4] at q
      unfold Txn.av at q
      dsimp only at q
      simp only [runA, runB, runC, runD, runE, runF, fieldE, storeE, binE, ↓reduceIte, Nat.reduceLT, Nat.reduceLeDiff, Nat.reduceEqDiff, Nat.reduceAdd, Nat.reduceMul, Nat.reduceSub, reduceCtorEq, putAt, unE, Nat.reduceBEq, convE, buildE, List.replicate, Int.reduceLT, Int.reduceLE, Int.reduceToNat, mkE, mapSetE, hN, hF, ty_3, ty_4, ty_9, ty_23, ty_25, ty_27, ty_29, ty_35, notIf, isEq, eqg_vo, eqg_tx, eqg_mk, eqg_en, h5, p4, n0, n1, n2, h3, q, hbs]
      rw [← hQ]
      simp only [runB, finC, finD, Option.isSome_some, Option.isSome_none, ↓reduceIte, Nat.reduceEqDiff, Nat.reduceAdd, Nat.reduceMul, forall_eq_or_imp, forall_eq, implies_true, Nat.reduceBEq, reduceCtorEq, false_implies, List.zip_cons_cons, List.zip_nil_left, List.zip_nil_right, Nat.reduceLeDiff, List.forall_mem_nil, rs_3]
    · have q := dm_at ⟨d13, d14, d15⟩
      rw [if_pos n4, n5] at q
      unfold Mk.av at q
      dsimp only at q
      simp only [runA, runB, runC, runD, runE, runF, fieldE, storeE, binE, ↓reduceIte, Nat.reduceLT, Nat.reduceLeDiff, Nat.reduceEqDiff, Nat.reduceAdd, Nat.reduceMul, Nat.reduceSub, reduceCtorEq, putAt, unE, Nat.reduceBEq, convE, buildE, List.replicate, Int.reduceLT, Int.reduceLE, Int.reduceToNat, mkE, mapSetE, hN, hF, ty_3, ty_4, ty_9, ty_23, ty_25, ty_27, ty_29, ty_35, notIf, isEq, eqg_vo, eqg_tx, eqg_mk, eqg_en, h5, p4, n0, n1, n2, n3, h4, q, hbs]
      rw [← hQ]
      simp only [runB, finC, finD, Option.isSome_some, Option.isSome_none, ↓reduceIte, Nat.reduceEqDiff, Nat.reduceAdd, Nat.reduceMul, forall_eq_or_imp, forall_eq, implies_true, Nat.reduceBEq, reduceCtorEq, false_implies, List.zip_cons_cons, List.zip_nil_left, List.zip_nil_right, Nat.reduceLeDiff, List.forall_mem_nil, rs_3]
  clear hY kS p4 h1 h2 h3 h4 h5
  rcases kV with v0 | ⟨v0, v1⟩ | ⟨v0, v1, v2, v3⟩
  · simp only [runA, runB, runC, runD, runE, runF, fieldE, storeE, binE, ↓reduceIte, Nat.reduceLT, Nat.reduceLeDiff, Nat.reduceEqDiff, Nat.reduceAdd, Nat.reduceMul, Nat.reduceSub, reduceCtorEq, putAt, unE, Nat.reduceBEq, convE, buildE, List.replicate, Int.reduceLT, Int.reduceLE, Int.reduceToNat, mkE, mapSetE, hN, hF, ty_3, ty_4, ty_9, ty_23, ty_25, ty_27, ty_29, ty_35, notIf, isEq, eqg_vo, eqg_tx, eqg_mk, eqg_en, v0]
    rcases kT with t0 | ⟨t0, t1⟩ | ⟨t0, t1, t2, t3⟩
    · simp only [runA, runB, runC, runD, runE, runF, fieldE, storeE, binE, ↓reduceIte, Nat.reduceLT, Nat.reduceLeDiff, Nat.reduceEqDiff, Nat.reduceAdd, Nat.reduceMul, Nat.reduceSub, reduceCtorEq, putAt, unE, Nat.reduceBEq, convE, buildE, List.replicate, Int.reduceLT, Int.reduceLE, Int.reduceToNat, mkE, mapSetE, hN, hF, ty_3, ty_4, ty_9, ty_23, ty_25, ty_27, ty_29, ty_35, notIf, isEq, eqg_vo, eqg_tx, eqg_mk, eqg_en, v0, t0]
      rcases kM with m0 | ⟨m0, m1⟩ | ⟨m0, m1, m2, m3⟩
      · simp only [runA, runB, runC, runD, runE, runF, fieldE, storeE, binE, ↓reduceIte, Nat.reduceLT, Nat.reduceLeDiff, Nat.reduceEqDiff, Nat.reduceAdd, Nat.reduceMul, Nat.reduceSub, reduceCtorEq, putAt, unE, Nat.reduceBEq, convE, buildE, List.replicate, Int.reduceLT, Int.reduceLE, Int.reduceToNat, mkE, mapSetE, hN, hF, ty_3, ty_4, ty_9, ty_23, ty_25, ty_27, ty_29, ty_35, notIf, isEq, eqg_vo, eqg_tx, eqg_mk, eqg_en, v0, t0, m0]
        exact REST
      · simp only [runA, runB, runC, runD, runE, runF, fieldE, storeE, binE, ↓reduceIte, Nat.reduceLT, Nat.reduceLeDiff, Nat.reduceEqDiff, Nat.reduceAdd, Nat.reduceMul, Nat.reduceSub, reduceCtorEq, putAt, unE, Nat.reduceBEq, convE, buildE, List.replicate, Int.reduceLT, Int.reduceLE, Int.reduceToNat, mkE, mapSetE, hN, hF, ty_3, ty_4, ty_9, ty_23, ty_25, ty_27, ty_29, ty_35, notIf, isEq, eqg_vo, eqg_tx, eqg_mk, eqg_en, v0, t0, m0, m1]
        exact REST
      · simp only [runA, runB, runC, runD, runE, runF, fieldE, storeE, binE, ↓reduceIte, Nat.reduceLT, Nat.reduceLeDiff, Nat.reduceEqDiff, Nat.reduceAdd, Nat.reduceMul, Nat.reduceSub, reduceCtorEq, putAt, unE, Nat.reduceBEq, convE, buildE, List.replicate, Int.reduceLT, Int.reduceLE, Int.reduceToNat, mkE, mapSetE, hN, hF, ty_3, ty_4, ty_9, ty_23, ty_25, ty_27, ty_29, ty_35, notIf, isEq, eqg_vo, eqg_tx, eqg_mk, eqg_en, v0, t0, m0, m1, m2, m3]
        exact REST
    · simp only [runA, runB, runC, runD, runE, runF, fieldE, storeE, binE, ↓reduceIte, Nat.reduceLT, Nat.reduceLeDiff, Nat.reduceEqDiff, Nat.reduceAdd, Nat.reduceMul, Nat.reduceSub, reduceCtorEq, putAt, unE, Nat.reduceBEq, convE, buildE, List.replicate, Int.reduceLT, Int.reduceLE, Int.reduceToNat, mkE, mapSetE, hN, hF, ty_3, ty_4, ty_9, ty_23, ty_25, ty_27, ty_29, ty_35, notIf, isEq, eqg_vo, eqg_tx, eqg_mk, eqg_en, v0, t0, t1]
      rcases kM with m0 | ⟨m0, m1⟩ | ⟨m0, m1, m2, m3⟩
      · simp only [runA, runB, runC, runD, runE, runF, fieldE, storeE, binE, ↓reduceIte, Nat.reduceLT, Nat.reduceLeDiff, Nat.reduceEqDiff, Nat.reduceAdd, Nat.reduceMul, Nat.reduceSub, reduceCtorEq, putAt, unE, Nat.reduceBEq, convE, buildE, List.replicate, Int.reduceLT, Int.reduceLE, Int.reduceToNat, mkE, mapSetE, hN, hF, ty_3, ty_4, ty_9, ty_23, ty_25, ty_27, ty_29, ty_35, notIf, isEq, eqg_vo, eqg_tx, eqg_mk, eqg_en, v0, t0, t1, m0]
        exact REST
      · simp only [runA, runB, runC, runD, runE, runF, fieldE, storeE, binE, ↓reduceIte, Nat.reduceLT, Nat.reduceLeDiff, Nat.reduceEqDiff, Nat.reduceAdd, Nat.reduceMul, Nat.reduceSub, reduceCtorEq, putAt, unE, Nat.reduceBEq, convE, buildE, List.replicate, Int.reduceLT, Int.reduceLE, Int.reduceToNat, mkE, mapSetE, hN, hF, ty_3, ty_4, ty_9, ty_23, ty_25, ty_27, ty_29, ty_35, notIf, isEq, eqg_vo, eqg_tx, eqg_mk, eqg_en, v0, t0, t1, m0, m1]
        exact REST
      · simp only [runA, runB, runC, runD, runE, runF, fieldE, storeE, binE, ↓reduceIte, Nat.reduceLT, Nat.reduceLeDiff, Nat.reduceEqDiff, Nat.reduceAdd, Nat.reduceMul, Nat.reduceSub, reduceCtorEq, putAt, unE, Nat.reduceBEq, convE, buildE, List.replicate, Int.reduceLT, Int.reduceLE, Int.reduceToNat, mkE, mapSetE, hN, hF, ty_3, ty_4, ty_9, ty_23, ty_25, ty_27, ty_29, ty_35, notIf, isEq, eqg_vo, eqg_tx, eqg_mk, eqg_en, v0, t0, t1, m0, m1, m2, m3]
        exact REST
    · simp only [runA, runB, runC, runD, runE, runF, fieldE, storeE, binE, ↓reduceIte, Nat.reduceLT, Nat.reduceLeDiff, Nat.reduceEqDiff, Nat.reduceAdd, Nat.reduceMul, Nat.reduceSub, reduceCtorEq, putAt, unE, Nat.reduceBEq, convE, buildE, List.replicate, Int.reduceLT, Int.reduceLE, Int.reduceToNat, mkE, mapSetE, hN, hF, ty_3, ty_4, ty_9, ty_23, ty_25, ty_27, ty_29, ty_35, notIf, isEq, eqg_vo, eqg_tx, eqg_mk, eqg_en, v0, t0, t1, t2, t3]
      rcases kM with m0 | ⟨m0, m1⟩ | ⟨m0, m1, m2, m3⟩
      · simp only [runA, runB, runC, runD, runE, runF, fieldE, storeE, binE, ↓reduceIte, Nat.reduceLT, Nat.reduceLeDiff, Nat.reduceEqDiff, Nat.reduceAdd, Nat.reduceMul, Nat.reduceSub, reduceCtorEq, putAt, unE, Nat.reduceBEq, convE, buildE, List.replicate, Int.reduceLT, Int.reduceLE, Int.reduceToNat, mkE, mapSetE, hN, hF, ty_3, ty_4, ty_9, ty_23, ty_25, ty_27, ty_29, ty_35, notIf, isEq, eqg_vo, eqg_tx, eqg_mk, eqg_en, v0, t0, t1, t2, t3, m0]
        exact REST
      · simp only [runA, runB, runC, runD, runE, runF, fieldE, storeE, binE, ↓reduceIte, Nat.reduceLT, Nat.reduceLeDiff, Nat.reduceEqDiff, Nat.reduceAdd, Nat.reduceMul, Nat.reduceSub, reduceCtorEq, putAt, unE, Nat.reduceBEq, convE, buildE, List.replicate, Int.reduceLT, Int.reduceLE, Int.reduceToNat, mkE, mapSetE, hN, hF, ty_3, ty_4, ty_9, ty_23, ty_25, ty_27, ty_29, ty_35, notIf, isEq, eqg_vo, eqg_tx, eqg_mk, eqg_en, v0, t0, t1, t2, t3, m0, m1]
        exact REST
      · simp only [runA, runB, runC, runD, runE, runF, fieldE, storeE, binE, ↓reduceIte, Nat.reduceLT, Nat.reduceLeDiff, Nat.reduceEqDiff, Nat.reduceAdd, Nat.reduceMul, Nat.reduceSub, reduceCtorEq, putAt, unE, Nat.reduceBEq, convE, buildE, List.replicate, Int.reduceLT, Int.reduceLE, Int.reduceToNat, mkE, mapSetE, hN, hF, ty_3, ty_4, ty_9, ty_23, ty_25, ty_27, ty_29, ty_35, notIf, isEq, eqg_vo, eqg_tx, eqg_mk, eqg_en, v0, t0, t1, t2, t3, m0, m1, m2, m3]
        exact REST
  · simp only [runA, runB, runC, runD, runE, runF, fieldE, storeE, binE, ↓reduceIte, Nat.reduceLT, Nat.reduceLeDiff, Nat.reduceEqDiff, Nat.reduceAdd, Nat.reduceMul, Nat.reduceSub, reduceCtorEq, putAt, unE, Nat.reduceBEq, convE, buildE, List.replicate, Int.reduceLT, Int.reduceLE, Int.reduceToNat, mkE, mapSetE, hN, hF, ty_3, ty_4, ty_9, ty_23, ty_25, ty_27, ty_29, ty_35, notIf, isEq, eqg_vo, eqg_tx, eqg_mk, eqg_en, v0, v1]
    rcases kT with t0 | ⟨t0, t1⟩ | ⟨t0, t1, t2, t3⟩
    · simp only [runA, runB, runC, runD, runE, runF, fieldE, storeE, binE, ↓reduceIte, Nat.reduceLT, Nat.reduceLeDiff, Nat.reduceEqDiff, Nat.reduceAdd, Nat.reduceMul, Nat.reduceSub, reduceCtorEq, putAt, unE, Nat.reduceBEq, convE, buildE, List.replicate, Int.reduceLT, Int.reduceLE, Int.reduceToNat, mkE, mapSetE, hN, hF, ty_3, ty_4, ty_9, ty_23, ty_25, ty_27, ty_29, ty_35, notIf, isEq, eqg_vo, eqg_tx, eqg_mk, eqg_en, v0, v1, t0]
      rcases kM with m0 | ⟨m0, m1⟩ | ⟨m0, m1, m2, m3⟩
      · simp only [runA, runB, runC, runD, runE, runF, fieldE, storeE, binE, ↓reduceIte, Nat.reduceLT, Nat.reduceLeDiff, Nat.reduceEqDiff, Nat.reduceAdd, Nat.reduceMul, Nat.reduceSub, reduceCtorEq, putAt, unE, Nat.reduceBEq, convE, buildE, List.replicate, Int.reduceLT, Int.reduceLE, Int.reduceToNat, mkE, mapSetE, hN, hF, ty_3, ty_4, ty_9, ty_23, ty_25, ty_27, ty_29, ty_35, notIf, isEq, eqg_vo, eqg_tx, eqg_mk, eqg_en, v0, v1, t0, m0]
        exact REST
      · simp only [runA, runB, runC, runD, runE, runF, fieldE, storeE, binE, ↓reduceIte, Nat.reduceLT, Nat.reduceLeDiff, Nat.reduceEqDiff, Nat.reduceAdd, Nat.reduceMul, Nat.reduceSub, reduceCtorEq, putAt, unE, Nat.reduceBEq, convE, buildE, List.replicate, Int.reduceLT, Int.reduceLE, Int.reduceToNat, mkE, mapSetE, hN, hF, ty_3, ty_4, ty_9, ty_23, ty_25, ty_27, ty_29, ty_35, notIf, isEq, eqg_vo, eqg_tx, eqg_mk, eqg_en, v0, v1, t0, m0, m1]
        exact REST
      · simp only [runA, runB, runC, runD, runE, runF, fieldE, storeE, binE, ↓reduceIte, Nat.reduceLT, Nat.reduceLeDiff, Nat.reduceEqDiff, Nat.reduceAdd, Nat.reduceMul, Nat.reduceSub, reduceCtorEq, putAt, unE, Nat.reduceBEq, convE, buildE, List.replicate, Int.reduceLT, Int.reduceLE, Int.reduceToNat, mkE, mapSetE, hN, hF, ty_3, ty_4, ty_9, ty_23, ty_25, ty_27, ty_29, ty_35, notIf, isEq, eqg_vo, eqg_tx, eqg_mk, eqg_en, v0, v1, t0, m0, m1, m2, m3]
        exact REST
    · simp only [runA, runB, runC, runD, runE, runF, fieldE, storeE, binE, ↓reduceIte, Nat.reduceLT, Nat.reduceLeDiff, Nat.reduceEqDiff, Nat.reduceAdd, Nat.reduceMul, Nat.reduceSub, reduceCtorEq, putAt, unE, Nat.reduceBEq, convE, buildE, List.replicate, Int.reduceLT, Int.reduceLE, Int.reduceToNat, mkE, mapSetE, hN, hF, ty_3, ty_4, ty_9, ty_23, ty_25, ty_27, ty_29, ty_35, notIf, isEq, eqg_vo, eqg_tx, eqg_mk, eqg_en, v0, v1, t0, t1]
      rcases kM with m0 | ⟨m0, m1⟩ | ⟨m0, m1, m2, m3⟩
      · simp only [runA, runB, runC, runD, runE, runF, fieldE, storeE, binE, ↓reduceIte, Nat.reduceLT, Nat.reduceLeDiff, Nat.reduceEqDiff, Nat.reduceAdd, Nat.reduceMul, Nat.reduceSub, reduceCtorEq, putAt, unE, Nat.reduceBEq, convE, buildE, List.replicate, Int.reduceLT, Int.reduceLE, Int.reduceToNat, mkE, mapSetE, hN, hF, ty_3, ty_4, ty_9, ty_23, ty_25, ty_27, ty_29, ty_35, notIf, isEq, eqg_vo, eqg_tx, eqg_mk, eqg_en, v0, v1, t0, t1, m0]
        exact REST
      · simp only [runA, runB, runC, runD, runE, runF, fieldE, storeE, binE, ↓reduceIte, Nat.reduceLT, Nat.reduceLeDiff, Nat.reduceEqDiff, Nat.reduceAdd, Nat.reduceMul, Nat.reduceSub, reduceCtorEq, putAt, unE, Nat.reduceBEq, convE, buildE, List.replicate, Int.reduceLT, Int.reduceLE, Int.reduceToNat, mkE, mapSetE, hN, hF, ty_3, ty_4, ty_9, ty_23, ty_25, ty_27, ty_29, ty_35, notIf, isEq, eqg_vo, eqg_tx, eqg_mk, eqg_en, v0, v1, t0, t1, m0, m1]
        exact REST
      · simp only [runA, runB, runC, runD, runE, runF, fieldE, storeE, binE, ↓reduceIte, Nat.reduceLT, Nat.reduceLeDiff, Nat.reduceEqDiff, Nat.reduceAdd, Nat.reduceMul, Nat.reduceSub, reduceCtorEq, putAt, unE, Nat.reduceBEq, convE, buildE, List.replicate, Int.reduceLT, Int.reduceLE, Int.reduceToNat, mkE, mapSetE, hN, hF, ty_3, ty_4, ty_9, ty_23, ty_25, ty_27, ty_29, ty_35, notIf, isEq, eqg_vo, eqg_tx, eqg_mk, eqg_en, v0, v1, t0, t1, m0, m1, m2, m3]
        exact REST
    · simp only [runA, runB, runC, runD, runE, runF, fieldE, storeE, binE, ↓reduceIte, Nat.reduceLT, Nat.reduceLeDiff, Nat.reduceEqDiff, Nat.reduceAdd, Nat.reduceMul, Nat.reduceSub, reduceCtorEq, putAt, unE, Nat.reduceBEq, convE, buildE, List.replicate, Int.reduceLT, Int.reduceLE, Int.reduceToNat, mkE, mapSetE, hN, hF, ty_3, ty_4, ty_9, ty_23, ty_25, ty_27, ty_29, ty_35, notIf, isEq, eqg_vo, eqg_tx, eqg_mk, eqg_en, v0, v1, t0, t1, t2, t3]
      rcases kM with m0 | ⟨m0, m1⟩ | ⟨m0, m1, m2, m3⟩
      · simp only [runA, runB, runC, runD, runE, runF, fieldE, storeE, binE, ↓reduceIte, Nat.reduceLT, Nat.reduceLeDiff, Nat.reduceEqDiff, Nat.reduceAdd, Nat.reduceMul, Nat.reduceSub, reduceCtorEq, putAt, unE, Nat.reduceBEq, convE, buildE, List.replicate, Int.reduceLT, Int.reduceLE, Int.reduceToNat, mkE, mapSetE, hN, hF, ty_3, ty_4, ty_9, ty_23, ty_25, ty_27, ty_29, ty_35, notIf, isEq, eqg_vo, eqg_tx, eqg_mk, eqg_en, v0, v1, t0, t1, t2, t3, m0]
        exact REST
      · simp only [runA, runB, runC, runD, runE, runF, fieldE, storeE, binE, ↓reduceIte, Nat.reduceLT, Nat.reduceLeDiff, Nat.reduceEqDiff, Nat.reduceAdd, Nat.reduceMul, Nat.reduceSub, reduceCtorEq, putAt, unE, Nat.reduceBEq, convE, buildE, List.replicate, Int.reduceLT, Int.reduceLE, Int.reduceToNat, mkE, mapSetE, hN, hF, ty_3, ty_4, ty_9, ty_23, ty_25, ty_27, ty_29, ty_35, notIf, isEq, eqg_vo, eqg_tx, eqg_mk, eqg_en, v0, v1, t0, t1, t2, t3, m0, m1]
        exact REST
      · simp only [runA, runB, runC, runD, runE, runF, fieldE, storeE, binE, ↓reduceIte, Nat.reduceLT, Nat.reduceLeDiff, Nat.reduceEqDiff, Nat.reduceAdd, Nat.reduceMul, Nat.reduceSub, reduceCtorEq, putAt, unE, Nat.reduceBEq, convE, buildE, List.replicate, Int.reduceLT, Int.reduceLE, Int.reduceToNat, mkE, mapSetE, hN, hF, ty_3, ty_4, ty_9, ty_23, ty_25, ty_27, ty_29, ty_35, notIf, isEq, eqg_vo, eqg_tx, eqg_mk, eqg_en, v0, v1, t0, t1, t2, t3, m0, m1, m2, m3]
        exact REST
  · simp only [runA, runB, runC, runD, runE, runF, fieldE, storeE, binE, ↓reduceIte, Nat.reduceLT, Nat.reduceLeDiff, Nat.reduceEqDiff, Nat.reduceAdd, Nat.reduceMul, Nat.reduceSub, reduceCtorEq, putAt, unE, Nat.reduceBEq, convE, buildE, List.replicate, Int.reduceLT, Int.reduceLE, Int.reduceToNat, mkE, mapSetE, hN, hF, ty_3, ty_4, ty_9, ty_23, ty_25, ty_27, ty_29, ty_35, notIf, isEq, eqg_vo, eqg_tx, eqg_mk, eqg_en, v0, v1, v2, v3]
    rcases kT with t0 | ⟨t0, t1⟩ | ⟨t0, t1, t2, t3⟩
    · simp only [runA, runB, runC, runD, runE, runF, fieldE, storeE, binE, ↓reduceIte, Nat.reduceLT, Nat.reduceLeDiff, Nat.reduceEqDiff, Nat.reduceAdd, Nat.reduceMul, Nat.reduceSub, reduceCtorEq, putAt, unE, Nat.reduceBEq, convE, buildE, List.replicate, Int.reduceLT, Int.reduceLE, Int.reduceToNat, mkE, mapSetE, hN, hF, ty_3, ty_4, ty_9, ty_23, ty_25, ty_27, ty_29, ty_35, notIf, isEq, eqg_vo, eqg_tx, eqg_mk, eqg_en, v0, v1, v2, v3, t0]
      rcases kM with m0 | ⟨m0, m1⟩ | ⟨m0, m1, m2, m3⟩
      · simp only [runA, runB, runC, runD, runE, runF, fieldE, storeE, binE, ↓reduceIte, Nat.reduceLT, Nat.reduceLeDiff, Nat.reduceEqDiff, Nat.reduceAdd, Nat.reduceMul, Nat.reduceSub, reduceCtorEq, putAt, unE, Nat.reduceBEq, convE, buildE, List.replicate, Int.reduceLT, Int.reduceLE, Int.reduceToNat, mkE, mapSetE, hN, hF, ty_3, ty_4, ty_9, ty_23, ty_25, ty_27, ty_29, ty_35, notIf, isEq, eqg_vo, eqg_tx, eqg_mk, eqg_en, v0, v1, v2, v3, t0, m0]
        exact REST
      · simp only [runA, runB, runC, runD, runE, runF, fieldE, storeE, binE, ↓reduceIte, Nat.reduceLT, Nat.reduceLeDiff, Nat.reduceEqDiff, Nat.reduceAdd, Nat.reduceMul, Nat.reduceSub, reduceCtorEq, putAt, unE, Nat.reduceBEq, convE, buildE, List.replicate, Int.reduceLT, Int.reduceLE, Int.reduceToNat, mkE, mapSetE, hN, hF, ty_3, ty_4, ty_9, ty_23, ty_25, ty_27, ty_29, ty_35, notIf, isEq, eqg_vo, eqg_tx, eqg_mk, eqg_en, v0, v1, v2, v3, t0, m0, m1]
        exact REST
      · simp only [runA, runB, runC, runD, runE, runF, fieldE, storeE, binE, ↓reduceIte, Nat.reduceLT, Nat.reduceLeDiff, Nat.reduceEqDiff, Nat.reduceAdd, Nat.reduceMul, Nat.reduceSub, reduceCtorEq, putAt, unE, Nat.reduceBEq, convE, buildE, List.replicate, Int.reduceLT, Int.reduceLE, Int.reduceToNat, mkE, mapSetE, hN, hF, ty_3, ty_4, ty_9, ty_23, ty_25, ty_27, ty_29, ty_35, notIf, isEq, eqg_vo, eqg_tx, eqg_mk, eqg_en, v0, v1, v2, v3, t0, m0, m1, m2, m3]
        exact REST
    · simp only [runA, runB, runC, runD, runE, runF, fieldE, storeE, binE, ↓reduceIte, Nat.reduceLT, Nat.reduceLeDiff, Nat.reduceEqDiff, Nat.reduceAdd, Nat.reduceMul, Nat.reduceSub, reduceCtorEq, putAt, unE, Nat.reduceBEq, convE, buildE, List.replicate, Int.reduceLT, Int.reduceLE, Int.reduceToNat, mkE, mapSetE, hN, hF, ty_3, ty_4, ty_9, ty_23, ty_25, ty_27, ty_29, ty_35, notIf, isEq, eqg_vo, eqg_tx, eqg_mk, eqg_en, v0, v1, v2, v3, t0, t1]
      rcases kM with m0 | ⟨m0, m1⟩ | ⟨m0, m1, m2, m3⟩
      · simp only [runA, runB, runC, runD, runE, runF, fieldE, storeE, binE, ↓reduceIte, Nat.reduceLT, Nat.reduceLeDiff, Nat.reduceEqDiff, Nat.reduceAdd, Nat.reduceMul, Nat.reduceSub, reduceCtorEq, putAt, unE, Nat.reduceBEq, convE, buildE, List.replicate, Int.reduceLT, Int.reduceLE, Int.reduceToNat, mkE, mapSetE, hN, hF, ty_3, ty_4, ty_9, ty_23, ty_25, ty_27, ty_29, ty_35, notIf, isEq, eqg_vo, eqg_tx, eqg_mk, eqg_en, v0, v1, v2, v3, t0, t1, m0]
        exact REST
      · simp only [runA, runB, runC, runD, runE, runF, fieldE, storeE, binE, ↓reduceIte, Nat.reduceLT, Nat.reduceLeDiff, Nat.reduceEqDiff, Nat.reduceAdd, Nat.reduceMul, Nat.reduceSub, reduceCtorEq, putAt, unE, Nat.reduceBEq, convE, buildE, List.replicate, Int.reduceLT, Int.reduceLE, Int.reduceToNat, mkE, mapSetE, hN, hF, ty_3, ty_4, ty_9, ty_23, ty_25, ty_27, ty_29, ty_35, notIf, isEq, eqg_vo, eqg_tx, eqg_mk, eqg_en, v0, v1, v2, v3, t0, t1, m0, m1]
        exact REST
      · simp only [runA, runB, runC, runD, runE, runF, fieldE, storeE, binE, ↓reduceIte, Nat.reduceLT, Nat.reduceLeDiff, Nat.reduceEqDiff, Nat.reduceAdd, Nat.reduceMul, Nat.reduceSub, reduceCtorEq, putAt, unE, Nat.reduceBEq, convE, buildE, List.replicate, Int.reduceLT, Int.reduceLE, Int.reduceToNat, mkE, mapSetE, hN, hF, ty_3, ty_4, ty_9, ty_23, ty_25, ty_27, ty_29, ty_35, notIf, isEq, eqg_vo, eqg_tx, eqg_mk, eqg_en, v0, v1, v2, v3, t0, t1, m0, m1, m2, m3]
        exact REST
    · simp only [runA, runB, runC, runD, runE, runF, fieldE, storeE, binE, ↓reduceIte, Nat.reduceLT, Nat.reduceLeDiff, Nat.reduceEqDiff, Nat.reduceAdd, Nat.reduceMul, Nat.reduceSub, reduceCtorEq, putAt, unE, Nat.reduceBEq, convE, buildE, List.replicate, Int.reduceLT, Int.reduceLE, Int.reduceToNat, mkE, mapSetE, hN, hF, ty_3, ty_4, ty_9, ty_23, ty_25, ty_27, ty_29, ty_35, notIf, isEq, eqg_vo, eqg_tx, eqg_mk, eqg_en, v0, v1, v2, v3, t0, t1, t2, t3]
      rcases kM with m0 | ⟨m0, m1⟩ | ⟨m0, m1, m2, m3⟩
      · simp only [runA, runB, runC, runD, runE, runF, fieldE, storeE, binE, ↓reduceIte, Nat.reduceLT, Nat.reduceLeDiff, Nat.reduceEqDiff, Nat.reduceAdd, Nat.reduceMul, Nat.reduceSub, reduceCtorEq, putAt, unE, Nat.reduceBEq, convE, buildE, List.replicate, Int.reduceLT, Int.reduceLE, Int.reduceToNat, mkE, mapSetE, hN, hF, ty_3, ty_4, ty_9, ty_23, ty_25, ty_27, ty_29, ty_35, notIf, isEq, eqg_vo, eqg_tx, eqg_mk, eqg_en, v0, v1, v2, v3, t0, t1, t2, t3, m0]
        exact REST
      · simp only [runA, runB, runC, runD, runE, runF, fieldE, storeE, binE, ↓reduceIte, Nat.reduceLT, Nat.reduceLeDiff, Nat.reduceEqDiff, Nat.reduceAdd, Nat.reduceMul, Nat.reduceSub, reduceCtorEq, putAt, unE, Nat.reduceBEq, convE, buildE, List.replicate, Int.reduceLT, Int.reduceLE, Int.reduceToNat, mkE, mapSetE, hN, hF, ty_3, ty_4, ty_9, ty_23, ty_25, ty_27, ty_29, ty_35, notIf, isEq, eqg_vo, eqg_tx, eqg_mk, eqg_en, v0, v1, v2, v3, t0, t1, t2, t3, m0, m1]
        exact REST
      · simp only [runA, runB, runC, runD, runE, runF, fieldE, storeE, binE, ↓reduceIte, Nat.reduceLT, Nat.reduceLeDiff, Nat.reduceEqDiff, Nat.reduceAdd, Nat.reduceMul, Nat.reduceSub, reduceCtorEq, putAt, unE, Nat.reduceBEq, convE, buildE, List.replicate, Int.reduceLT, Int.reduceLE, Int.reduceToNat, mkE, mapSetE, hN, hF, ty_3, ty_4, ty_9, ty_23, ty_25, ty_27, ty_29, ty_35, notIf, isEq, eqg_vo, eqg_tx, eqg_mk, eqg_en, v0, v1, v2, v3, t0, t1, t2, t3, m0, m1, m2, m3]
        exact REST

end Go.Proofs.YtcfijanfcgnnhaaDoor.AM
