/-
  QM: MgA MgB.
-/
import Derived.Test.YtldehcnaepgamaaQL
set_option linter.unusedVariables false
set_option linter.unusedSimpArgs false
namespace Go.Proofs.Ytldehcnaepgamaa.AM
open Go

variable {Γ : FuncId → Contract}

def rdM (k : Int) (r : RS) : Msg × RS :=
  if k = 1 then (⟨k, (readB r).1, zeroV, zeroCt, [], [], zeroT⟩, (readB r).2)
  else if k = 2 then (⟨k, zeroBk, (readV r).1, zeroCt, [], [], zeroT⟩, (readV r).2)
  else if k = 3 then (⟨k, zeroBk, zeroV, (readC r).1, [], [], zeroT⟩, (readC r).2)
  else if k = 4 then (⟨k, zeroBk, zeroV, zeroCt, (vosR (rd r 7).1.toNat (rd r 7).2).1, [], zeroT⟩, (vosR (rd r 7).1.toNat (rd r 7).2).2)
  else if k = 5 then (⟨k, zeroBk, zeroV, zeroCt, [], (rdT r 32).1, zeroT⟩, (rdT r 32).2)
  else if k = 6 then (⟨k, zeroBk, zeroV, zeroCt, [], [], (readT r).1⟩, (readT r).2)
  else (⟨k, zeroBk, zeroV, zeroCt, [], [], zeroT⟩, r)
def readM (r : RS) : Msg × RS := rdM (rd r 6).1 (rd r 6).2
theorem vosR7 (r : RS) : (vosR (rd r 7).1.toNat (rd r 7).2).1.length ≤ 7 := by
  have h := rd_range r (m := 7) (by decide)
  rw [(vosR_len _ _).2]; omega
theorem readB_ln (r : RS) : lnB (readB r).1 := by
  have hz : lnB zeroBk := ⟨by simp [zeroBk], by simp [zeroBk]⟩
  have hg : lnB (gotB (rdT r 5).2) := by
    refine ⟨Nat.le_trans (gotB_txs _) (by decide), ?_⟩
    show (fG (rdT r 5).2).1.vs.length ≤ _
    generalize (rdT r 5).2 = q
    unfold fG readC
    split
    · simp [zeroCt]
    · show (cE (fF q).2).1.length ≤ _
      have := vosR7 (cC (fF q).2).2
      unfold cE cD
      omega
  unfold readB
  split
  · exact hz
  · split
    · exact hz
    · exact hg
theorem readC_ln (r : RS) : lnC (readC r).1 := by
  unfold readC lnC
  split
  · simp [zeroCt]
  · show (cE r).1.length ≤ _
    have := vosR7 (cC r).2
    unfold cE cD
    omega
theorem rdM_ln (k : Int) (r : RS) : lnM (rdM k r).1 := by
  have hz : lnB zeroBk := ⟨by simp [zeroBk], by simp [zeroBk]⟩
  have hc : lnC zeroCt := by simp [lnC, zeroCt]
  have h0 : ([] : List Vt).length ≤ 9223372036854775807 := by simp
  unfold rdM
  split
  · exact ⟨readB_ln r, hc, h0⟩
  · split
    · exact ⟨hz, hc, h0⟩
    · split
      · exact ⟨hz, readC_ln r, h0⟩
      · split
        · exact ⟨hz, hc, Nat.le_trans (vosR7 r) (by decide)⟩
        · split
          · exact ⟨hz, hc, h0⟩
          · split
            · exact ⟨hz, hc, h0⟩
            · exact ⟨hz, hc, h0⟩
noncomputable def msRdC : Contract := mkC (α := RS) (fun p => p.b.length ≤ 140737488355328) (fun p => [.ptr 6400000 0]) (fun p => [[.c (.sl (bytes p.b)), .c (.int .i64 p.e), .c (.bool true)]]) (fun p => ⟨[.pv (readM p).1.av], [[.c (.sl (bytes ((readM p).2).b)), .c (.int .i64 ((readM p).2).e), .c (.bool true)]]⟩)
theorem msRd_at (r : RS) (g0 : r.b.length ≤ 140737488355328) : msRdC [.ptr 6400000 0] [[.c (.sl (bytes r.b)), .c (.int .i64 r.e), .c (.bool true)]] = some ⟨[.pv (readM r).1.av], [[.c (.sl (bytes ((readM r).2).b)), .c (.int .i64 ((readM r).2).e), .c (.bool true)]]⟩ := by
  obtain ⟨rb, re⟩ := r
  exact mkC_at (α := RS) ⟨rb, re⟩ g0 (by
    rintro ⟨r'b, r'e⟩ _ h ho
    have hh := And.intro h ho
    clear h ho
    simp only [List.cons.injEq, AV.c.injEq, AV.agg.injEq, PC.int.injEq, PC.str.injEq, PC.bool.injEq, PC.sl.injEq, OV.c.injEq, OV.own.injEq, OV.mp.injEq, bytes_iff, texts_iff, true_and, and_true, and_self, beq_self_eq_true] at hh
    simp only [hh])

set_option maxRecDepth 100000 in
set_option maxHeartbeats 4000000 in
theorem msRd_sound (hΓ : SoundG Try.prog Γ) (h1 : Γ 95 = rdNumC) (h2 : Γ 122 = bkRdC) (h3 : Γ 55 = voRdC) (h4 : Γ 123 = ctRdC) (h5 : Γ 94 = rdTextC) (h6 : Γ 46 = txRdC) : SoundC Try.prog 84 msRdC := by
  refine sound_fn Try.func84 (by kernel_rfl) rfl rfl ?_
  intro args objs r0 hr
  obtain ⟨r, hl, rfl, rfl, rfl⟩ := mkC_inv hr
  refine ⟨rfl, by show 1 ≤ _; decide, fun E hN hns hF => ?_⟩
  refine vc_sound hΓ mixed _ _ _ ?_
  have hN := hN.trans nt_84
  have hl : r.b.length ≤ 140737488355328 := hl
  have l0 := rd_len r 6
  have q0 := num_atr r 6 hl
  have vn : votes [] = [] := rfl
  have tn : trows [] = [] := rfl
  have hR : readM r = rdM (rd r 6).1 (rd r 6).2 := rfl
  rw [hR]
  generalize rd r 6 = z0 at *
  obtain ⟨kd, r1⟩ := z0
  dsimp only at q0 l0 ⊢
  clear hR
  by_cases k1 : kd = 1
  case pos =>
      subst k1
      have c1 : ((1 : Int) == 1) = true := rfl
      have hS : rdM 1 r1 = (⟨1, (readB r1).1, zeroV, zeroCt, [], [], zeroT⟩, (readB r1).2) := rfl
      rw [hS]
      have q1 := bkRd_at r1 (by omega)
      generalize readB r1 = z1 at q1 ⊢
      obtain ⟨⟨y1, y2, y3, ⟨y4, y5, y6, y7⟩, y8, y9⟩, r2⟩ := z1
      unfold Blk.av at q1
      dsimp only at q1 ⊢
      simp only [runA, runB, runC, runD, runE, runF, fieldE, storeE, binE, ↓reduceIte, Nat.reduceLT, Nat.reduceLeDiff, Nat.reduceEqDiff, Nat.reduceAdd, Nat.reduceMul, Nat.reduceSub, reduceCtorEq, putAt, unE, Nat.reduceBEq, convE, buildE, List.replicate, Int.reduceLT, Int.reduceLE, Int.reduceToNat, mkE, mapSetE, hN, hF, ty_3, ty_9, ty_50, ty_54, ty_68, ty_70, ty_72, ty_74, ty_76, ty_91, notIf, isEq, h1, h2, h3, h4, h5, h6, q0, q1, c1]
      iterate 3 (try (refine drawnP_intro (by kernel_rfl) (by kernel_rfl) ?_; simp only [runA, runB, runC, runD, runE, runF, fieldE, storeE, binE, ↓reduceIte, Nat.reduceLT, Nat.reduceLeDiff, Nat.reduceEqDiff, Nat.reduceAdd, Nat.reduceMul, Nat.reduceSub, reduceCtorEq, putAt, unE, Nat.reduceBEq, convE, buildE, List.replicate, Int.reduceLT, Int.reduceLE, Int.reduceToNat, mkE, mapSetE, hN, hF, ty_3, ty_9, ty_50, ty_54, ty_68, ty_70, ty_72, ty_74, ty_76, ty_91, notIf, isEq, h1, h2, h3, h4, h5, h6, q0, q1, c1]))
      simp only [runB, finC, finD, Option.isSome_some, Option.isSome_none, ↓reduceIte, Nat.reduceEqDiff, Nat.reduceAdd, Nat.reduceMul, forall_eq_or_imp, forall_eq, implies_true, Nat.reduceBEq, reduceCtorEq, false_implies, List.zip_cons_cons, List.zip_nil_left, List.zip_nil_right, Nat.reduceLeDiff, List.forall_mem_nil, rs_84, ty_3, ty_9, ty_50, ty_54, ty_68, ty_70, ty_72, ty_74, ty_76, ty_91, zeroBk, zeroV, zeroCt, zeroT, Msg.av, vn, tn, votes_length, bytes_length]
  by_cases k2 : kd = 2
  case pos =>
      subst k2
      have c1 : ((2 : Int) == 1) = false := rfl
      have c2 : ((2 : Int) == 2) = true := rfl
      have hS : rdM 2 r1 = (⟨2, zeroBk, (readV r1).1, zeroCt, [], [], zeroT⟩, (readV r1).2) := rfl
      rw [hS]
      have q1 := voRd_at r1 (by omega)
      generalize readV r1 = z1 at q1 ⊢
      obtain ⟨⟨y1, y2, y3, y4, y5, y6, y7⟩, r2⟩ := z1
      unfold Vt.av at q1
      dsimp only at q1 ⊢
      simp only [runA, runB, runC, runD, runE, runF, fieldE, storeE, binE, ↓reduceIte, Nat.reduceLT, Nat.reduceLeDiff, Nat.reduceEqDiff, Nat.reduceAdd, Nat.reduceMul, Nat.reduceSub, reduceCtorEq, putAt, unE, Nat.reduceBEq, convE, buildE, List.replicate, Int.reduceLT, Int.reduceLE, Int.reduceToNat, mkE, mapSetE, hN, hF, ty_3, ty_9, ty_50, ty_54, ty_68, ty_70, ty_72, ty_74, ty_76, ty_91, notIf, isEq, h1, h2, h3, h4, h5, h6, q0, q1, c1, c2]
      iterate 3 (try (refine drawnP_intro (by kernel_rfl) (by kernel_rfl) ?_; simp only [runA, runB, runC, runD, runE, runF, fieldE, storeE, binE, ↓reduceIte, Nat.reduceLT, Nat.reduceLeDiff, Nat.reduceEqDiff, Nat.reduceAdd, Nat.reduceMul, Nat.reduceSub, reduceCtorEq, putAt, unE, Nat.reduceBEq, convE, buildE, List.replicate, Int.reduceLT, Int.reduceLE, Int.reduceToNat, mkE, mapSetE, hN, hF, ty_3, ty_9, ty_50, ty_54, ty_68, ty_70, ty_72, ty_74, ty_76, ty_91, notIf, isEq, h1, h2, h3, h4, h5, h6, q0, q1, c1, c2]))
      simp only [runB, finC, finD, Option.isSome_some, Option.isSome_none, ↓reduceIte, Nat.reduceEqDiff, Nat.reduceAdd, Nat.reduceMul, forall_eq_or_imp, forall_eq, implies_true, Nat.reduceBEq, reduceCtorEq, false_implies, List.zip_cons_cons, List.zip_nil_left, List.zip_nil_right, Nat.reduceLeDiff, List.forall_mem_nil, rs_84, ty_3, ty_9, ty_50, ty_54, ty_68, ty_70, ty_72, ty_74, ty_76, ty_91, zeroBk, zeroV, zeroCt, zeroT, Msg.av, vn, tn, votes_length, bytes_length]
  by_cases k3 : kd = 3
  case pos =>
      subst k3
      have c1 : ((3 : Int) == 1) = false := rfl
      have c2 : ((3 : Int) == 2) = false := rfl
      have c3 : ((3 : Int) == 3) = true := rfl
      have hS : rdM 3 r1 = (⟨3, zeroBk, zeroV, (readC r1).1, [], [], zeroT⟩, (readC r1).2) := rfl
      rw [hS]
      have q1 := ctRd_at r1 (by omega)
      generalize readC r1 = z1 at q1 ⊢
      obtain ⟨⟨y1, y2, y3, y4⟩, r2⟩ := z1
      unfold Ct.av at q1
      dsimp only at q1 ⊢
      simp only [runA, runB, runC, runD, runE, runF, fieldE, storeE, binE, ↓reduceIte, Nat.reduceLT, Nat.reduceLeDiff, Nat.reduceEqDiff, Nat.reduceAdd, Nat.reduceMul, Nat.reduceSub, reduceCtorEq, putAt, unE, Nat.reduceBEq, convE, buildE, List.replicate, Int.reduceLT, Int.reduceLE, Int.reduceToNat, mkE, mapSetE, hN, hF, ty_3, ty_9, ty_50, ty_54, ty_68, ty_70, ty_72, ty_74, ty_76, ty_91, notIf, isEq, h1, h2, h3, h4, h5, h6, q0, q1, c1, c2, c3]
      iterate 3 (try (refine drawnP_intro (by kernel_rfl) (by kernel_rfl) ?_; simp only [runA, runB, runC, runD, runE, runF, fieldE, storeE, binE, ↓reduceIte, Nat.reduceLT, Nat.reduceLeDiff, Nat.reduceEqDiff, Nat.reduceAdd, Nat.reduceMul, Nat.reduceSub, reduceCtorEq, putAt, unE, Nat.reduceBEq, convE, buildE, List.replicate, Int.reduceLT, Int.reduceLE, Int.reduceToNat, mkE, mapSetE, hN, hF, ty_3, ty_9, ty_50, ty_54, ty_68, ty_70, ty_72, ty_74, ty_76, ty_91, notIf, isEq, h1, h2, h3, h4, h5, h6, q0, q1, c1, c2, c3]))
      simp only [runB, finC, finD, Option.isSome_some, Option.isSome_none, ↓reduceIte, Nat.reduceEqDiff, Nat.reduceAdd, Nat.reduceMul, forall_eq_or_imp, forall_eq, implies_true, Nat.reduceBEq, reduceCtorEq, false_implies, List.zip_cons_cons, List.zip_nil_left, List.zip_nil_right, Nat.reduceLeDiff, List.forall_mem_nil, rs_84, ty_3, ty_9, ty_50, ty_54, ty_68, ty_70, ty_72, ty_74, ty_76, ty_91, zeroBk, zeroV, zeroCt, zeroT, Msg.av, vn, tn, votes_length, bytes_length]
  by_cases k4 : kd = 4
  case pos =>
      subst k4
      have c1 : ((4 : Int) == 1) = false := rfl
      have c2 : ((4 : Int) == 2) = false := rfl
      have c3 : ((4 : Int) == 3) = false := rfl
      have c4 : ((4 : Int) == 4) = true := rfl
      have hS : rdM 4 r1 = (⟨4, zeroBk, zeroV, zeroCt, (vosR (rd r1 7).1.toNat (rd r1 7).2).1, [], zeroT⟩, (vosR (rd r1 7).1.toNat (rd r1 7).2).2) := rfl
      rw [hS]
      have q1 := num_atr r1 7 (by omega)
      have hn := rd_range r1 (m := 7) (by decide)
      have l4 := rd_len r1 7
      generalize rd r1 7 = z4 at *
      obtain ⟨n, r4⟩ := z4
      obtain ⟨N, rfl⟩ : ∃ N : Nat, n = (N : Int) := ⟨n.toNat, by dsimp only at hn; omega⟩
      dsimp only at q1 hn l4 ⊢
      rw [Int.toNat_natCast]
      simp only [runA, runB, runC, runD, runE, runF, fieldE, storeE, binE, ↓reduceIte, Nat.reduceLT, Nat.reduceLeDiff, Nat.reduceEqDiff, Nat.reduceAdd, Nat.reduceMul, Nat.reduceSub, reduceCtorEq, putAt, unE, Nat.reduceBEq, convE, buildE, List.replicate, Int.reduceLT, Int.reduceLE, Int.reduceToNat, mkE, mapSetE, hN, hF, ty_3, ty_9, ty_50, ty_54, ty_68, ty_70, ty_72, ty_74, ty_76, ty_91, notIf, isEq, h1, h3, q0, q1, c1, c2, c3, c4]
      refine AWP.loop (fun k st => ∃ i : Nat, i ≤ N ∧ k = N - i ∧ st = ⟨[(0, .ptr 6400000 0), (2, .ptr 128 0), (3, .ptr 192 0), (27, .c (.int .i64 (N : Int))), (28, .c (.int .i64 (i : Int)))],
        [(6400000, .obj [.c (.sl (bytes (vosR i r4).2.b)), .c (.int .i64 (vosR i r4).2.e), .c (.bool true)] false), (128, .obj [.c (.int .i64 0), .c (.int .i64 0), .c (.int .i64 0), .c (.str []), .c (.int .i64 0), .c (.int .i64 0), .c (.str []), .nilsl, .nilsl, .c (.str []), .c (.int .i64 0), .c (.int .i64 0), .c (.int .i64 0), .c (.str []), .c (.int .i64 0), .c (.int .i64 0), .c (.str []), .c (.int .i64 0), .c (.int .i64 0), .c (.str []), .nilsl, .nilsl, .c (.str []), .c (.int .i64 0), .c (.int .i64 0), .c (.int .i64 0), .c (.int .i64 0), .c (.str [])] false),
         (192, .obj [.c (.int .i64 4), .c (.int .i64 0), .c (.int .i64 0), .c (.str []), .c (.int .i64 0), .c (.int .i64 0), .c (.str []), .nilsl, .nilsl, .c (.str []), .c (.int .i64 0), .c (.int .i64 0), .c (.int .i64 0), .c (.str []), .c (.int .i64 0), .c (.int .i64 0), .c (.str []), .c (.int .i64 0), .c (.int .i64 0), .c (.str []), .nilsl, .own 2241 7 (votes (vosR i r4).1), .c (.str []), .c (.int .i64 0), .c (.int .i64 0), .c (.int .i64 0), .c (.int .i64 0), .c (.str [])] false), (2241, .row 7 i)]⟩) ⟨N, _, ?w, 0, Nat.zero_le _, rfl, rfl⟩ ?r
      case w =>
        rw [hns]
        simp only [runB, finC, finD, AS.get, AS.mem, false_implies, implies_true, ↓reduceIte, Nat.reduceEqDiff, Option.isSome_some, Option.isSome_none, forall_eq_or_imp, forall_eq, reduceCtorEq, Nat.reduceAdd, Nat.reduceMul, List.zip_cons_cons, List.zip_nil_left, List.zip_nil_right, List.forall_mem_nil, vosR, votes_nil]
        first | done | simp
      case r =>
        rintro k st ⟨i, hi, rfl, rfl⟩
        refine vc_sound hΓ mixed _ _ _ ?_
        obtain ⟨m1, m2⟩ := vosR_len i r4
        have hvl := votes_length (vosR i r4).1
        rw [m2] at hvl
        by_cases hlt : i < N
        · have k1 : decide ((i : Int) < (N : Int)) = true := by simpa using hlt
          have e1 : IntKind.i64.wrap ((i : Int) + 1) = (i : Int) + 1 := wrapI (by omega)
          have q5 := voRd_at (vosR i r4).2 (by omega)
          have hL : ((i + 1) * 72 ≤ 140737488355328) = True := eq_true (by omega)
          have hS1 : vosR (i + 1) r4 = ((vosR i r4).1 ++ [(readV (vosR i r4).2).1], (readV (vosR i r4).2).2) := rfl
          rw [show vosR i r4 = ((vosR i r4).1, (vosR i r4).2) from rfl] at hS1
          generalize (vosR i r4).2 = ri at q5 hS1 ⊢
          generalize (vosR i r4).1 = vi at hvl m2 hS1 ⊢
          generalize readV ri = RV at q5 hS1 ⊢
          obtain ⟨y, r'⟩ := RV
          dsimp only at q5 hS1 ⊢
          have happ : votes vi ++ [Vt.pcs y] = votes (vi ++ [y]) := by rw [votes_one, votes_app]
          unfold Vt.av at q5
          unfold Vt.pcs at happ
          have hz : rowsOK 7 [[PC.int .i64 y.kd, .int .i64 y.vw, .int .i64 y.ht, .str y.bl, .int .i64 y.tk, .int .i64 y.sg, .str y.sig]] := by
            intro r hr
            rw [List.mem_singleton] at hr
            rw [hr]; rfl
          simp only [runA, runB, runC, runD, runE, runF, fieldE, storeE, binE, ↓reduceIte, Nat.reduceLT, Nat.reduceLeDiff, Nat.reduceEqDiff, Nat.reduceAdd, Nat.reduceMul, Nat.reduceSub, reduceCtorEq, putAt, unE, Nat.reduceBEq, convE, buildE, List.replicate, Int.reduceLT, Int.reduceLE, Int.reduceToNat, mkE, mapSetE, hN, hF, ty_3, ty_9, ty_50, ty_54, ty_68, ty_70, ty_72, ty_74, ty_76, ty_91, notIf, isEq, k1, h3, q5, e1, hz, hL, hvl, happ]
          iterate 2 (try (refine drawnP_intro (by kernel_rfl) (by kernel_rfl) ?_; simp only [runA, runB, runC, runD, runE, runF, fieldE, storeE, binE, ↓reduceIte, Nat.reduceLT, Nat.reduceLeDiff, Nat.reduceEqDiff, Nat.reduceAdd, Nat.reduceMul, Nat.reduceSub, reduceCtorEq, putAt, unE, Nat.reduceBEq, convE, buildE, List.replicate, Int.reduceLT, Int.reduceLE, Int.reduceToNat, mkE, mapSetE, hN, hF, ty_3, ty_9, ty_50, ty_54, ty_68, ty_70, ty_72, ty_74, ty_76, ty_91, notIf, isEq, h3, q5, e1, hz, hL, hvl, happ]))
          refine ⟨N - (i + 1), _, by omega, ?_, i + 1, by omega, rfl, rfl⟩
          rw [hns, hS1]
          simp only [runB, finC, finD, AS.get, AS.mem, false_implies, implies_true, ↓reduceIte, Nat.reduceEqDiff, Option.isSome_some, Option.isSome_none, forall_eq_or_imp, forall_eq, reduceCtorEq, Nat.reduceAdd, Nat.reduceMul, List.zip_cons_cons, List.zip_nil_left, List.zip_nil_right, List.forall_mem_nil, bytes_length]
          first | done | simp
        · have k1 : decide ((i : Int) < (N : Int)) = false := by simpa using hlt
          obtain rfl : i = N := by omega
          generalize vosR i r4 = VR at *
          obtain ⟨vi, ri⟩ := VR
          dsimp only at hvl m2 m1 ⊢
          have hx : ∀ Q s, inBlockA 1 Q (.exit 0) s = Q (.exit 0) s := by simp [inBlockA]
          simp only [runA, runB, runC, runD, runE, runF, fieldE, storeE, binE, ↓reduceIte, Nat.reduceLT, Nat.reduceLeDiff, Nat.reduceEqDiff, Nat.reduceAdd, Nat.reduceMul, Nat.reduceSub, reduceCtorEq, putAt, unE, Nat.reduceBEq, convE, buildE, List.replicate, Int.reduceLT, Int.reduceLE, Int.reduceToNat, mkE, mapSetE, hN, hF, ty_3, ty_9, ty_50, ty_54, ty_68, ty_70, ty_72, ty_74, ty_76, ty_91, notIf, isEq, k1, hx]
          simp only [runB, finC, finD, Option.isSome_some, Option.isSome_none, ↓reduceIte, Nat.reduceEqDiff, Nat.reduceAdd, Nat.reduceMul, forall_eq_or_imp, forall_eq, implies_true, Nat.reduceBEq, reduceCtorEq, false_implies, List.zip_cons_cons, List.zip_nil_left, List.zip_nil_right, Nat.reduceLeDiff, List.forall_mem_nil, rs_84, ty_3, ty_9, ty_50, ty_54, ty_68, ty_70, ty_72, ty_74, ty_76, ty_91, zeroBk, zeroV, zeroCt, zeroT, Msg.av, vn, tn, votes_length, bytes_length]
  by_cases k5 : kd = 5
  case pos =>
      subst k5
      have c1 : ((5 : Int) == 1) = false := rfl
      have c2 : ((5 : Int) == 2) = false := rfl
      have c3 : ((5 : Int) == 3) = false := rfl
      have c4 : ((5 : Int) == 4) = false := rfl
      have c5 : ((5 : Int) == 5) = true := rfl
      have hS : rdM 5 r1 = (⟨5, zeroBk, zeroV, zeroCt, [], (rdT r1 32).1, zeroT⟩, (rdT r1 32).2) := rfl
      rw [hS]
      have q1 := text_atr r1 32 (by omega)
      generalize rdT r1 32 = z1 at q1 ⊢
      simp only [runA, runB, runC, runD, runE, runF, fieldE, storeE, binE, ↓reduceIte, Nat.reduceLT, Nat.reduceLeDiff, Nat.reduceEqDiff, Nat.reduceAdd, Nat.reduceMul, Nat.reduceSub, reduceCtorEq, putAt, unE, Nat.reduceBEq, convE, buildE, List.replicate, Int.reduceLT, Int.reduceLE, Int.reduceToNat, mkE, mapSetE, hN, hF, ty_3, ty_9, ty_50, ty_54, ty_68, ty_70, ty_72, ty_74, ty_76, ty_91, notIf, isEq, h1, h2, h3, h4, h5, h6, q0, q1, c1, c2, c3, c4, c5]
      iterate 3 (try (refine drawnP_intro (by kernel_rfl) (by kernel_rfl) ?_; simp only [runA, runB, runC, runD, runE, runF, fieldE, storeE, binE, ↓reduceIte, Nat.reduceLT, Nat.reduceLeDiff, Nat.reduceEqDiff, Nat.reduceAdd, Nat.reduceMul, Nat.reduceSub, reduceCtorEq, putAt, unE, Nat.reduceBEq, convE, buildE, List.replicate, Int.reduceLT, Int.reduceLE, Int.reduceToNat, mkE, mapSetE, hN, hF, ty_3, ty_9, ty_50, ty_54, ty_68, ty_70, ty_72, ty_74, ty_76, ty_91, notIf, isEq, h1, h2, h3, h4, h5, h6, q0, q1, c1, c2, c3, c4, c5]))
      simp only [runB, finC, finD, Option.isSome_some, Option.isSome_none, ↓reduceIte, Nat.reduceEqDiff, Nat.reduceAdd, Nat.reduceMul, forall_eq_or_imp, forall_eq, implies_true, Nat.reduceBEq, reduceCtorEq, false_implies, List.zip_cons_cons, List.zip_nil_left, List.zip_nil_right, Nat.reduceLeDiff, List.forall_mem_nil, rs_84, ty_3, ty_9, ty_50, ty_54, ty_68, ty_70, ty_72, ty_74, ty_76, ty_91, zeroBk, zeroV, zeroCt, zeroT, Msg.av, vn, tn, votes_length, bytes_length]
  by_cases k6 : kd = 6
  case pos =>
      subst k6
      have c1 : ((6 : Int) == 1) = false := rfl
      have c2 : ((6 : Int) == 2) = false := rfl
      have c3 : ((6 : Int) == 3) = false := rfl
      have c4 : ((6 : Int) == 4) = false := rfl
      have c5 : ((6 : Int) == 5) = false := rfl
      have c6 : ((6 : Int) == 6) = true := rfl
      have hS : rdM 6 r1 = (⟨6, zeroBk, zeroV, zeroCt, [], [], (readT r1).1⟩, (readT r1).2) := rfl
      rw [hS]
      have q1 := txRd_at r1 (by omega)
      generalize readT r1 = z1 at q1 ⊢
      obtain ⟨⟨y1, y2, y3, y4, y5⟩, r2⟩ := z1
      unfold Txn.av at q1
      dsimp only at q1 ⊢
      simp only [runA, runB, runC, runD, runE, runF, fieldE, storeE, binE, ↓reduceIte, Nat.reduceLT, Nat.reduceLeDiff, Nat.reduceEqDiff, Nat.reduceAdd, Nat.reduceMul, Nat.reduceSub, reduceCtorEq, putAt, unE, Nat.reduceBEq, convE, buildE, List.replicate, Int.reduceLT, Int.reduceLE, Int.reduceToNat, mkE, mapSetE, hN, hF, ty_3, ty_9, ty_50, ty_54, ty_68, ty_70, ty_72, ty_74, ty_76, ty_91, notIf, isEq, h1, h2, h3, h4, h5, h6, q0, q1, c1, c2, c3, c4, c5, c6]
      iterate 3 (try (refine drawnP_intro (by kernel_rfl) (by kernel_rfl) ?_; simp only [runA, runB, runC, runD, runE, runF, fieldE, storeE, binE, ↓reduceIte, Nat.reduceLT, Nat.reduceLeDiff, Nat.reduceEqDiff, Nat.reduceAdd, Nat.reduceMul, Nat.reduceSub, reduceCtorEq, putAt, unE, Nat.reduceBEq, convE, buildE, List.replicate, Int.reduceLT, Int.reduceLE, Int.reduceToNat, mkE, mapSetE, hN, hF, ty_3, ty_9, ty_50, ty_54, ty_68, ty_70, ty_72, ty_74, ty_76, ty_91, notIf, isEq, h1, h2, h3, h4, h5, h6, q0, q1, c1, c2, c3, c4, c5, c6]))
      simp only [runB, finC, finD, Option.isSome_some, Option.isSome_none, ↓reduceIte, Nat.reduceEqDiff, Nat.reduceAdd, Nat.reduceMul, forall_eq_or_imp, forall_eq, implies_true, Nat.reduceBEq, reduceCtorEq, false_implies, List.zip_cons_cons, List.zip_nil_left, List.zip_nil_right, Nat.reduceLeDiff, List.forall_mem_nil, rs_84, ty_3, ty_9, ty_50, ty_54, ty_68, ty_70, ty_72, ty_74, ty_76, ty_91, zeroBk, zeroV, zeroCt, zeroT, Msg.av, vn, tn, votes_length, bytes_length]
  have hS : rdM kd r1 = (⟨kd, zeroBk, zeroV, zeroCt, [], [], zeroT⟩, r1) := by
    unfold rdM
    rw [if_neg k1, if_neg k2, if_neg k3, if_neg k4, if_neg k5, if_neg k6]
  rw [hS]
  have c1 : (kd == 1) = false := by simpa using k1
  have c2 : (kd == 2) = false := by simpa using k2
  have c3 : (kd == 3) = false := by simpa using k3
  have c4 : (kd == 4) = false := by simpa using k4
  have c5 : (kd == 5) = false := by simpa using k5
  have c6 : (kd == 6) = false := by simpa using k6
  simp only [runA, runB, runC, runD, runE, runF, fieldE, storeE, binE, ↓reduceIte, Nat.reduceLT, Nat.reduceLeDiff, Nat.reduceEqDiff, Nat.reduceAdd, Nat.reduceMul, Nat.reduceSub, reduceCtorEq, putAt, unE, Nat.reduceBEq, convE, buildE, List.replicate, Int.reduceLT, Int.reduceLE, Int.reduceToNat, mkE, mapSetE, hN, hF, ty_3, ty_9, ty_50, ty_54, ty_68, ty_70, ty_72, ty_74, ty_76, ty_91, notIf, isEq, h1, q0, c1, c2, c3, c4, c5, c6]
  simp only [runB, finC, finD, Option.isSome_some, Option.isSome_none, ↓reduceIte, Nat.reduceEqDiff, Nat.reduceAdd, Nat.reduceMul, forall_eq_or_imp, forall_eq, implies_true, Nat.reduceBEq, reduceCtorEq, false_implies, List.zip_cons_cons, List.zip_nil_left, List.zip_nil_right, Nat.reduceLeDiff, List.forall_mem_nil, rs_84, ty_3, ty_9, ty_50, ty_54, ty_68, ty_70, ty_72, ty_74, ty_76, ty_91, zeroBk, zeroV, zeroCt, zeroT, Msg.av, vn, tn, votes_length, bytes_length]


variable {Γ : FuncId → Contract}

def getM (b : List UInt8) : Msg × Int :=
  if 16384 < b.length then (zeroMsg, 33)
  else if (readM ⟨b, 0⟩).2.e ≠ 0 ∨ 0 < (readM ⟨b, 0⟩).2.b.length ∨ ¬ okMsg (readM ⟨b, 0⟩).1 then (zeroMsg, 33) else ((readM ⟨b, 0⟩).1, 0)
noncomputable def msGetC : Contract := mkC (α := List UInt8) (fun b => b.length ≤ 9223372036854775807) (fun b => [.c (.sl (bytes b))]) (fun _ => []) (fun b => ⟨[.pv (getM b).1.av, .pv (.c (.int .i64 (getM b).2))], []⟩)
theorem msGet_at (b : List UInt8) (h : b.length ≤ 9223372036854775807) : msGetC [.c (.sl (bytes b))] [] = some ⟨[.pv (getM b).1.av, .pv (.c (.int .i64 (getM b).2))], []⟩ :=
  mkC_at (α := List UInt8) b h (by
    rintro y _ h _
    simp only [List.cons.injEq, AV.c.injEq, PC.sl.injEq, bytes_iff, and_true] at h
    rw [h])
theorem left_atr (r : RS) (h : r.e = 0) : leftC [.ptr 6400000 0] [[.c (.sl (bytes r.b)), .c (.int .i64 r.e), .c (.bool true)]] = some ⟨[.pv (.c (.int .i64 (r.b.length : Int)))], [[.c (.sl (bytes r.b)), .c (.int .i64 r.e), .c (.bool true)]]⟩ := by
  simp [leftC, inObj, h, bytes_length]

set_option maxRecDepth 100000 in
set_option maxHeartbeats 4000000 in
theorem msGet_sound (hΓ : SoundG Try.prog Γ) (h1 : Γ 47 = openC) (h2 : Γ 84 = msRdC) (h3 : Γ 85 = errC) (h4 : Γ 86 = leftC) (h5 : Γ 79 = msCkC) : SoundC Try.prog 39 msGetC := by
  refine sound_fn Try.func39 (by kernel_rfl) rfl rfl ?_
  intro args objs r0 hr
  obtain ⟨b, hl, rfl, rfl, rfl⟩ := mkC_inv hr
  refine ⟨rfl, by show 1 ≤ _; decide, fun E hN hns hF => ?_⟩
  refine vc_sound hΓ mixed _ _ _ ?_
  have hN := hN.trans nt_39
  have vn : votes [] = [] := rfl
  have tn : trows [] = [] := rfl
  by_cases hb : 16384 < b.length
  case pos =>
    rw [show getM b = (zeroMsg, 33) from if_pos hb]
    have g0 : decide ((b.length : Int) > 16384) = true := decide_eq_true (by omega)
    simp only [runA, runB, runC, runD, runE, runF, fieldE, storeE, binE, ↓reduceIte, Nat.reduceLT, Nat.reduceLeDiff, Nat.reduceEqDiff, Nat.reduceAdd, Nat.reduceMul, Nat.reduceSub, reduceCtorEq, putAt, unE, Nat.reduceBEq, convE, buildE, List.replicate, Int.reduceLT, Int.reduceLE, Int.reduceToNat, mkE, mapSetE, hN, hF, ty_3, ty_5, ty_9, ty_25, ty_27, ty_54, ty_68, ty_70, ty_72, ty_74, ty_76, ty_91, notIf, isEq, h1, h2, h3, h4, h5, g0, bytes_length]
    iterate 3 (try (refine drawnP_intro (by kernel_rfl) (by kernel_rfl) ?_; simp only [runA, runB, runC, runD, runE, runF, fieldE, storeE, binE, ↓reduceIte, Nat.reduceLT, Nat.reduceLeDiff, Nat.reduceEqDiff, Nat.reduceAdd, Nat.reduceMul, Nat.reduceSub, reduceCtorEq, putAt, unE, Nat.reduceBEq, convE, buildE, List.replicate, Int.reduceLT, Int.reduceLE, Int.reduceToNat, mkE, mapSetE, hN, hF, ty_3, ty_5, ty_9, ty_25, ty_27, ty_54, ty_68, ty_70, ty_72, ty_74, ty_76, ty_91, notIf, isEq, h1, h2, h3, h4, h5, g0, bytes_length]))
    simp only [runB, finC, finD, Option.isSome_some, Option.isSome_none, ↓reduceIte, Nat.reduceEqDiff, Nat.reduceAdd, Nat.reduceMul, forall_eq_or_imp, forall_eq, implies_true, Nat.reduceBEq, reduceCtorEq, false_implies, List.zip_cons_cons, List.zip_nil_left, List.zip_nil_right, Nat.reduceLeDiff, List.forall_mem_nil, rs_39, ty_3, ty_5, ty_9, ty_25, ty_27, ty_54, ty_68, ty_70, ty_72, ty_74, ty_76, ty_91, zeroMsg, zeroBk, zeroV, zeroCt, zeroT, Msg.av, vn, tn]
  have g0 : decide ((b.length : Int) > 16384) = false := decide_eq_false (by omega)
  have q0 := open_atr b (by omega)
  have q1 := msRd_at ⟨b, 0⟩ (by show b.length ≤ _; omega)
  have q2 := err_atr (readM ⟨b, 0⟩).2
  have q3 := left_atr (readM ⟨b, 0⟩).2
  have hln : lnM (readM ⟨b, 0⟩).1 := rdM_ln _ _
  have q4 := msCk_at (readM ⟨b, 0⟩).1 hln
  have hE : getM b = if (readM ⟨b, 0⟩).2.e ≠ 0 ∨ 0 < (readM ⟨b, 0⟩).2.b.length ∨ ¬ okMsg (readM ⟨b, 0⟩).1 then (zeroMsg, 33) else ((readM ⟨b, 0⟩).1, 0) := if_neg hb
  rw [hE]
  clear hE hln
  generalize readM ⟨b, 0⟩ = z at *
  obtain ⟨m, r2⟩ := z
  unfold Msg.av at q1
  dsimp only at q1 q2 q3 q4 ⊢
  by_cases he : r2.e = 0
  case neg =>
    rw [if_pos (.inl he)]
    have g1 : (r2.e != 0) = true := by simpa using he
    simp only [runA, runB, runC, runD, runE, runF, fieldE, storeE, binE, ↓reduceIte, Nat.reduceLT, Nat.reduceLeDiff, Nat.reduceEqDiff, Nat.reduceAdd, Nat.reduceMul, Nat.reduceSub, reduceCtorEq, putAt, unE, Nat.reduceBEq, convE, buildE, List.replicate, Int.reduceLT, Int.reduceLE, Int.reduceToNat, mkE, mapSetE, hN, hF, ty_3, ty_5, ty_9, ty_25, ty_27, ty_54, ty_68, ty_70, ty_72, ty_74, ty_76, ty_91, notIf, isEq, h1, h2, h3, h4, h5, g0, q0, q1, q2, g1, bytes_length]
    iterate 3 (try (refine drawnP_intro (by kernel_rfl) (by kernel_rfl) ?_; simp only [runA, runB, runC, runD, runE, runF, fieldE, storeE, binE, ↓reduceIte, Nat.reduceLT, Nat.reduceLeDiff, Nat.reduceEqDiff, Nat.reduceAdd, Nat.reduceMul, Nat.reduceSub, reduceCtorEq, putAt, unE, Nat.reduceBEq, convE, buildE, List.replicate, Int.reduceLT, Int.reduceLE, Int.reduceToNat, mkE, mapSetE, hN, hF, ty_3, ty_5, ty_9, ty_25, ty_27, ty_54, ty_68, ty_70, ty_72, ty_74, ty_76, ty_91, notIf, isEq, h1, h2, h3, h4, h5, g0, q0, q1, q2, g1, bytes_length]))
    simp only [runB, finC, finD, Option.isSome_some, Option.isSome_none, ↓reduceIte, Nat.reduceEqDiff, Nat.reduceAdd, Nat.reduceMul, forall_eq_or_imp, forall_eq, implies_true, Nat.reduceBEq, reduceCtorEq, false_implies, List.zip_cons_cons, List.zip_nil_left, List.zip_nil_right, Nat.reduceLeDiff, List.forall_mem_nil, rs_39, ty_3, ty_5, ty_9, ty_25, ty_27, ty_54, ty_68, ty_70, ty_72, ty_74, ty_76, ty_91, zeroMsg, zeroBk, zeroV, zeroCt, zeroT, Msg.av, vn, tn]
  have g1 : (r2.e != 0) = false := by simp [he]
  have q3 := q3 he
  by_cases hz : 0 < r2.b.length
  case pos =>
    rw [if_pos (.inr (.inl hz))]
    have g2 : decide ((r2.b.length : Int) > 0) = true := decide_eq_true (by omega)
    simp only [runA, runB, runC, runD, runE, runF, fieldE, storeE, binE, ↓reduceIte, Nat.reduceLT, Nat.reduceLeDiff, Nat.reduceEqDiff, Nat.reduceAdd, Nat.reduceMul, Nat.reduceSub, reduceCtorEq, putAt, unE, Nat.reduceBEq, convE, buildE, List.replicate, Int.reduceLT, Int.reduceLE, Int.reduceToNat, mkE, mapSetE, hN, hF, ty_3, ty_5, ty_9, ty_25, ty_27, ty_54, ty_68, ty_70, ty_72, ty_74, ty_76, ty_91, notIf, isEq, h1, h2, h3, h4, h5, g0, q0, q1, q2, g1, q3, g2, bytes_length]
    iterate 3 (try (refine drawnP_intro (by kernel_rfl) (by kernel_rfl) ?_; simp only [runA, runB, runC, runD, runE, runF, fieldE, storeE, binE, ↓reduceIte, Nat.reduceLT, Nat.reduceLeDiff, Nat.reduceEqDiff, Nat.reduceAdd, Nat.reduceMul, Nat.reduceSub, reduceCtorEq, putAt, unE, Nat.reduceBEq, convE, buildE, List.replicate, Int.reduceLT, Int.reduceLE, Int.reduceToNat, mkE, mapSetE, hN, hF, ty_3, ty_5, ty_9, ty_25, ty_27, ty_54, ty_68, ty_70, ty_72, ty_74, ty_76, ty_91, notIf, isEq, h1, h2, h3, h4, h5, g0, q0, q1, q2, g1, q3, g2, bytes_length]))
    simp only [runB, finC, finD, Option.isSome_some, Option.isSome_none, ↓reduceIte, Nat.reduceEqDiff, Nat.reduceAdd, Nat.reduceMul, forall_eq_or_imp, forall_eq, implies_true, Nat.reduceBEq, reduceCtorEq, false_implies, List.zip_cons_cons, List.zip_nil_left, List.zip_nil_right, Nat.reduceLeDiff, List.forall_mem_nil, rs_39, ty_3, ty_5, ty_9, ty_25, ty_27, ty_54, ty_68, ty_70, ty_72, ty_74, ty_76, ty_91, zeroMsg, zeroBk, zeroV, zeroCt, zeroT, Msg.av, vn, tn]
  have g2 : decide ((r2.b.length : Int) > 0) = false := decide_eq_false (by omega)
  by_cases hk : okMsg m
  case neg =>
    rw [if_pos (.inr (.inr hk))]
    rw [show msS m = 9 from if_neg hk] at q4
    have g3 : ((9 : Int) != 0) = true := rfl
    simp only [runA, runB, runC, runD, runE, runF, fieldE, storeE, binE, ↓reduceIte, Nat.reduceLT, Nat.reduceLeDiff, Nat.reduceEqDiff, Nat.reduceAdd, Nat.reduceMul, Nat.reduceSub, reduceCtorEq, putAt, unE, Nat.reduceBEq, convE, buildE, List.replicate, Int.reduceLT, Int.reduceLE, Int.reduceToNat, mkE, mapSetE, hN, hF, ty_3, ty_5, ty_9, ty_25, ty_27, ty_54, ty_68, ty_70, ty_72, ty_74, ty_76, ty_91, notIf, isEq, h1, h2, h3, h4, h5, g0, q0, q1, q2, g1, q3, g2, q4, g3, bytes_length]
    iterate 3 (try (refine drawnP_intro (by kernel_rfl) (by kernel_rfl) ?_; simp only [runA, runB, runC, runD, runE, runF, fieldE, storeE, binE, ↓reduceIte, Nat.reduceLT, Nat.reduceLeDiff, Nat.reduceEqDiff, Nat.reduceAdd, Nat.reduceMul, Nat.reduceSub, reduceCtorEq, putAt, unE, Nat.reduceBEq, convE, buildE, List.replicate, Int.reduceLT, Int.reduceLE, Int.reduceToNat, mkE, mapSetE, hN, hF, ty_3, ty_5, ty_9, ty_25, ty_27, ty_54, ty_68, ty_70, ty_72, ty_74, ty_76, ty_91, notIf, isEq, h1, h2, h3, h4, h5, g0, q0, q1, q2, g1, q3, g2, q4, g3, bytes_length]))
    simp only [runB, finC, finD, Option.isSome_some, Option.isSome_none, ↓reduceIte, Nat.reduceEqDiff, Nat.reduceAdd, Nat.reduceMul, forall_eq_or_imp, forall_eq, implies_true, Nat.reduceBEq, reduceCtorEq, false_implies, List.zip_cons_cons, List.zip_nil_left, List.zip_nil_right, Nat.reduceLeDiff, List.forall_mem_nil, rs_39, ty_3, ty_5, ty_9, ty_25, ty_27, ty_54, ty_68, ty_70, ty_72, ty_74, ty_76, ty_91, zeroMsg, zeroBk, zeroV, zeroCt, zeroT, Msg.av, vn, tn]
  case pos =>
    rw [if_neg (fun h => h.elim (fun h => h he) (fun h => h.elim hz (fun h => h hk)))]
    rw [show msS m = 0 from if_pos hk] at q4
    have g3 : ((0 : Int) != 0) = false := rfl
    simp only [runA, runB, runC, runD, runE, runF, fieldE, storeE, binE, ↓reduceIte, Nat.reduceLT, Nat.reduceLeDiff, Nat.reduceEqDiff, Nat.reduceAdd, Nat.reduceMul, Nat.reduceSub, reduceCtorEq, putAt, unE, Nat.reduceBEq, convE, buildE, List.replicate, Int.reduceLT, Int.reduceLE, Int.reduceToNat, mkE, mapSetE, hN, hF, ty_3, ty_5, ty_9, ty_25, ty_27, ty_54, ty_68, ty_70, ty_72, ty_74, ty_76, ty_91, notIf, isEq, h1, h2, h3, h4, h5, g0, q0, q1, q2, g1, q3, g2, q4, g3, bytes_length]
    iterate 3 (try (refine drawnP_intro (by kernel_rfl) (by kernel_rfl) ?_; simp only [runA, runB, runC, runD, runE, runF, fieldE, storeE, binE, ↓reduceIte, Nat.reduceLT, Nat.reduceLeDiff, Nat.reduceEqDiff, Nat.reduceAdd, Nat.reduceMul, Nat.reduceSub, reduceCtorEq, putAt, unE, Nat.reduceBEq, convE, buildE, List.replicate, Int.reduceLT, Int.reduceLE, Int.reduceToNat, mkE, mapSetE, hN, hF, ty_3, ty_5, ty_9, ty_25, ty_27, ty_54, ty_68, ty_70, ty_72, ty_74, ty_76, ty_91, notIf, isEq, h1, h2, h3, h4, h5, g0, q0, q1, q2, g1, q3, g2, q4, g3, bytes_length]))
    simp only [runB, finC, finD, Option.isSome_some, Option.isSome_none, ↓reduceIte, Nat.reduceEqDiff, Nat.reduceAdd, Nat.reduceMul, forall_eq_or_imp, forall_eq, implies_true, Nat.reduceBEq, reduceCtorEq, false_implies, List.zip_cons_cons, List.zip_nil_left, List.zip_nil_right, Nat.reduceLeDiff, List.forall_mem_nil, rs_39, ty_3, ty_5, ty_9, ty_25, ty_27, ty_54, ty_68, ty_70, ty_72, ty_74, ty_76, ty_91, zeroMsg, zeroBk, zeroV, zeroCt, zeroT, Msg.av, vn, tn]

end Go.Proofs.Ytldehcnaepgamaa.AM
