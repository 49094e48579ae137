/-
  QK: Wa5 Wa6.
-/
import Derived.Test.YtldehcnaepgamaaQJ
import Derived.Test.YtldehcnaepgamaaQI
import Derived.Test.YtldehcnaepgamaaQF
set_option linter.unusedVariables false
set_option linter.unusedSimpArgs false
namespace Go.Proofs.Ytldehcnaepgamaa.AM
open Go

variable {Γ : FuncId → Contract}


def zints (l : List Int) : List (List PC) := l.map fun x => [PC.int .i64 x]
theorem zints_length (l : List Int) : (zints l).length = l.length := by simp [zints]
theorem zintsD (l : List Int) (i : Nat) (h : i < l.length) : (zints l)[i]? = some [.int .i64 (l.getD i 0)] := by simp [zints, List.getD, h]
theorem okW_new {c : Int} {sd : List UInt8} (hc : 0 ≤ c ∧ c ≤ 3) (hs : sd.length ≤ 64) : okW ⟨c, ⟨sd, leavesS sd 4, 0⟩, 0, []⟩ :=
  ⟨hc, good_new sd 2 0 hs (by decide) (by decide), ⟨Int.le_refl 0, by show (0 : Int) ≤ 1099511627776; decide⟩, rfl, fun i hi => absurd hi (by simp)⟩
/-- What a payment gives while the key is not used up. -/
theorem pay_case {c : Int} {sd : List UInt8} {n : Nat} {sent : List Txn} (hs : sd.length ≤ 64) (hn : n ≤ 4) (hk : okW ⟨c, ⟨sd, leavesS sd 4, (n : Int)⟩, (n : Int), sent⟩) (to am : Int) :
    payS ⟨c, ⟨sd, leavesS sd 4, (n : Int)⟩, (n : Int), sent⟩ to am = (zeroW, zeroT, 9) ∨ (n = 4 ∧ payS ⟨c, ⟨sd, leavesS sd 4, (n : Int)⟩, (n : Int), sent⟩ to am = (zeroW, zeroT, 17)) ∨
    ∃ sg, n < 4 ∧ payS ⟨c, ⟨sd, leavesS sd 4, (n : Int)⟩, (n : Int), sent⟩ to am = (⟨c, ⟨sd, leavesS sd 4, ((n + 1 : Nat) : Int)⟩, ((n + 1 : Nat) : Int), sent ++ [⟨c, to, am, (n : Int), sg⟩]⟩, ⟨c, to, am, (n : Int), sg⟩, 0) ∧
      okW ⟨c, ⟨sd, leavesS sd 4, ((n + 1 : Nat) : Int)⟩, ((n + 1 : Nat) : Int), sent ++ [⟨c, to, am, (n : Int), sg⟩]⟩ ∧ ∀ roots : List (List UInt8), roots.length = 4 → roots.getD c.toNat [] = rootS (leavesS sd 4) → validT ⟨c, to, am, (n : Int), sg⟩ roots = true := by
  have hP : ∀ x, makeT ⟨sd, leavesS sd 4, (n : Int)⟩ ⟨c, to, am, (n : Int), []⟩ = x → payS ⟨c, ⟨sd, leavesS sd 4, (n : Int)⟩, (n : Int), sent⟩ to am = if x.2.2 = 0 then (⟨c, x.2.1, (n : Int) + 1, sent ++ [x.1]⟩, x.1, 0) else (zeroW, zeroT, x.2.2) := fun x e => by
    subst e
    exact if_pos hk
  by_cases hT : okT ⟨c, to, am, (n : Int), []⟩
  case neg => exact .inl (by rw [hP _ (if_neg hT)]; rfl)
  have hgd : goodK ⟨sd, leavesS sd 4, (n : Int)⟩ := hk.2.1
  have hll := leavesS_length sd 4
  by_cases h4 : n = 4
  · refine .inr (.inl ⟨h4, ?_⟩)
    have hsg : signS ⟨sd, leavesS sd 4, (n : Int)⟩ (txT ⟨c, to, am, (n : Int), []⟩) = ([], zeroK, 17) := by
      unfold signS
      rw [if_pos hgd, if_pos (by show ((n : Int) = ((leavesS sd 4).length : Int)); rw [hll]; omega)]
    have hmk : makeT ⟨sd, leavesS sd 4, (n : Int)⟩ ⟨c, to, am, (n : Int), []⟩ = (zeroT, zeroK, 17) := by
      unfold makeT
      rw [if_pos hT, hsg]
      rfl
    rw [hP _ hmk]
    rfl
  · have hlt : n < 4 := by omega
    have hsg : signS ⟨sd, leavesS sd 4, (n : Int)⟩ (txT ⟨c, to, am, (n : Int), []⟩) = (sigB ⟨sd, leavesS sd 4, (n : Int)⟩ (txT ⟨c, to, am, (n : Int), []⟩), ⟨sd, leavesS sd 4, (n : Int) + 1⟩, 0) := by
      unfold signS
      rw [if_pos hgd, if_neg (by show ¬ ((n : Int) = ((leavesS sd 4).length : Int)); rw [hll]; omega)]
      rfl
    have hmk : makeT ⟨sd, leavesS sd 4, (n : Int)⟩ ⟨c, to, am, (n : Int), []⟩ = (⟨c, to, am, (n : Int), sigB ⟨sd, leavesS sd 4, (n : Int)⟩ (txT ⟨c, to, am, (n : Int), []⟩)⟩, ⟨sd, leavesS sd 4, (n : Int) + 1⟩, 0) := by
      unfold makeT
      rw [if_pos hT, hsg, if_pos rfl]
      rfl
    have hlen : (sigB ⟨sd, leavesS sd 4, (n : Int)⟩ (txT ⟨c, to, am, (n : Int), []⟩)).length = 106 := sigB_len sd 2 n _ hs (by decide) (by omega)
    have hvs : verS (rootS (leavesS sd 4)) 2 (txT ⟨c, to, am, (n : Int), []⟩) (sigB ⟨sd, leavesS sd 4, (n : Int)⟩ (txT ⟨c, to, am, (n : Int), []⟩)) = ((n : Int), true) := ver_sig sd 2 n (txT ⟨c, to, am, (n : Int), []⟩) hs (by decide) (by omega) hgd
    have htx := txT_signed hT (s := sigB ⟨sd, leavesS sd 4, (n : Int)⟩ (txT ⟨c, to, am, (n : Int), []⟩)) (by omega)
    have hok := okT_signed hT (s := sigB ⟨sd, leavesS sd 4, (n : Int)⟩ (txT ⟨c, to, am, (n : Int), []⟩)) (by omega)
    unfold Txn.signed at htx hok
    dsimp only at htx hok
    refine .inr (.inr ⟨sigB ⟨sd, leavesS sd 4, (n : Int)⟩ (txT ⟨c, to, am, (n : Int), []⟩), hlt, ?_, ?_, ?_⟩)
    · rw [hP _ hmk]
      rfl
    · have hsl : sent.length ≤ 1048576 := by have := hk.2.2.2.1; dsimp only at this; omega
      exact okW_pay hsl hk (by rw [hll]; omega) _
    · intro roots h1 h2
      unfold validT
      dsimp only
      have hc3 : c ≤ 3 := hk.1.2
      rw [decide_eq_true hok, h2, htx, hvs, h1, decide_eq_true (by omega)]
      rfl
noncomputable def wpyC : Contract := mkC (α := Int × List Int × List Int) (fun p => True) (fun p => [.c (.int .i64 p.1), .c (.sl (zints p.2.1)), .c (.sl (zints p.2.2))]) (fun p => []) (fun p => ⟨[.pv (.c (.bool true))], []⟩)
set_option maxRecDepth 100000 in
set_option maxHeartbeats 4000000 in
theorem wpy_sound (hΓ : SoundG Try.prog Γ) (h1 : Γ 27 = alive34C) (h2 : Γ 34 = nwC) (h3 : Γ 35 = txKeyC) (h4 : Γ 24 = rootC) (h5 : Γ 28 = payC) (h6 : Γ 36 = txVaC) : SoundC Try.prog 7 wpyC := by
  refine sound_fnA ⟨[30], [(7, .frz 9 1)]⟩ Try.func7 (by kernel_rfl) rfl rfl ?_
  intro args objs r0 hr
  obtain ⟨⟨c, to, am⟩, _, rfl, rfl, rfl⟩ := mkC_inv hr
  refine ⟨rfl, by show 3 ≤ _; decide, fun E hN hns hF => ?_⟩
  refine vc_sound hΓ mixed _ _ _ ?_
  have hN := hN.trans nt_7
  have q0 : alive34C [] [] = some ⟨[.pv (.c (.bool true))], []⟩ := rfl
  have q1 := nw_at c
  have htl := zints_length to
  have hal := zints_length am
  have nt1 : (!true) = false := rfl
  have ntf : (!false) = true := rfl
  have b9 : ((9 : Int) != 0) = true := rfl
  have b0 : ((0 : Int) != 0) = false := rfl
  have z4 : ((4 : Int) != 0) = true := rfl
  have b17 : ((17 : Int) != 0) = true := rfl
  have b179 : ((9 : Int) == 17) = false := rfl
  have b917 : ((9 : Int) != 17) = true := rfl
  have b99 : ((9 : Int) != 9) = false := rfl
  have b1717 : ((17 : Int) == 17) = true := rfl
  have b1718 : ((17 : Int) != 17) = false := rfl
  dsimp only
  by_cases hc : 0 ≤ c ∧ c ≤ 3
  case neg =>
    rw [show nwW c = zeroW from if_neg hc, show nwE c = 4 from if_neg hc] at q1
    unfold Wl.av zeroW zeroK at q1
    dsimp only at q1
    rw [trows_nil, show texts [] = [] from rfl] at q1
    by_cases c0 : c < 0
    · have k0 : decide (c < 0) = true := decide_eq_true c0
      simp only [runA, runB, runC, runD, runE, runF, fieldE, storeE, binE, ↓reduceIte, Nat.reduceLT, Nat.reduceLeDiff, Nat.reduceEqDiff, Nat.reduceAdd, Nat.reduceMul, Nat.reduceSub, reduceCtorEq, putAt, unE, Nat.reduceBEq, convE, buildE, List.replicate, Int.reduceLT, Int.reduceLE, Int.reduceToNat, mkE, mapSetE, hN, hF, ty_3, ty_4, ty_9, ty_22, ty_24, ty_27, ty_50, ty_52, ty_54, ty_62, notIf, isEq, h1, q0, h2, q1, nt1, z4, k0]
      simp only [runB, finC, finD, Option.isSome_some, Option.isSome_none, ↓reduceIte, Nat.reduceEqDiff, Nat.reduceAdd, Nat.reduceMul, forall_eq_or_imp, forall_eq, implies_true, Nat.reduceBEq, reduceCtorEq, false_implies, List.zip_cons_cons, List.zip_nil_left, List.zip_nil_right, Nat.reduceLeDiff, List.forall_mem_nil, rs_7, ty_3, ty_4, ty_9, ty_22, ty_24, ty_27, ty_50, ty_52, ty_54, ty_62]
    · have k0 : decide (c < 0) = false := decide_eq_false c0
      have k1 : decide (c > 3) = true := decide_eq_true (by omega)
      simp only [runA, runB, runC, runD, runE, runF, fieldE, storeE, binE, ↓reduceIte, Nat.reduceLT, Nat.reduceLeDiff, Nat.reduceEqDiff, Nat.reduceAdd, Nat.reduceMul, Nat.reduceSub, reduceCtorEq, putAt, unE, Nat.reduceBEq, convE, buildE, List.replicate, Int.reduceLT, Int.reduceLE, Int.reduceToNat, mkE, mapSetE, hN, hF, ty_3, ty_4, ty_9, ty_22, ty_24, ty_27, ty_50, ty_52, ty_54, ty_62, notIf, isEq, h1, q0, h2, q1, nt1, z4, k0, k1]
      simp only [runB, finC, finD, Option.isSome_some, Option.isSome_none, ↓reduceIte, Nat.reduceEqDiff, Nat.reduceAdd, Nat.reduceMul, forall_eq_or_imp, forall_eq, implies_true, Nat.reduceBEq, reduceCtorEq, false_implies, List.zip_cons_cons, List.zip_nil_left, List.zip_nil_right, Nat.reduceLeDiff, List.forall_mem_nil, rs_7, ty_3, ty_4, ty_9, ty_22, ty_24, ty_27, ty_50, ty_52, ty_54, ty_62]
  rw [show nwW c = ⟨c, txKeyK c, 0, []⟩ from if_pos hc, show nwE c = 0 from if_pos hc] at q1
  have q2 := txKey_at c
  rw [show txKeyK c = ⟨cs c.toNat, leavesS (cs c.toNat) 4, 0⟩ from if_pos hc] at q1 q2
  unfold Ky.av at q2
  unfold Wl.av at q1
  dsimp only at q1 q2
  rw [trows_nil] at q1
  have hsd : (cs c.toNat).length ≤ 64 := by simp [cs]
  have hw0' := okW_new hc hsd
  have hlv4 := leavesS_length (cs c.toNat) 4
  have q3 := root_at (leavesS (cs c.toNat) 4) (goodK.okl hw0'.2.1)
  have hpay := fun (c' : Int) (n : Nat) (sent : List Txn) (hn : n ≤ 4) (hk : okW ⟨c', ⟨cs c.toNat, leavesS (cs c.toNat) 4, (n : Int)⟩, (n : Int), sent⟩) (t a : Int) => pay_case hsd hn hk t a
  generalize cs c.toNat = sd at q1 q2 q3 hsd hw0' hlv4 hpay
  generalize rootS (leavesS sd 4) = rt at q3 hpay
  generalize leavesS sd 4 = lv at q1 q2 q3 hw0' hlv4 hpay
  have cc0 : ((0 : Int) < ((4 : Nat) : Int)) = True := eq_true (by decide)
  have cc1 : ((1 : Int) < ((4 : Nat) : Int)) = True := eq_true (by decide)
  have cc2 : ((2 : Int) < ((4 : Nat) : Int)) = True := eq_true (by decide)
  have cc3 : ((3 : Int) < ((4 : Nat) : Int)) = True := eq_true (by decide)
  rcases (show c = 0 ∨ c = 1 ∨ c = 2 ∨ c = 3 by omega) with rfl | rfl | rfl | rfl
  · have hw0 : okW ⟨0, ⟨sd, lv, ((0 : Nat) : Int)⟩, ((0 : Nat) : Int), []⟩ := hw0'
    simp only [runA, runB, runC, runD, runE, runF, fieldE, storeE, binE, ↓reduceIte, Nat.reduceLT, Nat.reduceLeDiff, Nat.reduceEqDiff, Nat.reduceAdd, Nat.reduceMul, Nat.reduceSub, reduceCtorEq, putAt, unE, Nat.reduceBEq, convE, buildE, List.replicate, Int.reduceLT, Int.reduceLE, Int.reduceToNat, mkE, mapSetE, hN, hF, ty_3, ty_4, ty_9, ty_22, ty_24, ty_27, ty_50, ty_52, ty_54, ty_62, notIf, isEq, htl, hal, nt1, ntf, z4, b9, b0, b17, b179, b917, b99, b1717, b1718, h1, q0, h2, q1, h3, q2, h4, q3, doHint, cc0, cc1, cc2, cc3, Nat.zero_lt_one]
    refine AWP.loop (fun k st => ∃ (i n : Nat) (sent : List Txn), (i ≤ 9 ∧ n ≤ 4 ∧ okW ⟨0, ⟨sd, lv, (n : Int)⟩, (n : Int), sent⟩) ∧ k = 9 - i ∧ st = ⟨[(1, .c (.sl (zints to))), (2, .c (.sl (zints am))), (7, .ptr 448 0), (9, .c (.sl [[.str rt], [.str []], [.str []], [.str []]])), (10, .c (.int .i64 (n : Int))), (11, .c (.int .i64 (i : Int)))], [(448, .obj [.c (.int .i64 0), .c (.str sd), .c (.sl (texts lv)), .c (.int .i64 (n : Int)), .c (.int .i64 (n : Int)), .c (.sl (trows sent))] false)]⟩) ⟨9, _, ?w, 0, 0, [], ⟨by decide, by decide, hw0⟩, rfl, rfl⟩ ?r
    case w =>
      rw [hns]
      simp only [runB, finC, finD, AS.get, AS.mem, false_implies, implies_true, ↓reduceIte, Nat.reduceEqDiff, Option.isSome_some, Option.isSome_none, forall_eq_or_imp, forall_eq, reduceCtorEq, Nat.reduceAdd, Nat.reduceMul, List.zip_cons_cons, List.zip_nil_left, List.zip_nil_right, List.forall_mem_nil, trows_nil]
      first | done | simp
    case r =>
      rintro k st ⟨i, n, sent, ⟨hi, hn4, hok⟩, rfl, rfl⟩
      refine vc_sound hΓ mixed _ _ _ ?_
      have n4 : decide ((n : Int) ≤ 4) = true := decide_eq_true (by omega)
      have nn : ((n : Int) == (n : Int)) = true := by simp
      by_cases c1 : i < to.length
      case neg =>
        have g1 : decide ((i : Int) < (to.length : Int)) = false := decide_eq_false (by omega)
        simp only [runA, runB, runC, runD, runE, runF, fieldE, storeE, binE, ↓reduceIte, Nat.reduceLT, Nat.reduceLeDiff, Nat.reduceEqDiff, Nat.reduceAdd, Nat.reduceMul, Nat.reduceSub, reduceCtorEq, putAt, unE, Nat.reduceBEq, convE, buildE, List.replicate, Int.reduceLT, Int.reduceLE, Int.reduceToNat, mkE, mapSetE, hN, hF, ty_3, ty_4, ty_9, ty_22, ty_24, ty_27, ty_50, ty_52, ty_54, ty_62, notIf, isEq, htl, hal, nt1, ntf, z4, b9, b0, b17, b179, b917, b99, b1717, b1718, g1, n4, nn]
        simp only [runB, finC, finD, Option.isSome_some, Option.isSome_none, ↓reduceIte, Nat.reduceEqDiff, Nat.reduceAdd, Nat.reduceMul, forall_eq_or_imp, forall_eq, implies_true, Nat.reduceBEq, reduceCtorEq, false_implies, List.zip_cons_cons, List.zip_nil_left, List.zip_nil_right, Nat.reduceLeDiff, List.forall_mem_nil, rs_7, ty_3, ty_4, ty_9, ty_22, ty_24, ty_27, ty_50, ty_52, ty_54, ty_62]
      have g1 : decide ((i : Int) < (to.length : Int)) = true := decide_eq_true (by omega)
      by_cases c2 : i < am.length
      case neg =>
        have g2 : decide ((i : Int) < (am.length : Int)) = false := decide_eq_false (by omega)
        simp only [runA, runB, runC, runD, runE, runF, fieldE, storeE, binE, ↓reduceIte, Nat.reduceLT, Nat.reduceLeDiff, Nat.reduceEqDiff, Nat.reduceAdd, Nat.reduceMul, Nat.reduceSub, reduceCtorEq, putAt, unE, Nat.reduceBEq, convE, buildE, List.replicate, Int.reduceLT, Int.reduceLE, Int.reduceToNat, mkE, mapSetE, hN, hF, ty_3, ty_4, ty_9, ty_22, ty_24, ty_27, ty_50, ty_52, ty_54, ty_62, notIf, isEq, htl, hal, nt1, ntf, z4, b9, b0, b17, b179, b917, b99, b1717, b1718, g1, g2, n4, nn]
        simp only [runB, finC, finD, Option.isSome_some, Option.isSome_none, ↓reduceIte, Nat.reduceEqDiff, Nat.reduceAdd, Nat.reduceMul, forall_eq_or_imp, forall_eq, implies_true, Nat.reduceBEq, reduceCtorEq, false_implies, List.zip_cons_cons, List.zip_nil_left, List.zip_nil_right, Nat.reduceLeDiff, List.forall_mem_nil, rs_7, ty_3, ty_4, ty_9, ty_22, ty_24, ty_27, ty_50, ty_52, ty_54, ty_62]
      have g2 : decide ((i : Int) < (am.length : Int)) = true := decide_eq_true (by omega)
      by_cases c3 : i < 9
      case neg =>
        have g3 : decide ((i : Int) < 9) = false := decide_eq_false (by omega)
        simp only [runA, runB, runC, runD, runE, runF, fieldE, storeE, binE, ↓reduceIte, Nat.reduceLT, Nat.reduceLeDiff, Nat.reduceEqDiff, Nat.reduceAdd, Nat.reduceMul, Nat.reduceSub, reduceCtorEq, putAt, unE, Nat.reduceBEq, convE, buildE, List.replicate, Int.reduceLT, Int.reduceLE, Int.reduceToNat, mkE, mapSetE, hN, hF, ty_3, ty_4, ty_9, ty_22, ty_24, ty_27, ty_50, ty_52, ty_54, ty_62, notIf, isEq, htl, hal, nt1, ntf, z4, b9, b0, b17, b179, b917, b99, b1717, b1718, g1, g2, g3, n4, nn]
        simp only [runB, finC, finD, Option.isSome_some, Option.isSome_none, ↓reduceIte, Nat.reduceEqDiff, Nat.reduceAdd, Nat.reduceMul, forall_eq_or_imp, forall_eq, implies_true, Nat.reduceBEq, reduceCtorEq, false_implies, List.zip_cons_cons, List.zip_nil_left, List.zip_nil_right, Nat.reduceLeDiff, List.forall_mem_nil, rs_7, ty_3, ty_4, ty_9, ty_22, ty_24, ty_27, ty_50, ty_52, ty_54, ty_62]
      have g3 : decide ((i : Int) < 9) = true := decide_eq_true (by omega)
      have e1 : IntKind.i64.wrap ((i : Int) + 1) = (i : Int) + 1 := wrapI (by omega)
      have e2 : IntKind.i64.wrap ((n : Int) + 1) = (n : Int) + 1 := wrapI (by omega)
      have hx := zintsD to i c1
      have hy := zintsD am i c2
      generalize to.getD i 0 = x at hx
      generalize am.getD i 0 = y at hy
      have hsn : sent.length ≤ 4 := by have := hok.2.2.2.1; dsimp only at this; omega
      have q5 := pay_at 0 sd lv (n : Int) (n : Int) sent x y (by rw [hlv4]; decide) (by omega)
      have hcase := hpay 0 n sent hn4 hok x y
      rcases hcase with hc | ⟨h4, hc⟩ | ⟨sg, hlt, hc, hok2, hval⟩
      · rw [hc] at q5
        unfold Wl.av Txn.av zeroW zeroK zeroT at q5
        dsimp only at q5
        rw [trows_nil, show texts [] = [] from rfl] at q5
        simp only [runA, runB, runC, runD, runE, runF, fieldE, storeE, binE, ↓reduceIte, Nat.reduceLT, Nat.reduceLeDiff, Nat.reduceEqDiff, Nat.reduceAdd, Nat.reduceMul, Nat.reduceSub, reduceCtorEq, putAt, unE, Nat.reduceBEq, convE, buildE, List.replicate, Int.reduceLT, Int.reduceLE, Int.reduceToNat, mkE, mapSetE, hN, hF, ty_3, ty_4, ty_9, ty_22, ty_24, ty_27, ty_50, ty_52, ty_54, ty_62, notIf, isEq, htl, hal, nt1, ntf, z4, b9, b0, b17, b179, b917, b99, b1717, b1718, g1, g2, g3, e1, hx, hy, h5, q5]
        refine drawnP_intro (by kernel_rfl) (by kernel_rfl) ?_
        simp only [runA, runB, runC, runD, runE, runF, fieldE, storeE, binE, ↓reduceIte, Nat.reduceLT, Nat.reduceLeDiff, Nat.reduceEqDiff, Nat.reduceAdd, Nat.reduceMul, Nat.reduceSub, reduceCtorEq, putAt, unE, Nat.reduceBEq, convE, buildE, List.replicate, Int.reduceLT, Int.reduceLE, Int.reduceToNat, mkE, mapSetE, hN, hF, ty_3, ty_4, ty_9, ty_22, ty_24, ty_27, ty_50, ty_52, ty_54, ty_62, notIf, isEq, htl, hal, nt1, ntf, z4, b9, b0, b17, b179, b917, b99, b1717, b1718, g1, g2, g3, e1, hx, hy, h5, q5]
        refine ⟨9 - (i + 1), _, by omega, ?_, i + 1, n, sent, ⟨by omega, by omega, hok⟩, rfl, rfl⟩
        rw [hns]
        simp only [runB, finC, finD, AS.get, AS.mem, false_implies, implies_true, ↓reduceIte, Nat.reduceEqDiff, Option.isSome_some, Option.isSome_none, forall_eq_or_imp, forall_eq, reduceCtorEq, Nat.reduceAdd, Nat.reduceMul, List.zip_cons_cons, List.zip_nil_left, List.zip_nil_right, List.forall_mem_nil]
        first | done | simp
      · rw [hc] at q5
        unfold Wl.av Txn.av zeroW zeroK zeroT at q5
        dsimp only at q5
        rw [trows_nil, show texts [] = [] from rfl] at q5
        have n5 : ((n : Int) != 4) = false := by rw [bne_eq_false_iff_eq]; omega
        simp only [runA, runB, runC, runD, runE, runF, fieldE, storeE, binE, ↓reduceIte, Nat.reduceLT, Nat.reduceLeDiff, Nat.reduceEqDiff, Nat.reduceAdd, Nat.reduceMul, Nat.reduceSub, reduceCtorEq, putAt, unE, Nat.reduceBEq, convE, buildE, List.replicate, Int.reduceLT, Int.reduceLE, Int.reduceToNat, mkE, mapSetE, hN, hF, ty_3, ty_4, ty_9, ty_22, ty_24, ty_27, ty_50, ty_52, ty_54, ty_62, notIf, isEq, htl, hal, nt1, ntf, z4, b9, b0, b17, b179, b917, b99, b1717, b1718, g1, g2, g3, e1, hx, hy, h5, q5, n5]
        refine drawnP_intro (by kernel_rfl) (by kernel_rfl) ?_
        simp only [runA, runB, runC, runD, runE, runF, fieldE, storeE, binE, ↓reduceIte, Nat.reduceLT, Nat.reduceLeDiff, Nat.reduceEqDiff, Nat.reduceAdd, Nat.reduceMul, Nat.reduceSub, reduceCtorEq, putAt, unE, Nat.reduceBEq, convE, buildE, List.replicate, Int.reduceLT, Int.reduceLE, Int.reduceToNat, mkE, mapSetE, hN, hF, ty_3, ty_4, ty_9, ty_22, ty_24, ty_27, ty_50, ty_52, ty_54, ty_62, notIf, isEq, htl, hal, nt1, ntf, z4, b9, b0, b17, b179, b917, b99, b1717, b1718, g1, g2, g3, e1, hx, hy, h5, q5, n5]
        refine ⟨9 - (i + 1), _, by omega, ?_, i + 1, n, sent, ⟨by omega, by omega, hok⟩, rfl, rfl⟩
        rw [hns]
        simp only [runB, finC, finD, AS.get, AS.mem, false_implies, implies_true, ↓reduceIte, Nat.reduceEqDiff, Option.isSome_some, Option.isSome_none, forall_eq_or_imp, forall_eq, reduceCtorEq, Nat.reduceAdd, Nat.reduceMul, List.zip_cons_cons, List.zip_nil_left, List.zip_nil_right, List.forall_mem_nil]
        first | done | simp
      · rw [hc] at q5
        unfold Wl.av Txn.av at q5
        dsimp only at q5
        have hv := txVa_at ⟨0, x, y, (n : Int), sg⟩ [rt, [], [], []] (by simp)
        rw [hval _ rfl rfl] at hv
        simp only [texts, List.map_cons, List.map_nil] at hv
        have n6 : ((n : Int) != (n : Int)) = false := by simp
        have ec : ((n + 1 : Nat) : Int) = (n : Int) + 1 := by omega
        simp only [runA, runB, runC, runD, runE, runF, fieldE, storeE, binE, ↓reduceIte, Nat.reduceLT, Nat.reduceLeDiff, Nat.reduceEqDiff, Nat.reduceAdd, Nat.reduceMul, Nat.reduceSub, reduceCtorEq, putAt, unE, Nat.reduceBEq, convE, buildE, List.replicate, Int.reduceLT, Int.reduceLE, Int.reduceToNat, mkE, mapSetE, hN, hF, ty_3, ty_4, ty_9, ty_22, ty_24, ty_27, ty_50, ty_52, ty_54, ty_62, notIf, isEq, htl, hal, nt1, ntf, z4, b9, b0, b17, b179, b917, b99, b1717, b1718, g1, g2, g3, e1, hx, hy, h5, q5, h6, hv, n6, e2, ec]
        refine drawnP_intro (by kernel_rfl) (by kernel_rfl) ?_
        simp only [runA, runB, runC, runD, runE, runF, fieldE, storeE, binE, ↓reduceIte, Nat.reduceLT, Nat.reduceLeDiff, Nat.reduceEqDiff, Nat.reduceAdd, Nat.reduceMul, Nat.reduceSub, reduceCtorEq, putAt, unE, Nat.reduceBEq, convE, buildE, List.replicate, Int.reduceLT, Int.reduceLE, Int.reduceToNat, mkE, mapSetE, hN, hF, ty_3, ty_4, ty_9, ty_22, ty_24, ty_27, ty_50, ty_52, ty_54, ty_62, notIf, isEq, htl, hal, nt1, ntf, z4, b9, b0, b17, b179, b917, b99, b1717, b1718, g1, g2, g3, e1, hx, hy, h5, q5, h6, hv, n6, e2, ec]
        refine ⟨9 - (i + 1), _, by omega, ?_, i + 1, n + 1, _, ⟨by omega, by omega, hok2⟩, rfl, rfl⟩
        rw [hns]
        simp only [runB, finC, finD, AS.get, AS.mem, false_implies, implies_true, ↓reduceIte, Nat.reduceEqDiff, Option.isSome_some, Option.isSome_none, forall_eq_or_imp, forall_eq, reduceCtorEq, Nat.reduceAdd, Nat.reduceMul, List.zip_cons_cons, List.zip_nil_left, List.zip_nil_right, List.forall_mem_nil, ec]
        first | done | simp
  · have hw0 : okW ⟨1, ⟨sd, lv, ((0 : Nat) : Int)⟩, ((0 : Nat) : Int), []⟩ := hw0'
    simp only [runA, runB, runC, runD, runE, runF, fieldE, storeE, binE, ↓reduceIte, Nat.reduceLT, Nat.reduceLeDiff, Nat.reduceEqDiff, Nat.reduceAdd, Nat.reduceMul, Nat.reduceSub, reduceCtorEq, putAt, unE, Nat.reduceBEq, convE, buildE, List.replicate, Int.reduceLT, Int.reduceLE, Int.reduceToNat, mkE, mapSetE, hN, hF, ty_3, ty_4, ty_9, ty_22, ty_24, ty_27, ty_50, ty_52, ty_54, ty_62, notIf, isEq, htl, hal, nt1, ntf, z4, b9, b0, b17, b179, b917, b99, b1717, b1718, h1, q0, h2, q1, h3, q2, h4, q3, doHint, cc0, cc1, cc2, cc3, Nat.zero_lt_one]
    refine AWP.loop (fun k st => ∃ (i n : Nat) (sent : List Txn), (i ≤ 9 ∧ n ≤ 4 ∧ okW ⟨1, ⟨sd, lv, (n : Int)⟩, (n : Int), sent⟩) ∧ k = 9 - i ∧ st = ⟨[(1, .c (.sl (zints to))), (2, .c (.sl (zints am))), (7, .ptr 448 0), (9, .c (.sl [[.str []], [.str rt], [.str []], [.str []]])), (10, .c (.int .i64 (n : Int))), (11, .c (.int .i64 (i : Int)))], [(448, .obj [.c (.int .i64 1), .c (.str sd), .c (.sl (texts lv)), .c (.int .i64 (n : Int)), .c (.int .i64 (n : Int)), .c (.sl (trows sent))] false)]⟩) ⟨9, _, ?w, 0, 0, [], ⟨by decide, by decide, hw0⟩, rfl, rfl⟩ ?r
    case w =>
      rw [hns]
      simp only [runB, finC, finD, AS.get, AS.mem, false_implies, implies_true, ↓reduceIte, Nat.reduceEqDiff, Option.isSome_some, Option.isSome_none, forall_eq_or_imp, forall_eq, reduceCtorEq, Nat.reduceAdd, Nat.reduceMul, List.zip_cons_cons, List.zip_nil_left, List.zip_nil_right, List.forall_mem_nil, trows_nil]
      first | done | simp
    case r =>
      rintro k st ⟨i, n, sent, ⟨hi, hn4, hok⟩, rfl, rfl⟩
      refine vc_sound hΓ mixed _ _ _ ?_
      have n4 : decide ((n : Int) ≤ 4) = true := decide_eq_true (by omega)
      have nn : ((n : Int) == (n : Int)) = true := by simp
      by_cases c1 : i < to.length
      case neg =>
        have g1 : decide ((i : Int) < (to.length : Int)) = false := decide_eq_false (by omega)
        simp only [runA, runB, runC, runD, runE, runF, fieldE, storeE, binE, ↓reduceIte, Nat.reduceLT, Nat.reduceLeDiff, Nat.reduceEqDiff, Nat.reduceAdd, Nat.reduceMul, Nat.reduceSub, reduceCtorEq, putAt, unE, Nat.reduceBEq, convE, buildE, List.replicate, Int.reduceLT, Int.reduceLE, Int.reduceToNat, mkE, mapSetE, hN, hF, ty_3, ty_4, ty_9, ty_22, ty_24, ty_27, ty_50, ty_52, ty_54, ty_62, notIf, isEq, htl, hal, nt1, ntf, z4, b9, b0, b17, b179, b917, b99, b1717, b1718, g1, n4, nn]
        simp only [runB, finC, finD, Option.isSome_some, Option.isSome_none, ↓reduceIte, Nat.reduceEqDiff, Nat.reduceAdd, Nat.reduceMul, forall_eq_or_imp, forall_eq, implies_true, Nat.reduceBEq, reduceCtorEq, false_implies, List.zip_cons_cons, List.zip_nil_left, List.zip_nil_right, Nat.reduceLeDiff, List.forall_mem_nil, rs_7, ty_3, ty_4, ty_9, ty_22, ty_24, ty_27, ty_50, ty_52, ty_54, ty_62]
      have g1 : decide ((i : Int) < (to.length : Int)) = true := decide_eq_true (by omega)
      by_cases c2 : i < am.length
      case neg =>
        have g2 : decide ((i : Int) < (am.length : Int)) = false := decide_eq_false (by omega)
        simp only [runA, runB, runC, runD, runE, runF, fieldE, storeE, binE, ↓reduceIte, Nat.reduceLT, Nat.reduceLeDiff, Nat.reduceEqDiff, Nat.reduceAdd, Nat.reduceMul, Nat.reduceSub, reduceCtorEq, putAt, unE, Nat.reduceBEq, convE, buildE, List.replicate, Int.reduceLT, Int.reduceLE, Int.reduceToNat, mkE, mapSetE, hN, hF, ty_3, ty_4, ty_9, ty_22, ty_24, ty_27, ty_50, ty_52, ty_54, ty_62, notIf, isEq, htl, hal, nt1, ntf, z4, b9, b0, b17, b179, b917, b99, b1717, b1718, g1, g2, n4, nn]
        simp only [runB, finC, finD, Option.isSome_some, Option.isSome_none, ↓reduceIte, Nat.reduceEqDiff, Nat.reduceAdd, Nat.reduceMul, forall_eq_or_imp, forall_eq, implies_true, Nat.reduceBEq, reduceCtorEq, false_implies, List.zip_cons_cons, List.zip_nil_left, List.zip_nil_right, Nat.reduceLeDiff, List.forall_mem_nil, rs_7, ty_3, ty_4, ty_9, ty_22, ty_24, ty_27, ty_50, ty_52, ty_54, ty_62]
      have g2 : decide ((i : Int) < (am.length : Int)) = true := decide_eq_true (by omega)
      by_cases c3 : i < 9
      case neg =>
        have g3 : decide ((i : Int) < 9) = false := decide_eq_false (by omega)
        simp only [runA, runB, runC, runD, runE, runF, fieldE, storeE, binE, ↓reduceIte, Nat.reduceLT, Nat.reduceLeDiff, Nat.reduceEqDiff, Nat.reduceAdd, Nat.reduceMul, Nat.reduceSub, reduceCtorEq, putAt, unE, Nat.reduceBEq, convE, buildE, List.replicate, Int.reduceLT, Int.reduceLE, Int.reduceToNat, mkE, mapSetE, hN, hF, ty_3, ty_4, ty_9, ty_22, ty_24, ty_27, ty_50, ty_52, ty_54, ty_62, notIf, isEq, htl, hal, nt1, ntf, z4, b9, b0, b17, b179, b917, b99, b1717, b1718, g1, g2, g3, n4, nn]
        simp only [runB, finC, finD, Option.isSome_some, Option.isSome_none, ↓reduceIte, Nat.reduceEqDiff, Nat.reduceAdd, Nat.reduceMul, forall_eq_or_imp, forall_eq, implies_true, Nat.reduceBEq, reduceCtorEq, false_implies, List.zip_cons_cons, List.zip_nil_left, List.zip_nil_right, Nat.reduceLeDiff, List.forall_mem_nil, rs_7, ty_3, ty_4, ty_9, ty_22, ty_24, ty_27, ty_50, ty_52, ty_54, ty_62]
      have g3 : decide ((i : Int) < 9) = true := decide_eq_true (by omega)
      have e1 : IntKind.i64.wrap ((i : Int) + 1) = (i : Int) + 1 := wrapI (by omega)
      have e2 : IntKind.i64.wrap ((n : Int) + 1) = (n : Int) + 1 := wrapI (by omega)
      have hx := zintsD to i c1
      have hy := zintsD am i c2
      generalize to.getD i 0 = x at hx
      generalize am.getD i 0 = y at hy
      have hsn : sent.length ≤ 4 := by have := hok.2.2.2.1; dsimp only at this; omega
      have q5 := pay_at 1 sd lv (n : Int) (n : Int) sent x y (by rw [hlv4]; decide) (by omega)
      have hcase := hpay 1 n sent hn4 hok x y
      rcases hcase with hc | ⟨h4, hc⟩ | ⟨sg, hlt, hc, hok2, hval⟩
      · rw [hc] at q5
        unfold Wl.av Txn.av zeroW zeroK zeroT at q5
        dsimp only at q5
        rw [trows_nil, show texts [] = [] from rfl] at q5
        simp only [runA, runB, runC, runD, runE, runF, fieldE, storeE, binE, ↓reduceIte, Nat.reduceLT, Nat.reduceLeDiff, Nat.reduceEqDiff, Nat.reduceAdd, Nat.reduceMul, Nat.reduceSub, reduceCtorEq, putAt, unE, Nat.reduceBEq, convE, buildE, List.replicate, Int.reduceLT, Int.reduceLE, Int.reduceToNat, mkE, mapSetE, hN, hF, ty_3, ty_4, ty_9, ty_22, ty_24, ty_27, ty_50, ty_52, ty_54, ty_62, notIf, isEq, htl, hal, nt1, ntf, z4, b9, b0, b17, b179, b917, b99, b1717, b1718, g1, g2, g3, e1, hx, hy, h5, q5]
        refine drawnP_intro (by kernel_rfl) (by kernel_rfl) ?_
        simp only [runA, runB, runC, runD, runE, runF, fieldE, storeE, binE, ↓reduceIte, Nat.reduceLT, Nat.reduceLeDiff, Nat.reduceEqDiff, Nat.reduceAdd, Nat.reduceMul, Nat.reduceSub, reduceCtorEq, putAt, unE, Nat.reduceBEq, convE, buildE, List.replicate, Int.reduceLT, Int.reduceLE, Int.reduceToNat, mkE, mapSetE, hN, hF, ty_3, ty_4, ty_9, ty_22, ty_24, ty_27, ty_50, ty_52, ty_54, ty_62, notIf, isEq, htl, hal, nt1, ntf, z4, b9, b0, b17, b179, b917, b99, b1717, b1718, g1, g2, g3, e1, hx, hy, h5, q5]
        refine ⟨9 - (i + 1), _, by omega, ?_, i + 1, n, sent, ⟨by omega, by omega, hok⟩, rfl, rfl⟩
        rw [hns]
        simp only [runB, finC, finD, AS.get, AS.mem, false_implies, implies_true, ↓reduceIte, Nat.reduceEqDiff, Option.isSome_some, Option.isSome_none, forall_eq_or_imp, forall_eq, reduceCtorEq, Nat.reduceAdd, Nat.reduceMul, List.zip_cons_cons, List.zip_nil_left, List.zip_nil_right, List.forall_mem_nil]
        first | done | simp
      · rw [hc] at q5
        unfold Wl.av Txn.av zeroW zeroK zeroT at q5
        dsimp only at q5
        rw [trows_nil, show texts [] = [] from rfl] at q5
        have n5 : ((n : Int) != 4) = false := by rw [bne_eq_false_iff_eq]; omega
        simp only [runA, runB, runC, runD, runE, runF, fieldE, storeE, binE, ↓reduceIte, Nat.reduceLT, Nat.reduceLeDiff, Nat.reduceEqDiff, Nat.reduceAdd, Nat.reduceMul, Nat.reduceSub, reduceCtorEq, putAt, unE, Nat.reduceBEq, convE, buildE, List.replicate, Int.reduceLT, Int.reduceLE, Int.reduceToNat, mkE, mapSetE, hN, hF, ty_3, ty_4, ty_9, ty_22, ty_24, ty_27, ty_50, ty_52, ty_54, ty_62, notIf, isEq, htl, hal, nt1, ntf, z4, b9, b0, b17, b179, b917, b99, b1717, b1718, g1, g2, g3, e1, hx, hy, h5, q5, n5]
        refine drawnP_intro (by kernel_rfl) (by kernel_rfl) ?_
        simp only [runA, runB, runC, runD, runE, runF, fieldE, storeE, binE, ↓reduceIte, Nat.reduceLT, Nat.reduceLeDiff, Nat.reduceEqDiff, Nat.reduceAdd, Nat.reduceMul, Nat.reduceSub, reduceCtorEq, putAt, unE, Nat.reduceBEq, convE, buildE, List.replicate, Int.reduceLT, Int.reduceLE, Int.reduceToNat, mkE, mapSetE, hN, hF, ty_3, ty_4, ty_9, ty_22, ty_24, ty_27, ty_50, ty_52, ty_54, ty_62, notIf, isEq, htl, hal, nt1, ntf, z4, b9, b0, b17, b179, b917, b99, b1717, b1718, g1, g2, g3, e1, hx, hy, h5, q5, n5]
        refine ⟨9 - (i + 1), _, by omega, ?_, i + 1, n, sent, ⟨by omega, by omega, hok⟩, rfl, rfl⟩
        rw [hns]
        simp only [runB, finC, finD, AS.get, AS.mem, false_implies, implies_true, ↓reduceIte, Nat.reduceEqDiff, Option.isSome_some, Option.isSome_none, forall_eq_or_imp, forall_eq, reduceCtorEq, Nat.reduceAdd, Nat.reduceMul, List.zip_cons_cons, List.zip_nil_left, List.zip_nil_right, List.forall_mem_nil]
        first | done | simp
      · rw [hc] at q5
        unfold Wl.av Txn.av at q5
        dsimp only at q5
        have hv := txVa_at ⟨1, x, y, (n : Int), sg⟩ [[], rt, [], []] (by simp)
        rw [hval _ rfl rfl] at hv
        simp only [texts, List.map_cons, List.map_nil] at hv
        have n6 : ((n : Int) != (n : Int)) = false := by simp
        have ec : ((n + 1 : Nat) : Int) = (n : Int) + 1 := by omega
        simp only [runA, runB, runC, runD, runE, runF, fieldE, storeE, binE, ↓reduceIte, Nat.reduceLT, Nat.reduceLeDiff, Nat.reduceEqDiff, Nat.reduceAdd, Nat.reduceMul, Nat.reduceSub, reduceCtorEq, putAt, unE, Nat.reduceBEq, convE, buildE, List.replicate, Int.reduceLT, Int.reduceLE, Int.reduceToNat, mkE, mapSetE, hN, hF, ty_3, ty_4, ty_9, ty_22, ty_24, ty_27, ty_50, ty_52, ty_54, ty_62, notIf, isEq, htl, hal, nt1, ntf, z4, b9, b0, b17, b179, b917, b99, b1717, b1718, g1, g2, g3, e1, hx, hy, h5, q5, h6, hv, n6, e2, ec]
        refine drawnP_intro (by kernel_rfl) (by kernel_rfl) ?_
        simp only [runA, runB, runC, runD, runE, runF, fieldE, storeE, binE, ↓reduceIte, Nat.reduceLT, Nat.reduceLeDiff, Nat.reduceEqDiff, Nat.reduceAdd, Nat.reduceMul, Nat.reduceSub, reduceCtorEq, putAt, unE, Nat.reduceBEq, convE, buildE, List.replicate, Int.reduceLT, Int.reduceLE, Int.reduceToNat, mkE, mapSetE, hN, hF, ty_3, ty_4, ty_9, ty_22, ty_24, ty_27, ty_50, ty_52, ty_54, ty_62, notIf, isEq, htl, hal, nt1, ntf, z4, b9, b0, b17, b179, b917, b99, b1717, b1718, g1, g2, g3, e1, hx, hy, h5, q5, h6, hv, n6, e2, ec]
        refine ⟨9 - (i + 1), _, by omega, ?_, i + 1, n + 1, _, ⟨by omega, by omega, hok2⟩, rfl, rfl⟩
        rw [hns]
        simp only [runB, finC, finD, AS.get, AS.mem, false_implies, implies_true, ↓reduceIte, Nat.reduceEqDiff, Option.isSome_some, Option.isSome_none, forall_eq_or_imp, forall_eq, reduceCtorEq, Nat.reduceAdd, Nat.reduceMul, List.zip_cons_cons, List.zip_nil_left, List.zip_nil_right, List.forall_mem_nil, ec]
        first | done | simp
  · have hw0 : okW ⟨2, ⟨sd, lv, ((0 : Nat) : Int)⟩, ((0 : Nat) : Int), []⟩ := hw0'
    simp only [runA, runB, runC, runD, runE, runF, fieldE, storeE, binE, ↓reduceIte, Nat.reduceLT, Nat.reduceLeDiff, Nat.reduceEqDiff, Nat.reduceAdd, Nat.reduceMul, Nat.reduceSub, reduceCtorEq, putAt, unE, Nat.reduceBEq, convE, buildE, List.replicate, Int.reduceLT, Int.reduceLE, Int.reduceToNat, mkE, mapSetE, hN, hF, ty_3, ty_4, ty_9, ty_22, ty_24, ty_27, ty_50, ty_52, ty_54, ty_62, notIf, isEq, htl, hal, nt1, ntf, z4, b9, b0, b17, b179, b917, b99, b1717, b1718, h1, q0, h2, q1, h3, q2, h4, q3, doHint, cc0, cc1, cc2, cc3, Nat.zero_lt_one]
    refine AWP.loop (fun k st => ∃ (i n : Nat) (sent : List Txn), (i ≤ 9 ∧ n ≤ 4 ∧ okW ⟨2, ⟨sd, lv, (n : Int)⟩, (n : Int), sent⟩) ∧ k = 9 - i ∧ st = ⟨[(1, .c (.sl (zints to))), (2, .c (.sl (zints am))), (7, .ptr 448 0), (9, .c (.sl [[.str []], [.str []], [.str rt], [.str []]])), (10, .c (.int .i64 (n : Int))), (11, .c (.int .i64 (i : Int)))], [(448, .obj [.c (.int .i64 2), .c (.str sd), .c (.sl (texts lv)), .c (.int .i64 (n : Int)), .c (.int .i64 (n : Int)), .c (.sl (trows sent))] false)]⟩) ⟨9, _, ?w, 0, 0, [], ⟨by decide, by decide, hw0⟩, rfl, rfl⟩ ?r
    case w =>
      rw [hns]
      simp only [runB, finC, finD, AS.get, AS.mem, false_implies, implies_true, ↓reduceIte, Nat.reduceEqDiff, Option.isSome_some, Option.isSome_none, forall_eq_or_imp, forall_eq, reduceCtorEq, Nat.reduceAdd, Nat.reduceMul, List.zip_cons_cons, List.zip_nil_left, List.zip_nil_right, List.forall_mem_nil, trows_nil]
      first | done | simp
    case r =>
      rintro k st ⟨i, n, sent, ⟨hi, hn4, hok⟩, rfl, rfl⟩
      refine vc_sound hΓ mixed _ _ _ ?_
      have n4 : decide ((n : Int) ≤ 4) = true := decide_eq_true (by omega)
      have nn : ((n : Int) == (n : Int)) = true := by simp
      by_cases c1 : i < to.length
      case neg =>
        have g1 : decide ((i : Int) < (to.length : Int)) = false := decide_eq_false (by omega)
        simp only [runA, runB, runC, runD, runE, runF, fieldE, storeE, binE, ↓reduceIte, Nat.reduceLT, Nat.reduceLeDiff, Nat.reduceEqDiff, Nat.reduceAdd, Nat.reduceMul, Nat.reduceSub, reduceCtorEq, putAt, unE, Nat.reduceBEq, convE, buildE, List.replicate, Int.reduceLT, Int.reduceLE, Int.reduceToNat, mkE, mapSetE, hN, hF, ty_3, ty_4, ty_9, ty_22, ty_24, ty_27, ty_50, ty_52, ty_54, ty_62, notIf, isEq, htl, hal, nt1, ntf, z4, b9, b0, b17, b179, b917, b99, b1717, b1718, g1, n4, nn]
        simp only [runB, finC, finD, Option.isSome_some, Option.isSome_none, ↓reduceIte, Nat.reduceEqDiff, Nat.reduceAdd, Nat.reduceMul, forall_eq_or_imp, forall_eq, implies_true, Nat.reduceBEq, reduceCtorEq, false_implies, List.zip_cons_cons, List.zip_nil_left, List.zip_nil_right, Nat.reduceLeDiff, List.forall_mem_nil, rs_7, ty_3, ty_4, ty_9, ty_22, ty_24, ty_27, ty_50, ty_52, ty_54, ty_62]
      have g1 : decide ((i : Int) < (to.length : Int)) = true := decide_eq_true (by omega)
      by_cases c2 : i < am.length
      case neg =>
        have g2 : decide ((i : Int) < (am.length : Int)) = false := decide_eq_false (by omega)
        simp only [runA, runB, runC, runD, runE, runF, fieldE, storeE, binE, ↓reduceIte, Nat.reduceLT, Nat.reduceLeDiff, Nat.reduceEqDiff, Nat.reduceAdd, Nat.reduceMul, Nat.reduceSub, reduceCtorEq, putAt, unE, Nat.reduceBEq, convE, buildE, List.replicate, Int.reduceLT, Int.reduceLE, Int.reduceToNat, mkE, mapSetE, hN, hF, ty_3, ty_4, ty_9, ty_22, ty_24, ty_27, ty_50, ty_52, ty_54, ty_62, notIf, isEq, htl, hal, nt1, ntf, z4, b9, b0, b17, b179, b917, b99, b1717, b1718, g1, g2, n4, nn]
        simp only [runB, finC, finD, Option.isSome_some, Option.isSome_none, ↓reduceIte, Nat.reduceEqDiff, Nat.reduceAdd, Nat.reduceMul, forall_eq_or_imp, forall_eq, implies_true, Nat.reduceBEq, reduceCtorEq, false_implies, List.zip_cons_cons, List.zip_nil_left, List.zip_nil_right, Nat.reduceLeDiff, List.forall_mem_nil, rs_7, ty_3, ty_4, ty_9, ty_22, ty_24, ty_27, ty_50, ty_52, ty_54, ty_62]
      have g2 : decide ((i : Int) < (am.length : Int)) = true := decide_eq_true (by omega)
      by_cases c3 : i < 9
      case neg =>
        have g3 : decide ((i : Int) < 9) = false := decide_eq_false (by omega)
        simp only [runA, runB, runC, runD, runE, runF, fieldE, storeE, binE, ↓reduceIte, Nat.reduceLT, Nat.reduceLeDiff, Nat.reduceEqDiff, Nat.reduceAdd, Nat.reduceMul, Nat.reduceSub, reduceCtorEq, putAt, unE, Nat.reduceBEq, convE, buildE, List.replicate, Int.reduceLT, Int.reduceLE, Int.reduceToNat, mkE, mapSetE, hN, hF, ty_3, ty_4, ty_9, ty_22, ty_24, ty_27, ty_50, ty_52, ty_54, ty_62, notIf, isEq, htl, hal, nt1, ntf, z4, b9, b0, b17, b179, b917, b99, b1717, b1718, g1, g2, g3, n4, nn]
        simp only [runB, finC, finD, Option.isSome_some, Option.isSome_none, ↓reduceIte, Nat.reduceEqDiff, Nat.reduceAdd, Nat.reduceMul, forall_eq_or_imp, forall_eq, implies_true, Nat.reduceBEq, reduceCtorEq, false_implies, List.zip_cons_cons, List.zip_nil_left, List.zip_nil_right, Nat.reduceLeDiff, List.forall_mem_nil, rs_7, ty_3, ty_4, ty_9, ty_22, ty_24, ty_27, ty_50, ty_52, ty_54, ty_62]
      have g3 : decide ((i : Int) < 9) = true := decide_eq_true (by omega)
      have e1 : IntKind.i64.wrap ((i : Int) + 1) = (i : Int) + 1 := wrapI (by omega)
      have e2 : IntKind.i64.wrap ((n : Int) + 1) = (n : Int) + 1 := wrapI (by omega)
      have hx := zintsD to i c1
      have hy := zintsD am i c2
      generalize to.getD i 0 = x at hx
      generalize am.getD i 0 = y at hy
      have hsn : sent.length ≤ 4 := by have := hok.2.2.2.1; dsimp only at this; omega
      have q5 := pay_at 2 sd lv (n : Int) (n : Int) sent x y (by rw [hlv4]; decide) (by omega)
      have hcase := hpay 2 n sent hn4 hok x y
      rcases hcase with hc | ⟨h4, hc⟩ | ⟨sg, hlt, hc, hok2, hval⟩
      · rw [hc] at q5
        unfold Wl.av Txn.av zeroW zeroK zeroT at q5
        dsimp only at q5
        rw [trows_nil, show texts [] = [] from rfl] at q5
        simp only [runA, runB, runC, runD, runE, runF, fieldE, storeE, binE, ↓reduceIte, Nat.reduceLT, Nat.reduceLeDiff, Nat.reduceEqDiff, Nat.reduceAdd, Nat.reduceMul, Nat.reduceSub, reduceCtorEq, putAt, unE, Nat.reduceBEq, convE, buildE, List.replicate, Int.reduceLT, Int.reduceLE, Int.reduceToNat, mkE, mapSetE, hN, hF, ty_3, ty_4, ty_9, ty_22, ty_24, ty_27, ty_50, ty_52, ty_54, ty_62, notIf, isEq, htl, hal, nt1, ntf, z4, b9, b0, b17, b179, b917, b99, b1717, b1718, g1, g2, g3, e1, hx, hy, h5, q5]
        refine drawnP_intro (by kernel_rfl) (by kernel_rfl) ?_
        simp only [runA, runB, runC, runD, runE, runF, fieldE, storeE, binE, ↓reduceIte, Nat.reduceLT, Nat.reduceLeDiff, Nat.reduceEqDiff, Nat.reduceAdd, Nat.reduceMul, Nat.reduceSub, reduceCtorEq, putAt, unE, Nat.reduceBEq, convE, buildE, List.replicate, Int.reduceLT, Int.reduceLE, Int.reduceToNat, mkE, mapSetE, hN, hF, ty_3, ty_4, ty_9, ty_22, ty_24, ty_27, ty_50, ty_52, ty_54, ty_62, notIf, isEq, htl, hal, nt1, ntf, z4, b9, b0, b17, b179, b917, b99, b1717, b1718, g1, g2, g3, e1, hx, hy, h5, q5]
        refine ⟨9 - (i + 1), _, by omega, ?_, i + 1, n, sent, ⟨by omega, by omega, hok⟩, rfl, rfl⟩
        rw [hns]
        simp only [runB, finC, finD, AS.get, AS.mem, false_implies, implies_true, ↓reduceIte, Nat.reduceEqDiff, Option.isSome_some, Option.isSome_none, forall_eq_or_imp, forall_eq, reduceCtorEq, Nat.reduceAdd, Nat.reduceMul, List.zip_cons_cons, List.zip_nil_left, List.zip_nil_right, List.forall_mem_nil]
        first | done | simp
      · rw [hc] at q5
        unfold Wl.av Txn.av zeroW zeroK zeroT at q5
        dsimp only at q5
        rw [trows_nil, show texts [] = [] from rfl] at q5
        have n5 : ((n : Int) != 4) = false := by rw [bne_eq_false_iff_eq]; omega
        simp only [runA, runB, runC, runD, runE, runF, fieldE, storeE, binE, ↓reduceIte, Nat.reduceLT, Nat.reduceLeDiff, Nat.reduceEqDiff, Nat.reduceAdd, Nat.reduceMul, Nat.reduceSub, reduceCtorEq, putAt, unE, Nat.reduceBEq, convE, buildE, List.replicate, Int.reduceLT, Int.reduceLE, Int.reduceToNat, mkE, mapSetE, hN, hF, ty_3, ty_4, ty_9, ty_22, ty_24, ty_27, ty_50, ty_52, ty_54, ty_62, notIf, isEq, htl, hal, nt1, ntf, z4, b9, b0, b17, b179, b917, b99, b1717, b1718, g1, g2, g3, e1, hx, hy, h5, q5, n5]
        refine drawnP_intro (by kernel_rfl) (by kernel_rfl) ?_
        simp only [runA, runB, runC, runD, runE, runF, fieldE, storeE, binE, ↓reduceIte, Nat.reduceLT, Nat.reduceLeDiff, Nat.reduceEqDiff, Nat.reduceAdd, Nat.reduceMul, Nat.reduceSub, reduceCtorEq, putAt, unE, Nat.reduceBEq, convE, buildE, List.replicate, Int.reduceLT, Int.reduceLE, Int.reduceToNat, mkE, mapSetE, hN, hF, ty_3, ty_4, ty_9, ty_22, ty_24, ty_27, ty_50, ty_52, ty_54, ty_62, notIf, isEq, htl, hal, nt1, ntf, z4, b9, b0, b17, b179, b917, b99, b1717, b1718, g1, g2, g3, e1, hx, hy, h5, q5, n5]
        refine ⟨9 - (i + 1), _, by omega, ?_, i + 1, n, sent, ⟨by omega, by omega, hok⟩, rfl, rfl⟩
        rw [hns]
        simp only [runB, finC, finD, AS.get, AS.mem, false_implies, implies_true, ↓reduceIte, Nat.reduceEqDiff, Option.isSome_some, Option.isSome_none, forall_eq_or_imp, forall_eq, reduceCtorEq, Nat.reduceAdd, Nat.reduceMul, List.zip_cons_cons, List.zip_nil_left, List.zip_nil_right, List.forall_mem_nil]
        first | done | simp
      · rw [hc] at q5
        unfold Wl.av Txn.av at q5
        dsimp only at q5
        have hv := txVa_at ⟨2, x, y, (n : Int), sg⟩ [[], [], rt, []] (by simp)
        rw [hval _ rfl rfl] at hv
        simp only [texts, List.map_cons, List.map_nil] at hv
        have n6 : ((n : Int) != (n : Int)) = false := by simp
        have ec : ((n + 1 : Nat) : Int) = (n : Int) + 1 := by omega
        simp only [runA, runB, runC, runD, runE, runF, fieldE, storeE, binE, ↓reduceIte, Nat.reduceLT, Nat.reduceLeDiff, Nat.reduceEqDiff, Nat.reduceAdd, Nat.reduceMul, Nat.reduceSub, reduceCtorEq, putAt, unE, Nat.reduceBEq, convE, buildE, List.replicate, Int.reduceLT, Int.reduceLE, Int.reduceToNat, mkE, mapSetE, hN, hF, ty_3, ty_4, ty_9, ty_22, ty_24, ty_27, ty_50, ty_52, ty_54, ty_62, notIf, isEq, htl, hal, nt1, ntf, z4, b9, b0, b17, b179, b917, b99, b1717, b1718, g1, g2, g3, e1, hx, hy, h5, q5, h6, hv, n6, e2, ec]
        refine drawnP_intro (by kernel_rfl) (by kernel_rfl) ?_
        simp only [runA, runB, runC, runD, runE, runF, fieldE, storeE, binE, ↓reduceIte, Nat.reduceLT, Nat.reduceLeDiff, Nat.reduceEqDiff, Nat.reduceAdd, Nat.reduceMul, Nat.reduceSub, reduceCtorEq, putAt, unE, Nat.reduceBEq, convE, buildE, List.replicate, Int.reduceLT, Int.reduceLE, Int.reduceToNat, mkE, mapSetE, hN, hF, ty_3, ty_4, ty_9, ty_22, ty_24, ty_27, ty_50, ty_52, ty_54, ty_62, notIf, isEq, htl, hal, nt1, ntf, z4, b9, b0, b17, b179, b917, b99, b1717, b1718, g1, g2, g3, e1, hx, hy, h5, q5, h6, hv, n6, e2, ec]
        refine ⟨9 - (i + 1), _, by omega, ?_, i + 1, n + 1, _, ⟨by omega, by omega, hok2⟩, rfl, rfl⟩
        rw [hns]
        simp only [runB, finC, finD, AS.get, AS.mem, false_implies, implies_true, ↓reduceIte, Nat.reduceEqDiff, Option.isSome_some, Option.isSome_none, forall_eq_or_imp, forall_eq, reduceCtorEq, Nat.reduceAdd, Nat.reduceMul, List.zip_cons_cons, List.zip_nil_left, List.zip_nil_right, List.forall_mem_nil, ec]
        first | done | simp
  · have hw0 : okW ⟨3, ⟨sd, lv, ((0 : Nat) : Int)⟩, ((0 : Nat) : Int), []⟩ := hw0'
    simp only [runA, runB, runC, runD, runE, runF, fieldE, storeE, binE, ↓reduceIte, Nat.reduceLT, Nat.reduceLeDiff, Nat.reduceEqDiff, Nat.reduceAdd, Nat.reduceMul, Nat.reduceSub, reduceCtorEq, putAt, unE, Nat.reduceBEq, convE, buildE, List.replicate, Int.reduceLT, Int.reduceLE, Int.reduceToNat, mkE, mapSetE, hN, hF, ty_3, ty_4, ty_9, ty_22, ty_24, ty_27, ty_50, ty_52, ty_54, ty_62, notIf, isEq, htl, hal, nt1, ntf, z4, b9, b0, b17, b179, b917, b99, b1717, b1718, h1, q0, h2, q1, h3, q2, h4, q3, doHint, cc0, cc1, cc2, cc3, Nat.zero_lt_one]
    refine AWP.loop (fun k st => ∃ (i n : Nat) (sent : List Txn), (i ≤ 9 ∧ n ≤ 4 ∧ okW ⟨3, ⟨sd, lv, (n : Int)⟩, (n : Int), sent⟩) ∧ k = 9 - i ∧ st = ⟨[(1, .c (.sl (zints to))), (2, .c (.sl (zints am))), (7, .ptr 448 0), (9, .c (.sl [[.str []], [.str []], [.str []], [.str rt]])), (10, .c (.int .i64 (n : Int))), (11, .c (.int .i64 (i : Int)))], [(448, .obj [.c (.int .i64 3), .c (.str sd), .c (.sl (texts lv)), .c (.int .i64 (n : Int)), .c (.int .i64 (n : Int)), .c (.sl (trows sent))] false)]⟩) ⟨9, _, ?w, 0, 0, [], ⟨by decide, by decide, hw0⟩, rfl, rfl⟩ ?r
    case w =>
      rw [hns]
      simp only [runB, finC, finD, AS.get, AS.mem, false_implies, implies_true, ↓reduceIte, Nat.reduceEqDiff, Option.isSome_some, Option.isSome_none, forall_eq_or_imp, forall_eq, reduceCtorEq, Nat.reduceAdd, Nat.reduceMul, List.zip_cons_cons, List.zip_nil_left, List.zip_nil_right, List.forall_mem_nil, trows_nil]
      first | done | simp
    case r =>
      rintro k st ⟨i, n, sent, ⟨hi, hn4, hok⟩, rfl, rfl⟩
      refine vc_sound hΓ mixed _ _ _ ?_
      have n4 : decide ((n : Int) ≤ 4) = true := decide_eq_true (by omega)
      have nn : ((n : Int) == (n : Int)) = true := by simp
      by_cases c1 : i < to.length
      case neg =>
        have g1 : decide ((i : Int) < (to.length : Int)) = false := decide_eq_false (by omega)
        simp only [runA, runB, runC, runD, runE, runF, fieldE, storeE, binE, ↓reduceIte, Nat.reduceLT, Nat.reduceLeDiff, Nat.reduceEqDiff, Nat.reduceAdd, Nat.reduceMul, Nat.reduceSub, reduceCtorEq, putAt, unE, Nat.reduceBEq, convE, buildE, List.replicate, Int.reduceLT, Int.reduceLE, Int.reduceToNat, mkE, mapSetE, hN, hF, ty_3, ty_4, ty_9, ty_22, ty_24, ty_27, ty_50, ty_52, ty_54, ty_62, notIf, isEq, htl, hal, nt1, ntf, z4, b9, b0, b17, b179, b917, b99, b1717, b1718, g1, n4, nn]
        simp only [runB, finC, finD, Option.isSome_some, Option.isSome_none, ↓reduceIte, Nat.reduceEqDiff, Nat.reduceAdd, Nat.reduceMul, forall_eq_or_imp, forall_eq, implies_true, Nat.reduceBEq, reduceCtorEq, false_implies, List.zip_cons_cons, List.zip_nil_left, List.zip_nil_right, Nat.reduceLeDiff, List.forall_mem_nil, rs_7, ty_3, ty_4, ty_9, ty_22, ty_24, ty_27, ty_50, ty_52, ty_54, ty_62]
      have g1 : decide ((i : Int) < (to.length : Int)) = true := decide_eq_true (by omega)
      by_cases c2 : i < am.length
      case neg =>
        have g2 : decide ((i : Int) < (am.length : Int)) = false := decide_eq_false (by omega)
        simp only [runA, runB, runC, runD, runE, runF, fieldE, storeE, binE, ↓reduceIte, Nat.reduceLT, Nat.reduceLeDiff, Nat.reduceEqDiff, Nat.reduceAdd, Nat.reduceMul, Nat.reduceSub, reduceCtorEq, putAt, unE, Nat.reduceBEq, convE, buildE, List.replicate, Int.reduceLT, Int.reduceLE, Int.reduceToNat, mkE, mapSetE, hN, hF, ty_3, ty_4, ty_9, ty_22, ty_24, ty_27, ty_50, ty_52, ty_54, ty_62, notIf, isEq, htl, hal, nt1, ntf, z4, b9, b0, b17, b179, b917, b99, b1717, b1718, g1, g2, n4, nn]
        simp only [runB, finC, finD, Option.isSome_some, Option.isSome_none, ↓reduceIte, Nat.reduceEqDiff, Nat.reduceAdd, Nat.reduceMul, forall_eq_or_imp, forall_eq, implies_true, Nat.reduceBEq, reduceCtorEq, false_implies, List.zip_cons_cons, List.zip_nil_left, List.zip_nil_right, Nat.reduceLeDiff, List.forall_mem_nil, rs_7, ty_3, ty_4, ty_9, ty_22, ty_24, ty_27, ty_50, ty_52, ty_54, ty_62]
      have g2 : decide ((i : Int) < (am.length : Int)) = true := decide_eq_true (by omega)
      by_cases c3 : i < 9
      case neg =>
        have g3 : decide ((i : Int) < 9) = false := decide_eq_false (by omega)
        simp only [runA, runB, runC, runD, runE, runF, fieldE, storeE, binE, ↓reduceIte, Nat.reduceLT, Nat.reduceLeDiff, Nat.reduceEqDiff, Nat.reduceAdd, Nat.reduceMul, Nat.reduceSub, reduceCtorEq, putAt, unE, Nat.reduceBEq, convE, buildE, List.replicate, Int.reduceLT, Int.reduceLE, Int.reduceToNat, mkE, mapSetE, hN, hF, ty_3, ty_4, ty_9, ty_22, ty_24, ty_27, ty_50, ty_52, ty_54, ty_62, notIf, isEq, htl, hal, nt1, ntf, z4, b9, b0, b17, b179, b917, b99, b1717, b1718, g1, g2, g3, n4, nn]
        simp only [runB, finC, finD, Option.isSome_some, Option.isSome_none, ↓reduceIte, Nat.reduceEqDiff, Nat.reduceAdd, Nat.reduceMul, forall_eq_or_imp, forall_eq, implies_true, Nat.reduceBEq, reduceCtorEq, false_implies, List.zip_cons_cons, List.zip_nil_left, List.zip_nil_right, Nat.reduceLeDiff, List.forall_mem_nil, rs_7, ty_3, ty_4, ty_9, ty_22, ty_24, ty_27, ty_50, ty_52, ty_54, ty_62]
      have g3 : decide ((i : Int) < 9) = true := decide_eq_true (by omega)
      have e1 : IntKind.i64.wrap ((i : Int) + 1) = (i : Int) + 1 := wrapI (by omega)
      have e2 : IntKind.i64.wrap ((n : Int) + 1) = (n : Int) + 1 := wrapI (by omega)
      have hx := zintsD to i c1
      have hy := zintsD am i c2
      generalize to.getD i 0 = x at hx
      generalize am.getD i 0 = y at hy
      have hsn : sent.length ≤ 4 := by have := hok.2.2.2.1; dsimp only at this; omega
      have q5 := pay_at 3 sd lv (n : Int) (n : Int) sent x y (by rw [hlv4]; decide) (by omega)
      have hcase := hpay 3 n sent hn4 hok x y
      rcases hcase with hc | ⟨h4, hc⟩ | ⟨sg, hlt, hc, hok2, hval⟩
      · rw [hc] at q5
        unfold Wl.av Txn.av zeroW zeroK zeroT at q5
        dsimp only at q5
        rw [trows_nil, show texts [] = [] from rfl] at q5
        simp only [runA, runB, runC, runD, runE, runF, fieldE, storeE, binE, ↓reduceIte, Nat.reduceLT, Nat.reduceLeDiff, Nat.reduceEqDiff, Nat.reduceAdd, Nat.reduceMul, Nat.reduceSub, reduceCtorEq, putAt, unE, Nat.reduceBEq, convE, buildE, List.replicate, Int.reduceLT, Int.reduceLE, Int.reduceToNat, mkE, mapSetE, hN, hF, ty_3, ty_4, ty_9, ty_22, ty_24, ty_27, ty_50, ty_52, ty_54, ty_62, notIf, isEq, htl, hal, nt1, ntf, z4, b9, b0, b17, b179, b917, b99, b1717, b1718, g1, g2, g3, e1, hx, hy, h5, q5]
        refine drawnP_intro (by kernel_rfl) (by kernel_rfl) ?_
        simp only [runA, runB, runC, runD, runE, runF, fieldE, storeE, binE, ↓reduceIte, Nat.reduceLT, Nat.reduceLeDiff, Nat.reduceEqDiff, Nat.reduceAdd, Nat.reduceMul, Nat.reduceSub, reduceCtorEq, putAt, unE, Nat.reduceBEq, convE, buildE, List.replicate, Int.reduceLT, Int.reduceLE, Int.reduceToNat, mkE, mapSetE, hN, hF, ty_3, ty_4, ty_9, ty_22, ty_24, ty_27, ty_50, ty_52, ty_54, ty_62, notIf, isEq, htl, hal, nt1, ntf, z4, b9, b0, b17, b179, b917, b99, b1717, b1718, g1, g2, g3, e1, hx, hy, h5, q5]
        refine ⟨9 - (i + 1), _, by omega, ?_, i + 1, n, sent, ⟨by omega, by omega, hok⟩, rfl, rfl⟩
        rw [hns]
        simp only [runB, finC, finD, AS.get, AS.mem, false_implies, implies_true, ↓reduceIte, Nat.reduceEqDiff, Option.isSome_some, Option.isSome_none, forall_eq_or_imp, forall_eq, reduceCtorEq, Nat.reduceAdd, Nat.reduceMul, List.zip_cons_cons, List.zip_nil_left, List.zip_nil_right, List.forall_mem_nil]
        first | done | simp
      · rw [hc] at q5
        unfold Wl.av Txn.av zeroW zeroK zeroT at q5
        dsimp only at q5
        rw [trows_nil, show texts [] = [] from rfl] at q5
        have n5 : ((n : Int) != 4) = false := by rw [bne_eq_false_iff_eq]; omega
        simp only [runA, runB, runC, runD, runE, runF, fieldE, storeE, binE, ↓reduceIte, Nat.reduceLT, Nat.reduceLeDiff, Nat.reduceEqDiff, Nat.reduceAdd, Nat.reduceMul, Nat.reduceSub, reduceCtorEq, putAt, unE, Nat.reduceBEq, convE, buildE, List.replicate, Int.reduceLT, Int.reduceLE, Int.reduceToNat, mkE, mapSetE, hN, hF, ty_3, ty_4, ty_9, ty_22, ty_24, ty_27, ty_50, ty_52, ty_54, ty_62, notIf, isEq, htl, hal, nt1, ntf, z4, b9, b0, b17, b179, b917, b99, b1717, b1718, g1, g2, g3, e1, hx, hy, h5, q5, n5]
        refine drawnP_intro (by kernel_rfl) (by kernel_rfl) ?_
        simp only [runA, runB, runC, runD, runE, runF, fieldE, storeE, binE, ↓reduceIte, Nat.reduceLT, Nat.reduceLeDiff, Nat.reduceEqDiff, Nat.reduceAdd, Nat.reduceMul, Nat.reduceSub, reduceCtorEq, putAt, unE, Nat.reduceBEq, convE, buildE, List.replicate, Int.reduceLT, Int.reduceLE, Int.reduceToNat, mkE, mapSetE, hN, hF, ty_3, ty_4, ty_9, ty_22, ty_24, ty_27, ty_50, ty_52, ty_54, ty_62, notIf, isEq, htl, hal, nt1, ntf, z4, b9, b0, b17, b179, b917, b99, b1717, b1718, g1, g2, g3, e1, hx, hy, h5, q5, n5]
        refine ⟨9 - (i + 1), _, by omega, ?_, i + 1, n, sent, ⟨by omega, by omega, hok⟩, rfl, rfl⟩
        rw [hns]
        simp only [runB, finC, finD, AS.get, AS.mem, false_implies, implies_true, ↓reduceIte, Nat.reduceEqDiff, Option.isSome_some, Option.isSome_none, forall_eq_or_imp, forall_eq, reduceCtorEq, Nat.reduceAdd, Nat.reduceMul, List.zip_cons_cons, List.zip_nil_left, List.zip_nil_right, List.forall_mem_nil]
        first | done | simp
      · rw [hc] at q5
        unfold Wl.av Txn.av at q5
        dsimp only at q5
        have hv := txVa_at ⟨3, x, y, (n : Int), sg⟩ [[], [], [], rt] (by simp)
        rw [hval _ rfl rfl] at hv
        simp only [texts, List.map_cons, List.map_nil] at hv
        have n6 : ((n : Int) != (n : Int)) = false := by simp
        have ec : ((n + 1 : Nat) : Int) = (n : Int) + 1 := by omega
        simp only [runA, runB, runC, runD, runE, runF, fieldE, storeE, binE, ↓reduceIte, Nat.reduceLT, Nat.reduceLeDiff, Nat.reduceEqDiff, Nat.reduceAdd, Nat.reduceMul, Nat.reduceSub, reduceCtorEq, putAt, unE, Nat.reduceBEq, convE, buildE, List.replicate, Int.reduceLT, Int.reduceLE, Int.reduceToNat, mkE, mapSetE, hN, hF, ty_3, ty_4, ty_9, ty_22, ty_24, ty_27, ty_50, ty_52, ty_54, ty_62, notIf, isEq, htl, hal, nt1, ntf, z4, b9, b0, b17, b179, b917, b99, b1717, b1718, g1, g2, g3, e1, hx, hy, h5, q5, h6, hv, n6, e2, ec]
        refine drawnP_intro (by kernel_rfl) (by kernel_rfl) ?_
        simp only [runA, runB, runC, runD, runE, runF, fieldE, storeE, binE, ↓reduceIte, Nat.reduceLT, Nat.reduceLeDiff, Nat.reduceEqDiff, Nat.reduceAdd, Nat.reduceMul, Nat.reduceSub, reduceCtorEq, putAt, unE, Nat.reduceBEq, convE, buildE, List.replicate, Int.reduceLT, Int.reduceLE, Int.reduceToNat, mkE, mapSetE, hN, hF, ty_3, ty_4, ty_9, ty_22, ty_24, ty_27, ty_50, ty_52, ty_54, ty_62, notIf, isEq, htl, hal, nt1, ntf, z4, b9, b0, b17, b179, b917, b99, b1717, b1718, g1, g2, g3, e1, hx, hy, h5, q5, h6, hv, n6, e2, ec]
        refine ⟨9 - (i + 1), _, by omega, ?_, i + 1, n + 1, _, ⟨by omega, by omega, hok2⟩, rfl, rfl⟩
        rw [hns]
        simp only [runB, finC, finD, AS.get, AS.mem, false_implies, implies_true, ↓reduceIte, Nat.reduceEqDiff, Option.isSome_some, Option.isSome_none, forall_eq_or_imp, forall_eq, reduceCtorEq, Nat.reduceAdd, Nat.reduceMul, List.zip_cons_cons, List.zip_nil_left, List.zip_nil_right, List.forall_mem_nil, ec]
        first | done | simp


variable {Γ : FuncId → Contract}

noncomputable def WQ1 : FuncId → Contract := (ext (ext (ext (ext (ext (ext NT5 117 opnC) 114 rNumC) 115 rTextC) 74 clientC) 73 clnFC) 29 num34C)
theorem WQ1_sound : SoundG Try.prog WQ1 := (ext_sound (ext_sound (ext_sound (ext_sound (ext_sound (ext_sound NT5_sound (refOpn_sound NT5_sound rfl rfl rfl)) (rNum_sound NT5_sound rfl)) (rText_sound NT5_sound rfl)) wclient_sound) clnF_sound) num34_sound)
noncomputable def WQ2 : FuncId → Contract := (ext (ext (ext (ext (ext WQ1 75 rTxFC) 77 sverC) 34 nwC) 30 wckC) 31 wckC)
theorem WQ2_sound : SoundG Try.prog WQ2 := (ext_sound (ext_sound (ext_sound (ext_sound (ext_sound WQ1_sound (rTxF_sound WQ1_sound rfl rfl)) (rVer_sound WQ1_sound rfl rfl)) (nw_sound WQ1_sound rfl rfl)) (wck_sound WQ1_sound rfl rfl)) (rWck_sound WQ1_sound rfl))
noncomputable def WQ3 : FuncId → Contract := (ext (ext (ext WQ2 33 txTC) 28 payC) 27 alive34C)
theorem WQ3_sound : SoundG Try.prog WQ3 := (ext_sound (ext_sound (ext_sound WQ2_sound (rTxT_sound WQ2_sound rfl rfl)) (pay_sound WQ2_sound rfl rfl rfl)) (alive34_sound WQ2_sound rfl))
noncomputable def WQ4 : FuncId → Contract := (ext WQ3 36 txVaC)
theorem WQ4_sound : SoundG Try.prog WQ4 := (ext_sound WQ3_sound (rTxVa_sound WQ3_sound rfl rfl rfl))
set_option maxRecDepth 100000 in
theorem txs_cellN {N n : Nat} {c : PC} (hp : PTn Try.prog N n 50 [c]) : ∃ l : List Txn, c = .sl (trows l) ∧ l.length ≤ N ∧ ∀ t ∈ l, t.sig.length ≤ N := by
  have u3 : Try.prog.underlying 50 = some (.slice 54) := by kernel_rfl
  cases n with
  | zero => exact hp.elim
  | succ n =>
    simp only [PTn, u3] at hp
    obtain ⟨rows, hv, hl, hr⟩ := hp
    cases hv
    have key : ∀ rows : List (List PC), (∀ r ∈ rows, PTn Try.prog N n 54 r) → ∃ l : List Txn, rows = trows l ∧ ∀ t ∈ l, t.sig.length ≤ N := by
      intro rows
      induction rows with
      | nil => intro _; exact ⟨[], rfl, by simp⟩
      | cons r rows ih =>
        intro h
        obtain ⟨l, hl1, hl2⟩ := ih fun r hr => h r (by simp [hr])
        obtain ⟨t, rfl, ht⟩ := tx_cells (h r (by simp))
        refine ⟨t :: l, by rw [hl1]; rfl, fun x hx => ?_⟩
        rcases List.mem_cons.1 hx with rfl | hx
        · exact ht
        · exact hl2 x hx
    obtain ⟨l, rfl, h2⟩ := key rows hr
    exact ⟨l, rfl, by rw [trows_length] at hl; exact hl, h2⟩
set_option maxRecDepth 100000 in
theorem keyW_cells {N n : Nat} {cs : List PC} (hp : PTn Try.prog N n 24 cs) : ∃ k : Ky, cs = [.str k.seed, .sl (texts k.leaves), .int .i64 k.next] ∧ k.leaves.length ≤ N := by
  obtain ⟨fs0, f0, h01, h02, h03, h04, h05⟩ := tyField_run fd_24_0
  obtain ⟨fs1, f1, h11, h12, h13, h14, h15⟩ := tyField_run fd_24_1
  obtain ⟨fs2, f2, h21, h22, h23, h24, h25⟩ := tyField_run fd_24_2
  rw [h01] at h11 h21
  cases h11
  cases h21
  have hct : Try.prog.cellsOf 24 = 3 := by kernel_rfl
  have hk0 : Try.prog.cellsOf 9 = 1 := by kernel_rfl
  have hk1 : Try.prog.cellsOf 22 = 1 := by kernel_rfl
  have hk2 : Try.prog.cellsOf 3 = 1 := by kernel_rfl
  cases n with
  | zero => exact hp.elim
  | succ n =>
    simp only [PTn, h01, hct] at hp
    obtain ⟨hl, hf⟩ := hp
    have q0 := hf f0 (List.mem_of_getElem? (i := 0) (by simpa using h02))
    rw [h03, h04, hk0] at q0
    have q1 := hf f1 (List.mem_of_getElem? (i := 1) (by simpa using h12))
    rw [h13, h14, hk1] at q1
    have q2 := hf f2 (List.mem_of_getElem? (i := 2) (by simpa using h22))
    rw [h23, h24, hk2] at q2
    match cs, hl with
    | [c0, c1, c2], _ =>
      obtain ⟨s, rfl, hs⟩ := str_cellN (c := c0) q0
      obtain ⟨l, rfl, hl⟩ := texts_cellN (c := c1) q1
      obtain ⟨n, rfl⟩ := int_cellN (c := c2) q2
      exact ⟨⟨s, l, n⟩, rfl, hl⟩
set_option maxRecDepth 100000 in
theorem wl_cells {N n : Nat} {cs : List PC} (hp : PTn Try.prog N n 52 cs) : ∃ w : Wl, cs = [.int .i64 w.cl, .str w.key.seed, .sl (texts w.key.leaves), .int .i64 w.key.next, .int .i64 w.no, .sl (trows w.sent)] ∧ w.key.leaves.length ≤ N ∧ w.sent.length ≤ N := by
  obtain ⟨fs0, f0, h01, h02, h03, h04, h05⟩ := tyField_run fd_52_0
  obtain ⟨fs1, f1, h11, h12, h13, h14, h15⟩ := tyField_run fd_52_1
  obtain ⟨fs2, f2, h21, h22, h23, h24, h25⟩ := tyField_run fd_52_2
  obtain ⟨fs3, f3, h31, h32, h33, h34, h35⟩ := tyField_run fd_52_3
  rw [h01] at h11 h21 h31
  cases h11
  cases h21
  cases h31
  have hct : Try.prog.cellsOf 52 = 6 := by kernel_rfl
  have hk0 : Try.prog.cellsOf 3 = 1 := by kernel_rfl
  have hk1 : Try.prog.cellsOf 24 = 3 := by kernel_rfl
  have hk2 : Try.prog.cellsOf 50 = 1 := by kernel_rfl
  cases n with
  | zero => exact hp.elim
  | succ n =>
    simp only [PTn, h01, hct] at hp
    obtain ⟨hl, hf⟩ := hp
    have q0 := hf f0 (List.mem_of_getElem? (i := 0) (by simpa using h02))
    rw [h03, h04, hk0] at q0
    have q1 := hf f1 (List.mem_of_getElem? (i := 1) (by simpa using h12))
    rw [h13, h14, hk1] at q1
    have q2 := hf f2 (List.mem_of_getElem? (i := 2) (by simpa using h22))
    rw [h23, h24, hk0] at q2
    have q3 := hf f3 (List.mem_of_getElem? (i := 3) (by simpa using h32))
    rw [h33, h34, hk2] at q3
    match cs, hl with
    | [c0, c1, c2, c3, c4, c5], _ =>
      obtain ⟨a, rfl⟩ := int_cellN (c := c0) q0
      obtain ⟨k, hk, hkl⟩ := keyW_cells (cs := [c1, c2, c3]) q1
      obtain ⟨b, rfl⟩ := int_cellN (c := c4) q2
      obtain ⟨l, rfl, hl, _⟩ := txs_cellN (c := c5) q3
      exact ⟨⟨a, k, b, l⟩, by simp only [List.cons.injEq, and_true] at hk; obtain ⟨rfl, rfl, rfl⟩ := hk; rfl, hkl, hl⟩
set_option maxRecDepth 100000 in
theorem wl_ofN {N : Nat} {x : AV} (h : AVTn Try.prog N 52 x) : ∃ w : Wl, x = w.av ∧ w.key.leaves.length ≤ N ∧ w.sent.length ≤ N := by
  obtain ⟨n, cs, hp, hx⟩ := h
  obtain ⟨fs, f0, h1, _⟩ := tyField_run fd_52_0
  rw [h1] at hx
  obtain ⟨w, rfl, hw⟩ := wl_cells hp
  exact ⟨w, hx, hw⟩
set_option maxRecDepth 100000 in
theorem zints_ofN {N : Nat} {x : AV} (h : AVTn Try.prog N 62 x) : ∃ l : List Int, x = .c (.sl (zints l)) ∧ l.length ≤ N := by
  obtain ⟨n, cs, hp, hx⟩ := h
  have u3 : Try.prog.underlying 62 = some (.slice 3) := by kernel_rfl
  rw [u3] at hx
  obtain ⟨c, rfl, rfl⟩ := hx
  cases n with
  | zero => exact hp.elim
  | succ n =>
    simp only [PTn, u3] at hp
    obtain ⟨rows, hv, hl, hr⟩ := hp
    cases hv
    have key : ∀ rows : List (List PC), (∀ r ∈ rows, PTn Try.prog N n 3 r) → ∃ l : List Int, rows = zints l := by
      intro rows
      induction rows with
      | nil => intro _; exact ⟨[], rfl⟩
      | cons r rows ih =>
        intro h
        obtain ⟨l, hl1⟩ := ih fun r hr => h r (by simp [hr])
        have h0 := h r (by simp)
        have : ∃ c, r = [c] := by
          have u4 : Try.prog.underlying 3 = some (.int .i64) := by kernel_rfl
          cases n with
          | zero => exact h0.elim
          | succ n =>
            simp only [PTn, u4] at h0
            obtain ⟨v, hv, _⟩ := h0
            exact ⟨_, hv⟩
        obtain ⟨c, rfl⟩ := this
        obtain ⟨v, rfl⟩ := int_cellN h0
        exact ⟨v :: l, by rw [hl1]; rfl⟩
    obtain ⟨l, rfl⟩ := key rows hr
    exact ⟨l, rfl, by rw [zints_length] at hl; exact hl⟩

set_option maxRecDepth 100000 in
theorem walletTells_lifted (os : Os) (started : os.Started) (H : Type) (enc : TypeId × Value → H) (F : Stop.Interp) :
    ReturnsInHanded {} Try.checked os 6 .any ((Rows.OpenSpec.upto Rows.walletTellsSpec).pre6 enc Try.prog Try.f6 Rows.walletTellsUptoRow.domain false) (((Rows.OpenSpec.upto Rows.walletTellsSpec).at F).post enc Try.prog Try.f6 false true false false) := by
  refine returnsInHanded_of_cond (C := Try.checked) (k := Rows.uptoSmall) rfl ownK started (by kernel_rfl) Try.func6
    (OpenSpec.witness (enc := enc) (C := Try.checked) (k := Rows.uptoSmall) rfl false ⟨#[], #[.agg #[.int .i64 0, .string ⟨#[]⟩, .slice none 0 0, .int .i64 0, .int .i64 0, .slice none 0 0], .int .i64 0, .int .i64 0], []⟩ 8 (by kernel_rfl) (by kernel_rfl) (by kernel_rfl) (x := ([.agg [.lit (.int .i64 0), .agg [.lit (.string []), .nil, .lit (.int .i64 0)], .lit (.int .i64 0), .nil], .lit (.int .i64 0), .lit (.int .i64 0)], [], [])) (by kernel_rfl) (by kernel_rfl) (by kernel_rfl)) ?_
  intro W base args ds gs before hval hW hcnd hkk _
  refine law_doneN (N := 1048576) laid (wtl_sound WQ4_sound rfl rfl rfl rfl rfl rfl rfl rfl ) rfl (ts := [52, 3, 3]) (by kernel_rfl) (tb := 4) (by kernel_rfl) (by kernel_rfl) ?_ ?_ ?_ ?_ hval hW (.inr (bulk_le hkk))
  · intro t ht; simp only [List.mem_cons, List.not_mem_nil, or_false] at ht; rcases ht with rfl | rfl | rfl <;> kernel_rfl
  · intro t ht; simp only [List.mem_cons, List.not_mem_nil, or_false] at ht; rcases ht with rfl | rfl | rfl <;> exact ⟨by kernel_rfl, of_decide_eq_true (by kernel_rfl)⟩
  · intro ds hd
    match ds, hd with
    | [a, b, c], _ => rfl
  · intro xs hxs
    match xs, hxs with
    | [x, y, z], h =>
      obtain ⟨h1, h2, h3, _⟩ := h
      obtain ⟨w, rfl, w1, w2⟩ := wl_ofN h1
      obtain ⟨a, rfl, _⟩ := int_ofN h2
      obtain ⟨b, rfl, _⟩ := int_ofN h3
      exact mkC_at (α := Wl × Int × Int) (w, a, b) ⟨w1, w2⟩ (fun _ _ _ _ => rfl)
    | [], h => exact h.elim
    | [_], h => exact h.2.elim
    | [_, _], h => exact h.2.2.elim
    | _ :: _ :: _ :: _ :: _, h => exact h.2.2.2.elim


set_option maxRecDepth 100000 in
theorem walletPays_lifted (os : Os) (started : os.Started) (H : Type) (enc : TypeId × Value → H) :
    ReturnsInHanded {} Try.checked os 7 .any (Rows.walletPaysSpec.pre6 enc Try.prog Try.f7 Rows.walletPaysRow.domain false) (Rows.walletPaysSpec.post enc Try.prog Try.f7 false true false false) := by
  refine returnsInHanded_of_change_sized (C := Try.checked) ownK started (by kernel_rfl) Try.func7
    (ChangeSpec.witness6 (enc := enc) (C := Try.checked) false ⟨#[], #[.int .i64 0, .slice none 0 0, .slice none 0 0], []⟩ 8 (by kernel_rfl) (by kernel_rfl) (by kernel_rfl) (by kernel_rfl)) ?_
  intro W base args ds gs before hval hW hcnd hsz _
  refine law_doneN (N := maxLen) laid (wpy_sound WQ4_sound rfl rfl rfl rfl rfl rfl ) rfl (ts := [3, 62, 62]) (by kernel_rfl) (tb := 4) (by kernel_rfl) (by kernel_rfl) ?_ ?_ ?_ ?_ hval hW (.inl (Nat.le_refl _))
  · intro t ht; simp only [List.mem_cons, List.not_mem_nil, or_false] at ht; rcases ht with rfl | rfl | rfl <;> kernel_rfl
  · intro t ht; simp only [List.mem_cons, List.not_mem_nil, or_false] at ht; rcases ht with rfl | rfl | rfl <;> exact ⟨by kernel_rfl, of_decide_eq_true (by kernel_rfl)⟩
  · intro ds hd
    match ds, hd with
    | [a, b, c], _ => rfl
  · intro xs hxs
    match xs, hxs with
    | [x, y, z], h =>
      obtain ⟨h1, h2, h3, _⟩ := h
      obtain ⟨a, rfl, _⟩ := int_ofN h1
      obtain ⟨l, rfl, _⟩ := zints_ofN h2
      obtain ⟨g, rfl, _⟩ := zints_ofN h3
      exact mkC_at (α := Int × List Int × List Int) (a, l, g) trivial (fun _ _ _ _ => rfl)
    | [], h => exact h.elim
    | [_], h => exact h.2.elim
    | [_, _], h => exact h.2.2.elim
    | _ :: _ :: _ :: _ :: _, h => exact h.2.2.2.elim


end Go.Proofs.Ytldehcnaepgamaa.AM

namespace Go.Proofs.Ytldehcnaepgamaa
open Go

theorem walletTells_over : Rows.walletTellsUptoRow.holds Try.pinned (Rows.OpenSpec.upto Rows.walletTellsSpec) :=
  OpenClaim.holds_of_cond 6 Try.f6 rfl rfl rfl rfl rfl rfl rfl ⟨rfl, rfl, rfl, rfl, rfl⟩ rfl rfl rfl rfl rfl (by kernel_rfl) Try.func6 (by kernel_rfl)
    (of_decide_eq_true (by kernel_rfl)) (by unfold Func.isWrapper; first | (rw [if_pos (by decide +kernel)]; kernel_rfl) | (rw [if_neg (by decide +kernel)]; exact ⟨rfl, rfl⟩))
    (fun os started H enc _ F => by rw [OpenClaim.pre_of_none' rfl]; exact AM.walletTells_lifted os started H enc F)
theorem walletPays_over : Rows.walletPaysRow.holds Try.pinned (OpenSpec.ofChange Rows.walletPaysSpec) :=
  OpenClaim.holds_of_wide 7 Try.f7 rfl rfl rfl rfl rfl rfl rfl ⟨rfl, rfl, rfl, rfl, rfl⟩ rfl rfl rfl rfl rfl (by kernel_rfl) Try.func7 (by kernel_rfl)
    (of_decide_eq_true (by kernel_rfl)) (by unfold Func.isWrapper; first | (rw [if_pos (by decide +kernel)]; kernel_rfl) | (rw [if_neg (by decide +kernel)]; exact ⟨rfl, rfl⟩))
    (fun os started H enc _ => AM.walletPays_lifted os started H enc)

/-- The rows. -/
theorem walletTells_holds : Rows.WalletTellsUptoSaid := walletTells_over
#print axioms walletTells_holds
theorem walletPays_holds : Rows.WalletPaysSaid := walletPays_over
#print axioms walletPays_holds
end Go.Proofs.Ytldehcnaepgamaa
