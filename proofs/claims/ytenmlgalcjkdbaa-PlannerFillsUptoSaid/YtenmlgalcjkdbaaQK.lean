/-
  QK: Pl6 Pl7.
-/
import Derived.Test.YtenmlgalcjkdbaaQJ
import Derived.Test.YtenmlgalcjkdbaaQF
import Derived.Test.YtenmlgalcjkdbaaQD
set_option linter.unusedVariables false
set_option linter.unusedSimpArgs false
namespace Go.Proofs.Ytenmlgalcjkdbaa.AM
open Go

variable {Γ : FuncId → Contract}


theorem ownT_ok {l : List Blk} (hl : okBl l) : treeOK (ownT l) ∧ okR (ownT l) ∧ (ownT l).length ≤ 10 := by
  have hmin : min 10 l.length ≤ l.length := by omega
  have h := ownI_ok hl (min 10 l.length) hmin
  refine ⟨ownI_tree hl hmin, ⟨ownI_tl hl hmin, Nat.le_trans h.1 (by omega), fun b hb => (h.2 b hb).1⟩, Nat.le_trans h.1 (by omega)⟩
theorem rch_w (l : List Blk) (s : List UInt8) (h : okR l) : rchC [.c (.sl (brows l)), .c (.str s)] [] = some ⟨[.pv (.c (.sl (brows (walkS l s).1.reverse))), .pv (.c (.bool (walkS l s).2))], []⟩ := by
  have := rch_at l s h
  rw [chS_walk] at this
  exact this
theorem ptexts_same (a : List (List UInt8)) (h : a.length ≤ 1099511627776) : ptextsC [.c (.sl (texts a)), .c (.sl (texts a))] [] = some ⟨[.pv (.c (.bool true))], []⟩ := by
  have := ptexts_at a a h
  rw [decide_eq_true rfl] at this
  exact this
noncomputable def pltC : Contract := mkC (α := List Blk × List Ct × Int) (fun p => okBl p.1 ∧ p.2.1.length ≤ 1048576) (fun p => [.c (.sl (brows p.1)), .c (.sl (crows p.2.1)), .c (.int .i64 p.2.2)]) (fun p => []) (fun p => ⟨[.pv (.c (.bool true))], []⟩)
theorem plt_at (l : List Blk) (hs : List Ct) (m : Int) (g0 : okBl l) (g1 : hs.length ≤ 1048576) : pltC [.c (.sl (brows l)), .c (.sl (crows hs)), .c (.int .i64 m)] [] = some ⟨[.pv (.c (.bool true))], []⟩ := by
  exact mkC_at (α := List Blk × List Ct × Int) (l, hs, m) ⟨g0, g1⟩ (by
    rintro ⟨l', hs', m'⟩ _ h ho
    have hh := And.intro h ho
    clear h ho
    simp only [List.cons.injEq, AV.c.injEq, AV.agg.injEq, PC.int.injEq, PC.str.injEq, PC.bool.injEq, PC.sl.injEq, OV.c.injEq, OV.own.injEq, OV.mp.injEq, bytes_iff, texts_iff, true_and, and_true, and_self, beq_self_eq_true, brows_iff, crows_iff] at hh
    simp only [hh])

set_option maxRecDepth 100000 in
set_option maxHeartbeats 4000000 in
theorem plt_sound (hΓ : SoundG Try.prog Γ) (h1 : Γ 34 = alive43C) (h2 : Γ 35 = laid43C) (h3 : Γ 33 = rmisC) (h4 : Γ 28 = rchC) (h5 : Γ 36 = has43C) (h6 : Γ 37 = pmkC) (h7 : Γ 38 = ptextsC) (h8 : Γ 39 = pdnC) : SoundC Try.prog 8 pltC := by
  refine sound_fn Try.func8 (by kernel_rfl) rfl rfl ?_
  intro args objs r0 hr
  obtain ⟨⟨l, hs, m⟩, ⟨hl, hh⟩, rfl, rfl, rfl⟩ := mkC_inv hr
  refine ⟨rfl, by show 3 ≤ _; decide, fun E hN hns hF => ?_⟩
  refine vc_sound hΓ mixed _ _ _ ?_
  have hN := hN.trans nt_8
  have hl : okBl l := hl
  have hh : hs.length ≤ 1048576 := hh
  dsimp only
  have q0 : alive43C [] [] = some ⟨[.pv (.c (.bool true))], []⟩ := rfl
  have q1 := laid43_at l hl
  obtain ⟨ht, hR, ho10⟩ := ownT_ok hl
  generalize ownT l = o at q1 ht hR ho10
  have hbc := crows_length hs
  have nt1 : (!true) = false := rfl
  have ntf : (!false) = true := rfl
  simp only [runA, runB, runC, runD, runE, runF, fieldE, storeE, binE, ↓reduceIte, Nat.reduceLT, Nat.reduceLeDiff, Nat.reduceEqDiff, Nat.reduceAdd, Nat.reduceMul, Nat.reduceSub, reduceCtorEq, putAt, unE, Nat.reduceBEq, convE, buildE, List.replicate, Int.reduceLT, Int.reduceLE, Int.reduceToNat, mkE, mapSetE, hN, hF, ty_3, ty_4, ty_9, ty_22, ty_24, ty_27, ty_32, ty_33, ty_62, ty_65, ty_68, notIf, isEq, h1, q0, h2, q1, nt1]
  refine AWP.loop (fun k st => ∃ i : Nat, i ≤ hs.length ∧ k = hs.length - i ∧ st = ⟨[(1, .c (.sl (crows hs))), (2, .c (.int .i64 m)), (7, .ptr 1410 0), (8, .c (.sl (brows o))), (9, .own 3841 1 (texts (askI o m hs i))), (10, .own 5825 1 (texts (rdyI o hs i))), (11, .c (.int .i64 (hgtI o hs i))), (12, .c (.bool (lckI o hs i))), (13, .c (.int .i64 (i : Int)))], [(1410, .obj [.mp 1418] false), (1418, .mp true (esOf o)), (3841, .row 1 (askI o m hs i).length), (5825, .row 1 (rdyI o hs i).length)]⟩) ⟨hs.length, _, ?w, 0, Nat.zero_le _, rfl, rfl⟩ ?r
  case w =>
    have z1 : texts (askI o m hs 0) = [] := rfl
    have z2 : texts (rdyI o hs 0) = [] := rfl
    have z3 : hgtI o hs 0 = 0 := rfl
    have z4 : (askI o m hs 0).length = 0 := rfl
    have z5 : (rdyI o hs 0).length = 0 := rfl
    have z6 : lckI o hs 0 = false := rfl
    rw [hns]
    simp only [runB, finC, finD, AS.get, AS.mem, false_implies, implies_true, ↓reduceIte, Nat.reduceEqDiff, Option.isSome_some, Option.isSome_none, forall_eq_or_imp, forall_eq, reduceCtorEq, Nat.reduceAdd, Nat.reduceMul, List.zip_cons_cons, List.zip_nil_left, List.zip_nil_right, List.forall_mem_nil, z1, z2, z3, z4, z5, z6]
    first | done | simp
  case r =>
    rintro k st ⟨i, hi, rfl, rfl⟩
    refine vc_sound hΓ mixed _ _ _ ?_
    have hA := askI_len o m hs i hi
    have hB := rdyI_len o hs i hi
    have hC := hgtI_bd o hs i hi
    by_cases hlt : i < hs.length
    · have k1 : decide ((i : Int) < (hs.length : Int)) = true := decide_eq_true (by omega)
      have e1 : IntKind.i64.wrap ((i : Int) + 1) = (i : Int) + 1 := wrapI (by omega)
      have hg := crowsD hs i hlt
      have sA0 := askI_succ (o := o) (most := m) hlt
      have sB0 := rdyI_succ (o := o) hlt
      have sC0 := hgtI_succ (o := o) hlt
      have sD0 := lckI_succ (o := o) hlt
      generalize hs.getD i zeroC = y at hg sA0 sB0 sC0 sD0
      have q3 := rmis_at o y.bl hR
      have q4 := rch_w o y.bl hR
      have hwl := brows_length (walkS o y.bl).1.reverse
      rw [List.length_reverse] at hwl
      have q5a := has43_at (askI o m hs i) (missS o y.bl) (by omega)
      have q5b := has43_at (rdyI o hs i) y.bl (by omega)
      have hl1 := texts_length (askI o m hs i)
      have hl2 := texts_length (rdyI o hs i)
      have hby1 : ((askI o m hs i).length + 1) * 16 ≤ 140737488355328 := by omega
      have hby2 : ((rdyI o hs i).length + 1) * 16 ≤ 140737488355328 := by omega
      have hrow1 : rowsOK 1 [[.str (missS o y.bl)]] := rowsOK_texts [missS o y.bl]
      have hrow2 : rowsOK 1 [[.str y.bl]] := rowsOK_texts [y.bl]
      have hsn1 := texts_snocG (askI o m hs i) (missS o y.bl)
      have hsn2 := texts_snocG (rdyI o hs i) y.bl
      obtain ⟨wk, hwk⟩ : ∃ wk, (walkS o y.bl).2 = wk := ⟨_, rfl⟩
      obtain ⟨wn, hwn⟩ : ∃ wn, (walkS o y.bl).1.length = wn := ⟨_, rfl⟩
      rw [hwk] at q4
      rw [hwn] at hwl
      generalize brows (walkS o y.bl).1.reverse = wl at q4 hwl
      have hmx : (if (wn : Int) > hgtI o hs i then (wn : Int) else hgtI o hs i) = max (hgtI o hs i) (wn : Int) := by rw [Int.max_def]; split <;> split <;> omega
      cases lk : lckI o hs i with
      | true =>
        cases p1 : missS o y.bl == [] with
        | true =>
          have sA : askI o m hs (i + 1) = askI o m hs i := by rw [sA0]; unfold askS; rw [p1]; rfl
          have sD : lckI o hs (i + 1) = true := by rw [sD0, lk, p1]; rfl
          cases w1 : wk with
          | false =>
            rw [w1] at q4
            have sB : rdyI o hs (i + 1) = rdyI o hs i := by rw [sB0]; unfold rdyS; rw [hwk, w1]; rfl
            have sC : hgtI o hs (i + 1) = hgtI o hs i := by rw [sC0]; unfold hgtS; rw [hwk, w1]; rfl
            simp only [runA, runB, runC, runD, runE, runF, fieldE, storeE, binE, ↓reduceIte, Nat.reduceLT, Nat.reduceLeDiff, Nat.reduceEqDiff, Nat.reduceAdd, Nat.reduceMul, Nat.reduceSub, reduceCtorEq, putAt, unE, Nat.reduceBEq, convE, buildE, List.replicate, Int.reduceLT, Int.reduceLE, Int.reduceToNat, mkE, mapSetE, hN, hF, ty_3, ty_4, ty_9, ty_22, ty_24, ty_27, ty_32, ty_33, ty_62, ty_65, ty_68, notIf, isEq, hbc, k1, e1, hg, h3, q3, h4, q4, h5, q5a, q5b, hwl, hl1, hl2, hby1, hby2, hrow1, hrow2, hsn1, hsn2, hmx, nt1, ntf, lk, p1]
            refine ⟨hs.length - (i + 1), _, by omega, ?_, i + 1, by omega, rfl, rfl⟩
            rw [hns]
            simp only [runB, finC, finD, AS.get, AS.mem, false_implies, implies_true, ↓reduceIte, Nat.reduceEqDiff, Option.isSome_some, Option.isSome_none, forall_eq_or_imp, forall_eq, reduceCtorEq, Nat.reduceAdd, Nat.reduceMul, List.zip_cons_cons, List.zip_nil_left, List.zip_nil_right, List.forall_mem_nil, sA, sB, sC, sD, lk]
            first | done | simp
          | true =>
            rw [w1] at q4
            have sC : hgtI o hs (i + 1) = max (hgtI o hs i) (wn : Int) := by rw [sC0]; unfold hgtS; rw [hwk, w1, if_pos rfl, hwn]
            cases w2 : hasS (rdyI o hs i) y.bl with
            | true =>
              rw [w2] at q5b
              have sB : rdyI o hs (i + 1) = rdyI o hs i := by rw [sB0]; unfold rdyS; rw [hwk, w1, w2]; rfl
              simp only [runA, runB, runC, runD, runE, runF, fieldE, storeE, binE, ↓reduceIte, Nat.reduceLT, Nat.reduceLeDiff, Nat.reduceEqDiff, Nat.reduceAdd, Nat.reduceMul, Nat.reduceSub, reduceCtorEq, putAt, unE, Nat.reduceBEq, convE, buildE, List.replicate, Int.reduceLT, Int.reduceLE, Int.reduceToNat, mkE, mapSetE, hN, hF, ty_3, ty_4, ty_9, ty_22, ty_24, ty_27, ty_32, ty_33, ty_62, ty_65, ty_68, notIf, isEq, hbc, k1, e1, hg, h3, q3, h4, q4, h5, q5a, q5b, hwl, hl1, hl2, hby1, hby2, hrow1, hrow2, hsn1, hsn2, hmx, nt1, ntf, lk, p1]
              refine ⟨hs.length - (i + 1), _, by omega, ?_, i + 1, by omega, rfl, rfl⟩
              rw [hns]
              simp only [runB, finC, finD, AS.get, AS.mem, false_implies, implies_true, ↓reduceIte, Nat.reduceEqDiff, Option.isSome_some, Option.isSome_none, forall_eq_or_imp, forall_eq, reduceCtorEq, Nat.reduceAdd, Nat.reduceMul, List.zip_cons_cons, List.zip_nil_left, List.zip_nil_right, List.forall_mem_nil, sA, sB, sC, sD, lk]
              first | done | simp
            | false =>
              rw [w2] at q5b
              have sB : rdyI o hs (i + 1) = rdyI o hs i ++ [y.bl] := by rw [sB0]; unfold rdyS; rw [hwk, w1, w2]; rfl
              simp only [runA, runB, runC, runD, runE, runF, fieldE, storeE, binE, ↓reduceIte, Nat.reduceLT, Nat.reduceLeDiff, Nat.reduceEqDiff, Nat.reduceAdd, Nat.reduceMul, Nat.reduceSub, reduceCtorEq, putAt, unE, Nat.reduceBEq, convE, buildE, List.replicate, Int.reduceLT, Int.reduceLE, Int.reduceToNat, mkE, mapSetE, hN, hF, ty_3, ty_4, ty_9, ty_22, ty_24, ty_27, ty_32, ty_33, ty_62, ty_65, ty_68, notIf, isEq, hbc, k1, e1, hg, h3, q3, h4, q4, h5, q5a, q5b, hwl, hl1, hl2, hby1, hby2, hrow1, hrow2, hsn1, hsn2, hmx, nt1, ntf, lk, p1]
              refine ⟨hs.length - (i + 1), _, by omega, ?_, i + 1, by omega, rfl, rfl⟩
              rw [hns]
              simp only [runB, finC, finD, AS.get, AS.mem, false_implies, implies_true, ↓reduceIte, Nat.reduceEqDiff, Option.isSome_some, Option.isSome_none, forall_eq_or_imp, forall_eq, reduceCtorEq, Nat.reduceAdd, Nat.reduceMul, List.zip_cons_cons, List.zip_nil_left, List.zip_nil_right, List.forall_mem_nil, sA, sB, sC, sD, lk, List.length_append, List.length_cons, List.length_nil, Nat.zero_add]
              first | done | simp
        | false =>
          have sD : lckI o hs (i + 1) = true := by rw [sD0, lk, p1]; rfl
          cases p2 : decide (((askI o m hs i).length : Int) < m) with
          | false =>
            have sA : askI o m hs (i + 1) = askI o m hs i := by rw [sA0]; unfold askS; rw [p1, p2]; rfl
            cases w1 : wk with
            | false =>
              rw [w1] at q4
              have sB : rdyI o hs (i + 1) = rdyI o hs i := by rw [sB0]; unfold rdyS; rw [hwk, w1]; rfl
              have sC : hgtI o hs (i + 1) = hgtI o hs i := by rw [sC0]; unfold hgtS; rw [hwk, w1]; rfl
              simp only [runA, runB, runC, runD, runE, runF, fieldE, storeE, binE, ↓reduceIte, Nat.reduceLT, Nat.reduceLeDiff, Nat.reduceEqDiff, Nat.reduceAdd, Nat.reduceMul, Nat.reduceSub, reduceCtorEq, putAt, unE, Nat.reduceBEq, convE, buildE, List.replicate, Int.reduceLT, Int.reduceLE, Int.reduceToNat, mkE, mapSetE, hN, hF, ty_3, ty_4, ty_9, ty_22, ty_24, ty_27, ty_32, ty_33, ty_62, ty_65, ty_68, notIf, isEq, hbc, k1, e1, hg, h3, q3, h4, q4, h5, q5a, q5b, hwl, hl1, hl2, hby1, hby2, hrow1, hrow2, hsn1, hsn2, hmx, nt1, ntf, lk, p1, p2]
              refine ⟨hs.length - (i + 1), _, by omega, ?_, i + 1, by omega, rfl, rfl⟩
              rw [hns]
              simp only [runB, finC, finD, AS.get, AS.mem, false_implies, implies_true, ↓reduceIte, Nat.reduceEqDiff, Option.isSome_some, Option.isSome_none, forall_eq_or_imp, forall_eq, reduceCtorEq, Nat.reduceAdd, Nat.reduceMul, List.zip_cons_cons, List.zip_nil_left, List.zip_nil_right, List.forall_mem_nil, sA, sB, sC, sD, lk]
              first | done | simp
            | true =>
              rw [w1] at q4
              have sC : hgtI o hs (i + 1) = max (hgtI o hs i) (wn : Int) := by rw [sC0]; unfold hgtS; rw [hwk, w1, if_pos rfl, hwn]
              cases w2 : hasS (rdyI o hs i) y.bl with
              | true =>
                rw [w2] at q5b
                have sB : rdyI o hs (i + 1) = rdyI o hs i := by rw [sB0]; unfold rdyS; rw [hwk, w1, w2]; rfl
                simp only [runA, runB, runC, runD, runE, runF, fieldE, storeE, binE, ↓reduceIte, Nat.reduceLT, Nat.reduceLeDiff, Nat.reduceEqDiff, Nat.reduceAdd, Nat.reduceMul, Nat.reduceSub, reduceCtorEq, putAt, unE, Nat.reduceBEq, convE, buildE, List.replicate, Int.reduceLT, Int.reduceLE, Int.reduceToNat, mkE, mapSetE, hN, hF, ty_3, ty_4, ty_9, ty_22, ty_24, ty_27, ty_32, ty_33, ty_62, ty_65, ty_68, notIf, isEq, hbc, k1, e1, hg, h3, q3, h4, q4, h5, q5a, q5b, hwl, hl1, hl2, hby1, hby2, hrow1, hrow2, hsn1, hsn2, hmx, nt1, ntf, lk, p1, p2]
                refine ⟨hs.length - (i + 1), _, by omega, ?_, i + 1, by omega, rfl, rfl⟩
                rw [hns]
                simp only [runB, finC, finD, AS.get, AS.mem, false_implies, implies_true, ↓reduceIte, Nat.reduceEqDiff, Option.isSome_some, Option.isSome_none, forall_eq_or_imp, forall_eq, reduceCtorEq, Nat.reduceAdd, Nat.reduceMul, List.zip_cons_cons, List.zip_nil_left, List.zip_nil_right, List.forall_mem_nil, sA, sB, sC, sD, lk]
                first | done | simp
              | false =>
                rw [w2] at q5b
                have sB : rdyI o hs (i + 1) = rdyI o hs i ++ [y.bl] := by rw [sB0]; unfold rdyS; rw [hwk, w1, w2]; rfl
                simp only [runA, runB, runC, runD, runE, runF, fieldE, storeE, binE, ↓reduceIte, Nat.reduceLT, Nat.reduceLeDiff, Nat.reduceEqDiff, Nat.reduceAdd, Nat.reduceMul, Nat.reduceSub, reduceCtorEq, putAt, unE, Nat.reduceBEq, convE, buildE, List.replicate, Int.reduceLT, Int.reduceLE, Int.reduceToNat, mkE, mapSetE, hN, hF, ty_3, ty_4, ty_9, ty_22, ty_24, ty_27, ty_32, ty_33, ty_62, ty_65, ty_68, notIf, isEq, hbc, k1, e1, hg, h3, q3, h4, q4, h5, q5a, q5b, hwl, hl1, hl2, hby1, hby2, hrow1, hrow2, hsn1, hsn2, hmx, nt1, ntf, lk, p1, p2]
                refine ⟨hs.length - (i + 1), _, by omega, ?_, i + 1, by omega, rfl, rfl⟩
                rw [hns]
                simp only [runB, finC, finD, AS.get, AS.mem, false_implies, implies_true, ↓reduceIte, Nat.reduceEqDiff, Option.isSome_some, Option.isSome_none, forall_eq_or_imp, forall_eq, reduceCtorEq, Nat.reduceAdd, Nat.reduceMul, List.zip_cons_cons, List.zip_nil_left, List.zip_nil_right, List.forall_mem_nil, sA, sB, sC, sD, lk, List.length_append, List.length_cons, List.length_nil, Nat.zero_add]
                first | done | simp
          | true =>
            cases p3 : hasS (askI o m hs i) (missS o y.bl) with
            | true =>
              rw [p3] at q5a
              have sA : askI o m hs (i + 1) = askI o m hs i := by rw [sA0]; unfold askS; rw [p1, p2, p3]; rfl
              cases w1 : wk with
              | false =>
                rw [w1] at q4
                have sB : rdyI o hs (i + 1) = rdyI o hs i := by rw [sB0]; unfold rdyS; rw [hwk, w1]; rfl
                have sC : hgtI o hs (i + 1) = hgtI o hs i := by rw [sC0]; unfold hgtS; rw [hwk, w1]; rfl
                simp only [runA, runB, runC, runD, runE, runF, fieldE, storeE, binE, ↓reduceIte, Nat.reduceLT, Nat.reduceLeDiff, Nat.reduceEqDiff, Nat.reduceAdd, Nat.reduceMul, Nat.reduceSub, reduceCtorEq, putAt, unE, Nat.reduceBEq, convE, buildE, List.replicate, Int.reduceLT, Int.reduceLE, Int.reduceToNat, mkE, mapSetE, hN, hF, ty_3, ty_4, ty_9, ty_22, ty_24, ty_27, ty_32, ty_33, ty_62, ty_65, ty_68, notIf, isEq, hbc, k1, e1, hg, h3, q3, h4, q4, h5, q5a, q5b, hwl, hl1, hl2, hby1, hby2, hrow1, hrow2, hsn1, hsn2, hmx, nt1, ntf, lk, p1, p2]
                refine ⟨hs.length - (i + 1), _, by omega, ?_, i + 1, by omega, rfl, rfl⟩
                rw [hns]
                simp only [runB, finC, finD, AS.get, AS.mem, false_implies, implies_true, ↓reduceIte, Nat.reduceEqDiff, Option.isSome_some, Option.isSome_none, forall_eq_or_imp, forall_eq, reduceCtorEq, Nat.reduceAdd, Nat.reduceMul, List.zip_cons_cons, List.zip_nil_left, List.zip_nil_right, List.forall_mem_nil, sA, sB, sC, sD, lk]
                first | done | simp
              | true =>
                rw [w1] at q4
                have sC : hgtI o hs (i + 1) = max (hgtI o hs i) (wn : Int) := by rw [sC0]; unfold hgtS; rw [hwk, w1, if_pos rfl, hwn]
                cases w2 : hasS (rdyI o hs i) y.bl with
                | true =>
                  rw [w2] at q5b
                  have sB : rdyI o hs (i + 1) = rdyI o hs i := by rw [sB0]; unfold rdyS; rw [hwk, w1, w2]; rfl
                  simp only [runA, runB, runC, runD, runE, runF, fieldE, storeE, binE, ↓reduceIte, Nat.reduceLT, Nat.reduceLeDiff, Nat.reduceEqDiff, Nat.reduceAdd, Nat.reduceMul, Nat.reduceSub, reduceCtorEq, putAt, unE, Nat.reduceBEq, convE, buildE, List.replicate, Int.reduceLT, Int.reduceLE, Int.reduceToNat, mkE, mapSetE, hN, hF, ty_3, ty_4, ty_9, ty_22, ty_24, ty_27, ty_32, ty_33, ty_62, ty_65, ty_68, notIf, isEq, hbc, k1, e1, hg, h3, q3, h4, q4, h5, q5a, q5b, hwl, hl1, hl2, hby1, hby2, hrow1, hrow2, hsn1, hsn2, hmx, nt1, ntf, lk, p1, p2]
                  refine ⟨hs.length - (i + 1), _, by omega, ?_, i + 1, by omega, rfl, rfl⟩
                  rw [hns]
                  simp only [runB, finC, finD, AS.get, AS.mem, false_implies, implies_true, ↓reduceIte, Nat.reduceEqDiff, Option.isSome_some, Option.isSome_none, forall_eq_or_imp, forall_eq, reduceCtorEq, Nat.reduceAdd, Nat.reduceMul, List.zip_cons_cons, List.zip_nil_left, List.zip_nil_right, List.forall_mem_nil, sA, sB, sC, sD, lk]
                  first | done | simp
                | false =>
                  rw [w2] at q5b
                  have sB : rdyI o hs (i + 1) = rdyI o hs i ++ [y.bl] := by rw [sB0]; unfold rdyS; rw [hwk, w1, w2]; rfl
                  simp only [runA, runB, runC, runD, runE, runF, fieldE, storeE, binE, ↓reduceIte, Nat.reduceLT, Nat.reduceLeDiff, Nat.reduceEqDiff, Nat.reduceAdd, Nat.reduceMul, Nat.reduceSub, reduceCtorEq, putAt, unE, Nat.reduceBEq, convE, buildE, List.replicate, Int.reduceLT, Int.reduceLE, Int.reduceToNat, mkE, mapSetE, hN, hF, ty_3, ty_4, ty_9, ty_22, ty_24, ty_27, ty_32, ty_33, ty_62, ty_65, ty_68, notIf, isEq, hbc, k1, e1, hg, h3, q3, h4, q4, h5, q5a, q5b, hwl, hl1, hl2, hby1, hby2, hrow1, hrow2, hsn1, hsn2, hmx, nt1, ntf, lk, p1, p2]
                  refine ⟨hs.length - (i + 1), _, by omega, ?_, i + 1, by omega, rfl, rfl⟩
                  rw [hns]
                  simp only [runB, finC, finD, AS.get, AS.mem, false_implies, implies_true, ↓reduceIte, Nat.reduceEqDiff, Option.isSome_some, Option.isSome_none, forall_eq_or_imp, forall_eq, reduceCtorEq, Nat.reduceAdd, Nat.reduceMul, List.zip_cons_cons, List.zip_nil_left, List.zip_nil_right, List.forall_mem_nil, sA, sB, sC, sD, lk, List.length_append, List.length_cons, List.length_nil, Nat.zero_add]
                  first | done | simp
            | false =>
              rw [p3] at q5a
              have sA : askI o m hs (i + 1) = askI o m hs i ++ [missS o y.bl] := by rw [sA0]; unfold askS; rw [p1, p2, p3]; rfl
              cases w1 : wk with
              | false =>
                rw [w1] at q4
                have sB : rdyI o hs (i + 1) = rdyI o hs i := by rw [sB0]; unfold rdyS; rw [hwk, w1]; rfl
                have sC : hgtI o hs (i + 1) = hgtI o hs i := by rw [sC0]; unfold hgtS; rw [hwk, w1]; rfl
                simp only [runA, runB, runC, runD, runE, runF, fieldE, storeE, binE, ↓reduceIte, Nat.reduceLT, Nat.reduceLeDiff, Nat.reduceEqDiff, Nat.reduceAdd, Nat.reduceMul, Nat.reduceSub, reduceCtorEq, putAt, unE, Nat.reduceBEq, convE, buildE, List.replicate, Int.reduceLT, Int.reduceLE, Int.reduceToNat, mkE, mapSetE, hN, hF, ty_3, ty_4, ty_9, ty_22, ty_24, ty_27, ty_32, ty_33, ty_62, ty_65, ty_68, notIf, isEq, hbc, k1, e1, hg, h3, q3, h4, q4, h5, q5a, q5b, hwl, hl1, hl2, hby1, hby2, hrow1, hrow2, hsn1, hsn2, hmx, nt1, ntf, lk, p1, p2]
                refine ⟨hs.length - (i + 1), _, by omega, ?_, i + 1, by omega, rfl, rfl⟩
                rw [hns]
                simp only [runB, finC, finD, AS.get, AS.mem, false_implies, implies_true, ↓reduceIte, Nat.reduceEqDiff, Option.isSome_some, Option.isSome_none, forall_eq_or_imp, forall_eq, reduceCtorEq, Nat.reduceAdd, Nat.reduceMul, List.zip_cons_cons, List.zip_nil_left, List.zip_nil_right, List.forall_mem_nil, sA, sB, sC, sD, lk, List.length_append, List.length_cons, List.length_nil, Nat.zero_add]
                first | done | simp
              | true =>
                rw [w1] at q4
                have sC : hgtI o hs (i + 1) = max (hgtI o hs i) (wn : Int) := by rw [sC0]; unfold hgtS; rw [hwk, w1, if_pos rfl, hwn]
                cases w2 : hasS (rdyI o hs i) y.bl with
                | true =>
                  rw [w2] at q5b
                  have sB : rdyI o hs (i + 1) = rdyI o hs i := by rw [sB0]; unfold rdyS; rw [hwk, w1, w2]; rfl
                  simp only [runA, runB, runC, runD, runE, runF, fieldE, storeE, binE, ↓reduceIte, Nat.reduceLT, Nat.reduceLeDiff, Nat.reduceEqDiff, Nat.reduceAdd, Nat.reduceMul, Nat.reduceSub, reduceCtorEq, putAt, unE, Nat.reduceBEq, convE, buildE, List.replicate, Int.reduceLT, Int.reduceLE, Int.reduceToNat, mkE, mapSetE, hN, hF, ty_3, ty_4, ty_9, ty_22, ty_24, ty_27, ty_32, ty_33, ty_62, ty_65, ty_68, notIf, isEq, hbc, k1, e1, hg, h3, q3, h4, q4, h5, q5a, q5b, hwl, hl1, hl2, hby1, hby2, hrow1, hrow2, hsn1, hsn2, hmx, nt1, ntf, lk, p1, p2]
                  refine ⟨hs.length - (i + 1), _, by omega, ?_, i + 1, by omega, rfl, rfl⟩
                  rw [hns]
                  simp only [runB, finC, finD, AS.get, AS.mem, false_implies, implies_true, ↓reduceIte, Nat.reduceEqDiff, Option.isSome_some, Option.isSome_none, forall_eq_or_imp, forall_eq, reduceCtorEq, Nat.reduceAdd, Nat.reduceMul, List.zip_cons_cons, List.zip_nil_left, List.zip_nil_right, List.forall_mem_nil, sA, sB, sC, sD, lk, List.length_append, List.length_cons, List.length_nil, Nat.zero_add]
                  first | done | simp
                | false =>
                  rw [w2] at q5b
                  have sB : rdyI o hs (i + 1) = rdyI o hs i ++ [y.bl] := by rw [sB0]; unfold rdyS; rw [hwk, w1, w2]; rfl
                  simp only [runA, runB, runC, runD, runE, runF, fieldE, storeE, binE, ↓reduceIte, Nat.reduceLT, Nat.reduceLeDiff, Nat.reduceEqDiff, Nat.reduceAdd, Nat.reduceMul, Nat.reduceSub, reduceCtorEq, putAt, unE, Nat.reduceBEq, convE, buildE, List.replicate, Int.reduceLT, Int.reduceLE, Int.reduceToNat, mkE, mapSetE, hN, hF, ty_3, ty_4, ty_9, ty_22, ty_24, ty_27, ty_32, ty_33, ty_62, ty_65, ty_68, notIf, isEq, hbc, k1, e1, hg, h3, q3, h4, q4, h5, q5a, q5b, hwl, hl1, hl2, hby1, hby2, hrow1, hrow2, hsn1, hsn2, hmx, nt1, ntf, lk, p1, p2]
                  refine ⟨hs.length - (i + 1), _, by omega, ?_, i + 1, by omega, rfl, rfl⟩
                  rw [hns]
                  simp only [runB, finC, finD, AS.get, AS.mem, false_implies, implies_true, ↓reduceIte, Nat.reduceEqDiff, Option.isSome_some, Option.isSome_none, forall_eq_or_imp, forall_eq, reduceCtorEq, Nat.reduceAdd, Nat.reduceMul, List.zip_cons_cons, List.zip_nil_left, List.zip_nil_right, List.forall_mem_nil, sA, sB, sC, sD, lk, List.length_append, List.length_cons, List.length_nil, Nat.zero_add, List.length_append, List.length_cons, List.length_nil, Nat.zero_add]
                  first | done | simp
      | false =>
        cases p1 : missS o y.bl == [] with
        | true =>
          have sA : askI o m hs (i + 1) = askI o m hs i := by rw [sA0]; unfold askS; rw [p1]; rfl
          have sD : lckI o hs (i + 1) = false := by rw [sD0, lk, p1]; rfl
          cases w1 : wk with
          | false =>
            rw [w1] at q4
            have sB : rdyI o hs (i + 1) = rdyI o hs i := by rw [sB0]; unfold rdyS; rw [hwk, w1]; rfl
            have sC : hgtI o hs (i + 1) = hgtI o hs i := by rw [sC0]; unfold hgtS; rw [hwk, w1]; rfl
            simp only [runA, runB, runC, runD, runE, runF, fieldE, storeE, binE, ↓reduceIte, Nat.reduceLT, Nat.reduceLeDiff, Nat.reduceEqDiff, Nat.reduceAdd, Nat.reduceMul, Nat.reduceSub, reduceCtorEq, putAt, unE, Nat.reduceBEq, convE, buildE, List.replicate, Int.reduceLT, Int.reduceLE, Int.reduceToNat, mkE, mapSetE, hN, hF, ty_3, ty_4, ty_9, ty_22, ty_24, ty_27, ty_32, ty_33, ty_62, ty_65, ty_68, notIf, isEq, hbc, k1, e1, hg, h3, q3, h4, q4, h5, q5a, q5b, hwl, hl1, hl2, hby1, hby2, hrow1, hrow2, hsn1, hsn2, hmx, nt1, ntf, lk, p1]
            refine ⟨hs.length - (i + 1), _, by omega, ?_, i + 1, by omega, rfl, rfl⟩
            rw [hns]
            simp only [runB, finC, finD, AS.get, AS.mem, false_implies, implies_true, ↓reduceIte, Nat.reduceEqDiff, Option.isSome_some, Option.isSome_none, forall_eq_or_imp, forall_eq, reduceCtorEq, Nat.reduceAdd, Nat.reduceMul, List.zip_cons_cons, List.zip_nil_left, List.zip_nil_right, List.forall_mem_nil, sA, sB, sC, sD, lk]
            first | done | simp
          | true =>
            rw [w1] at q4
            have sC : hgtI o hs (i + 1) = max (hgtI o hs i) (wn : Int) := by rw [sC0]; unfold hgtS; rw [hwk, w1, if_pos rfl, hwn]
            cases w2 : hasS (rdyI o hs i) y.bl with
            | true =>
              rw [w2] at q5b
              have sB : rdyI o hs (i + 1) = rdyI o hs i := by rw [sB0]; unfold rdyS; rw [hwk, w1, w2]; rfl
              simp only [runA, runB, runC, runD, runE, runF, fieldE, storeE, binE, ↓reduceIte, Nat.reduceLT, Nat.reduceLeDiff, Nat.reduceEqDiff, Nat.reduceAdd, Nat.reduceMul, Nat.reduceSub, reduceCtorEq, putAt, unE, Nat.reduceBEq, convE, buildE, List.replicate, Int.reduceLT, Int.reduceLE, Int.reduceToNat, mkE, mapSetE, hN, hF, ty_3, ty_4, ty_9, ty_22, ty_24, ty_27, ty_32, ty_33, ty_62, ty_65, ty_68, notIf, isEq, hbc, k1, e1, hg, h3, q3, h4, q4, h5, q5a, q5b, hwl, hl1, hl2, hby1, hby2, hrow1, hrow2, hsn1, hsn2, hmx, nt1, ntf, lk, p1]
              refine ⟨hs.length - (i + 1), _, by omega, ?_, i + 1, by omega, rfl, rfl⟩
              rw [hns]
              simp only [runB, finC, finD, AS.get, AS.mem, false_implies, implies_true, ↓reduceIte, Nat.reduceEqDiff, Option.isSome_some, Option.isSome_none, forall_eq_or_imp, forall_eq, reduceCtorEq, Nat.reduceAdd, Nat.reduceMul, List.zip_cons_cons, List.zip_nil_left, List.zip_nil_right, List.forall_mem_nil, sA, sB, sC, sD, lk]
              first | done | simp
            | false =>
              rw [w2] at q5b
              have sB : rdyI o hs (i + 1) = rdyI o hs i ++ [y.bl] := by rw [sB0]; unfold rdyS; rw [hwk, w1, w2]; rfl
              simp only [runA, runB, runC, runD, runE, runF, fieldE, storeE, binE, ↓reduceIte, Nat.reduceLT, Nat.reduceLeDiff, Nat.reduceEqDiff, Nat.reduceAdd, Nat.reduceMul, Nat.reduceSub, reduceCtorEq, putAt, unE, Nat.reduceBEq, convE, buildE, List.replicate, Int.reduceLT, Int.reduceLE, Int.reduceToNat, mkE, mapSetE, hN, hF, ty_3, ty_4, ty_9, ty_22, ty_24, ty_27, ty_32, ty_33, ty_62, ty_65, ty_68, notIf, isEq, hbc, k1, e1, hg, h3, q3, h4, q4, h5, q5a, q5b, hwl, hl1, hl2, hby1, hby2, hrow1, hrow2, hsn1, hsn2, hmx, nt1, ntf, lk, p1]
              refine ⟨hs.length - (i + 1), _, by omega, ?_, i + 1, by omega, rfl, rfl⟩
              rw [hns]
              simp only [runB, finC, finD, AS.get, AS.mem, false_implies, implies_true, ↓reduceIte, Nat.reduceEqDiff, Option.isSome_some, Option.isSome_none, forall_eq_or_imp, forall_eq, reduceCtorEq, Nat.reduceAdd, Nat.reduceMul, List.zip_cons_cons, List.zip_nil_left, List.zip_nil_right, List.forall_mem_nil, sA, sB, sC, sD, lk, List.length_append, List.length_cons, List.length_nil, Nat.zero_add]
              first | done | simp
        | false =>
          have sD : lckI o hs (i + 1) = true := by rw [sD0, lk, p1]; rfl
          cases p2 : decide (((askI o m hs i).length : Int) < m) with
          | false =>
            have sA : askI o m hs (i + 1) = askI o m hs i := by rw [sA0]; unfold askS; rw [p1, p2]; rfl
            cases w1 : wk with
            | false =>
              rw [w1] at q4
              have sB : rdyI o hs (i + 1) = rdyI o hs i := by rw [sB0]; unfold rdyS; rw [hwk, w1]; rfl
              have sC : hgtI o hs (i + 1) = hgtI o hs i := by rw [sC0]; unfold hgtS; rw [hwk, w1]; rfl
              simp only [runA, runB, runC, runD, runE, runF, fieldE, storeE, binE, ↓reduceIte, Nat.reduceLT, Nat.reduceLeDiff, Nat.reduceEqDiff, Nat.reduceAdd, Nat.reduceMul, Nat.reduceSub, reduceCtorEq, putAt, unE, Nat.reduceBEq, convE, buildE, List.replicate, Int.reduceLT, Int.reduceLE, Int.reduceToNat, mkE, mapSetE, hN, hF, ty_3, ty_4, ty_9, ty_22, ty_24, ty_27, ty_32, ty_33, ty_62, ty_65, ty_68, notIf, isEq, hbc, k1, e1, hg, h3, q3, h4, q4, h5, q5a, q5b, hwl, hl1, hl2, hby1, hby2, hrow1, hrow2, hsn1, hsn2, hmx, nt1, ntf, lk, p1, p2]
              refine ⟨hs.length - (i + 1), _, by omega, ?_, i + 1, by omega, rfl, rfl⟩
              rw [hns]
              simp only [runB, finC, finD, AS.get, AS.mem, false_implies, implies_true, ↓reduceIte, Nat.reduceEqDiff, Option.isSome_some, Option.isSome_none, forall_eq_or_imp, forall_eq, reduceCtorEq, Nat.reduceAdd, Nat.reduceMul, List.zip_cons_cons, List.zip_nil_left, List.zip_nil_right, List.forall_mem_nil, sA, sB, sC, sD, lk]
              first | done | simp
            | true =>
              rw [w1] at q4
              have sC : hgtI o hs (i + 1) = max (hgtI o hs i) (wn : Int) := by rw [sC0]; unfold hgtS; rw [hwk, w1, if_pos rfl, hwn]
              cases w2 : hasS (rdyI o hs i) y.bl with
              | true =>
                rw [w2] at q5b
                have sB : rdyI o hs (i + 1) = rdyI o hs i := by rw [sB0]; unfold rdyS; rw [hwk, w1, w2]; rfl
                simp only [runA, runB, runC, runD, runE, runF, fieldE, storeE, binE, ↓reduceIte, Nat.reduceLT, Nat.reduceLeDiff, Nat.reduceEqDiff, Nat.reduceAdd, Nat.reduceMul, Nat.reduceSub, reduceCtorEq, putAt, unE, Nat.reduceBEq, convE, buildE, List.replicate, Int.reduceLT, Int.reduceLE, Int.reduceToNat, mkE, mapSetE, hN, hF, ty_3, ty_4, ty_9, ty_22, ty_24, ty_27, ty_32, ty_33, ty_62, ty_65, ty_68, notIf, isEq, hbc, k1, e1, hg, h3, q3, h4, q4, h5, q5a, q5b, hwl, hl1, hl2, hby1, hby2, hrow1, hrow2, hsn1, hsn2, hmx, nt1, ntf, lk, p1, p2]
                refine ⟨hs.length - (i + 1), _, by omega, ?_, i + 1, by omega, rfl, rfl⟩
                rw [hns]
                simp only [runB, finC, finD, AS.get, AS.mem, false_implies, implies_true, ↓reduceIte, Nat.reduceEqDiff, Option.isSome_some, Option.isSome_none, forall_eq_or_imp, forall_eq, reduceCtorEq, Nat.reduceAdd, Nat.reduceMul, List.zip_cons_cons, List.zip_nil_left, List.zip_nil_right, List.forall_mem_nil, sA, sB, sC, sD, lk]
                first | done | simp
              | false =>
                rw [w2] at q5b
                have sB : rdyI o hs (i + 1) = rdyI o hs i ++ [y.bl] := by rw [sB0]; unfold rdyS; rw [hwk, w1, w2]; rfl
                simp only [runA, runB, runC, runD, runE, runF, fieldE, storeE, binE, ↓reduceIte, Nat.reduceLT, Nat.reduceLeDiff, Nat.reduceEqDiff, Nat.reduceAdd, Nat.reduceMul, Nat.reduceSub, reduceCtorEq, putAt, unE, Nat.reduceBEq, convE, buildE, List.replicate, Int.reduceLT, Int.reduceLE, Int.reduceToNat, mkE, mapSetE, hN, hF, ty_3, ty_4, ty_9, ty_22, ty_24, ty_27, ty_32, ty_33, ty_62, ty_65, ty_68, notIf, isEq, hbc, k1, e1, hg, h3, q3, h4, q4, h5, q5a, q5b, hwl, hl1, hl2, hby1, hby2, hrow1, hrow2, hsn1, hsn2, hmx, nt1, ntf, lk, p1, p2]
                refine ⟨hs.length - (i + 1), _, by omega, ?_, i + 1, by omega, rfl, rfl⟩
                rw [hns]
                simp only [runB, finC, finD, AS.get, AS.mem, false_implies, implies_true, ↓reduceIte, Nat.reduceEqDiff, Option.isSome_some, Option.isSome_none, forall_eq_or_imp, forall_eq, reduceCtorEq, Nat.reduceAdd, Nat.reduceMul, List.zip_cons_cons, List.zip_nil_left, List.zip_nil_right, List.forall_mem_nil, sA, sB, sC, sD, lk, List.length_append, List.length_cons, List.length_nil, Nat.zero_add]
                first | done | simp
          | true =>
            cases p3 : hasS (askI o m hs i) (missS o y.bl) with
            | true =>
              rw [p3] at q5a
              have sA : askI o m hs (i + 1) = askI o m hs i := by rw [sA0]; unfold askS; rw [p1, p2, p3]; rfl
              cases w1 : wk with
              | false =>
                rw [w1] at q4
                have sB : rdyI o hs (i + 1) = rdyI o hs i := by rw [sB0]; unfold rdyS; rw [hwk, w1]; rfl
                have sC : hgtI o hs (i + 1) = hgtI o hs i := by rw [sC0]; unfold hgtS; rw [hwk, w1]; rfl
                simp only [runA, runB, runC, runD, runE, runF, fieldE, storeE, binE, ↓reduceIte, Nat.reduceLT, Nat.reduceLeDiff, Nat.reduceEqDiff, Nat.reduceAdd, Nat.reduceMul, Nat.reduceSub, reduceCtorEq, putAt, unE, Nat.reduceBEq, convE, buildE, List.replicate, Int.reduceLT, Int.reduceLE, Int.reduceToNat, mkE, mapSetE, hN, hF, ty_3, ty_4, ty_9, ty_22, ty_24, ty_27, ty_32, ty_33, ty_62, ty_65, ty_68, notIf, isEq, hbc, k1, e1, hg, h3, q3, h4, q4, h5, q5a, q5b, hwl, hl1, hl2, hby1, hby2, hrow1, hrow2, hsn1, hsn2, hmx, nt1, ntf, lk, p1, p2]
                refine ⟨hs.length - (i + 1), _, by omega, ?_, i + 1, by omega, rfl, rfl⟩
                rw [hns]
                simp only [runB, finC, finD, AS.get, AS.mem, false_implies, implies_true, ↓reduceIte, Nat.reduceEqDiff, Option.isSome_some, Option.isSome_none, forall_eq_or_imp, forall_eq, reduceCtorEq, Nat.reduceAdd, Nat.reduceMul, List.zip_cons_cons, List.zip_nil_left, List.zip_nil_right, List.forall_mem_nil, sA, sB, sC, sD, lk]
                first | done | simp
              | true =>
                rw [w1] at q4
                have sC : hgtI o hs (i + 1) = max (hgtI o hs i) (wn : Int) := by rw [sC0]; unfold hgtS; rw [hwk, w1, if_pos rfl, hwn]
                cases w2 : hasS (rdyI o hs i) y.bl with
                | true =>
                  rw [w2] at q5b
                  have sB : rdyI o hs (i + 1) = rdyI o hs i := by rw [sB0]; unfold rdyS; rw [hwk, w1, w2]; rfl
                  simp only [runA, runB, runC, runD, runE, runF, fieldE, storeE, binE, ↓reduceIte, Nat.reduceLT, Nat.reduceLeDiff, Nat.reduceEqDiff, Nat.reduceAdd, Nat.reduceMul, Nat.reduceSub, reduceCtorEq, putAt, unE, Nat.reduceBEq, convE, buildE, List.replicate, Int.reduceLT, Int.reduceLE, Int.reduceToNat, mkE, mapSetE, hN, hF, ty_3, ty_4, ty_9, ty_22, ty_24, ty_27, ty_32, ty_33, ty_62, ty_65, ty_68, notIf, isEq, hbc, k1, e1, hg, h3, q3, h4, q4, h5, q5a, q5b, hwl, hl1, hl2, hby1, hby2, hrow1, hrow2, hsn1, hsn2, hmx, nt1, ntf, lk, p1, p2]
                  refine ⟨hs.length - (i + 1), _, by omega, ?_, i + 1, by omega, rfl, rfl⟩
                  rw [hns]
                  simp only [runB, finC, finD, AS.get, AS.mem, false_implies, implies_true, ↓reduceIte, Nat.reduceEqDiff, Option.isSome_some, Option.isSome_none, forall_eq_or_imp, forall_eq, reduceCtorEq, Nat.reduceAdd, Nat.reduceMul, List.zip_cons_cons, List.zip_nil_left, List.zip_nil_right, List.forall_mem_nil, sA, sB, sC, sD, lk]
                  first | done | simp
                | false =>
                  rw [w2] at q5b
                  have sB : rdyI o hs (i + 1) = rdyI o hs i ++ [y.bl] := by rw [sB0]; unfold rdyS; rw [hwk, w1, w2]; rfl
                  simp only [runA, runB, runC, runD, runE, runF, fieldE, storeE, binE, ↓reduceIte, Nat.reduceLT, Nat.reduceLeDiff, Nat.reduceEqDiff, Nat.reduceAdd, Nat.reduceMul, Nat.reduceSub, reduceCtorEq, putAt, unE, Nat.reduceBEq, convE, buildE, List.replicate, Int.reduceLT, Int.reduceLE, Int.reduceToNat, mkE, mapSetE, hN, hF, ty_3, ty_4, ty_9, ty_22, ty_24, ty_27, ty_32, ty_33, ty_62, ty_65, ty_68, notIf, isEq, hbc, k1, e1, hg, h3, q3, h4, q4, h5, q5a, q5b, hwl, hl1, hl2, hby1, hby2, hrow1, hrow2, hsn1, hsn2, hmx, nt1, ntf, lk, p1, p2]
                  refine ⟨hs.length - (i + 1), _, by omega, ?_, i + 1, by omega, rfl, rfl⟩
                  rw [hns]
                  simp only [runB, finC, finD, AS.get, AS.mem, false_implies, implies_true, ↓reduceIte, Nat.reduceEqDiff, Option.isSome_some, Option.isSome_none, forall_eq_or_imp, forall_eq, reduceCtorEq, Nat.reduceAdd, Nat.reduceMul, List.zip_cons_cons, List.zip_nil_left, List.zip_nil_right, List.forall_mem_nil, sA, sB, sC, sD, lk, List.length_append, List.length_cons, List.length_nil, Nat.zero_add]
                  first | done | simp
            | false =>
              rw [p3] at q5a
              have sA : askI o m hs (i + 1) = askI o m hs i ++ [missS o y.bl] := by rw [sA0]; unfold askS; rw [p1, p2, p3]; rfl
              cases w1 : wk with
              | false =>
                rw [w1] at q4
                have sB : rdyI o hs (i + 1) = rdyI o hs i := by rw [sB0]; unfold rdyS; rw [hwk, w1]; rfl
                have sC : hgtI o hs (i + 1) = hgtI o hs i := by rw [sC0]; unfold hgtS; rw [hwk, w1]; rfl
                simp only [runA, runB, runC, runD, runE, runF, fieldE, storeE, binE, ↓reduceIte, Nat.reduceLT, Nat.reduceLeDiff, Nat.reduceEqDiff, Nat.reduceAdd, Nat.reduceMul, Nat.reduceSub, reduceCtorEq, putAt, unE, Nat.reduceBEq, convE, buildE, List.replicate, Int.reduceLT, Int.reduceLE, Int.reduceToNat, mkE, mapSetE, hN, hF, ty_3, ty_4, ty_9, ty_22, ty_24, ty_27, ty_32, ty_33, ty_62, ty_65, ty_68, notIf, isEq, hbc, k1, e1, hg, h3, q3, h4, q4, h5, q5a, q5b, hwl, hl1, hl2, hby1, hby2, hrow1, hrow2, hsn1, hsn2, hmx, nt1, ntf, lk, p1, p2]
                refine ⟨hs.length - (i + 1), _, by omega, ?_, i + 1, by omega, rfl, rfl⟩
                rw [hns]
                simp only [runB, finC, finD, AS.get, AS.mem, false_implies, implies_true, ↓reduceIte, Nat.reduceEqDiff, Option.isSome_some, Option.isSome_none, forall_eq_or_imp, forall_eq, reduceCtorEq, Nat.reduceAdd, Nat.reduceMul, List.zip_cons_cons, List.zip_nil_left, List.zip_nil_right, List.forall_mem_nil, sA, sB, sC, sD, lk, List.length_append, List.length_cons, List.length_nil, Nat.zero_add]
                first | done | simp
              | true =>
                rw [w1] at q4
                have sC : hgtI o hs (i + 1) = max (hgtI o hs i) (wn : Int) := by rw [sC0]; unfold hgtS; rw [hwk, w1, if_pos rfl, hwn]
                cases w2 : hasS (rdyI o hs i) y.bl with
                | true =>
                  rw [w2] at q5b
                  have sB : rdyI o hs (i + 1) = rdyI o hs i := by rw [sB0]; unfold rdyS; rw [hwk, w1, w2]; rfl
                  simp only [runA, runB, runC, runD, runE, runF, fieldE, storeE, binE, ↓reduceIte, Nat.reduceLT, Nat.reduceLeDiff, Nat.reduceEqDiff, Nat.reduceAdd, Nat.reduceMul, Nat.reduceSub, reduceCtorEq, putAt, unE, Nat.reduceBEq, convE, buildE, List.replicate, Int.reduceLT, Int.reduceLE, Int.reduceToNat, mkE, mapSetE, hN, hF, ty_3, ty_4, ty_9, ty_22, ty_24, ty_27, ty_32, ty_33, ty_62, ty_65, ty_68, notIf, isEq, hbc, k1, e1, hg, h3, q3, h4, q4, h5, q5a, q5b, hwl, hl1, hl2, hby1, hby2, hrow1, hrow2, hsn1, hsn2, hmx, nt1, ntf, lk, p1, p2]
                  refine ⟨hs.length - (i + 1), _, by omega, ?_, i + 1, by omega, rfl, rfl⟩
                  rw [hns]
                  simp only [runB, finC, finD, AS.get, AS.mem, false_implies, implies_true, ↓reduceIte, Nat.reduceEqDiff, Option.isSome_some, Option.isSome_none, forall_eq_or_imp, forall_eq, reduceCtorEq, Nat.reduceAdd, Nat.reduceMul, List.zip_cons_cons, List.zip_nil_left, List.zip_nil_right, List.forall_mem_nil, sA, sB, sC, sD, lk, List.length_append, List.length_cons, List.length_nil, Nat.zero_add]
                  first | done | simp
                | false =>
                  rw [w2] at q5b
                  have sB : rdyI o hs (i + 1) = rdyI o hs i ++ [y.bl] := by rw [sB0]; unfold rdyS; rw [hwk, w1, w2]; rfl
                  simp only [runA, runB, runC, runD, runE, runF, fieldE, storeE, binE, ↓reduceIte, Nat.reduceLT, Nat.reduceLeDiff, Nat.reduceEqDiff, Nat.reduceAdd, Nat.reduceMul, Nat.reduceSub, reduceCtorEq, putAt, unE, Nat.reduceBEq, convE, buildE, List.replicate, Int.reduceLT, Int.reduceLE, Int.reduceToNat, mkE, mapSetE, hN, hF, ty_3, ty_4, ty_9, ty_22, ty_24, ty_27, ty_32, ty_33, ty_62, ty_65, ty_68, notIf, isEq, hbc, k1, e1, hg, h3, q3, h4, q4, h5, q5a, q5b, hwl, hl1, hl2, hby1, hby2, hrow1, hrow2, hsn1, hsn2, hmx, nt1, ntf, lk, p1, p2]
                  refine ⟨hs.length - (i + 1), _, by omega, ?_, i + 1, by omega, rfl, rfl⟩
                  rw [hns]
                  simp only [runB, finC, finD, AS.get, AS.mem, false_implies, implies_true, ↓reduceIte, Nat.reduceEqDiff, Option.isSome_some, Option.isSome_none, forall_eq_or_imp, forall_eq, reduceCtorEq, Nat.reduceAdd, Nat.reduceMul, List.zip_cons_cons, List.zip_nil_left, List.zip_nil_right, List.forall_mem_nil, sA, sB, sC, sD, lk, List.length_append, List.length_cons, List.length_nil, Nat.zero_add, List.length_append, List.length_cons, List.length_nil, Nat.zero_add]
                  first | done | simp
    · obtain rfl : i = hs.length := by omega
      have k1 : decide (((hs.length : Nat) : Int) < (hs.length : Int)) = false := decide_eq_false (by omega)
      have eA : askL o m hs = askI o m hs hs.length := rfl
      have eB : rdyL o hs = rdyI o hs hs.length := rfl
      have eC : hgtL o hs = hgtI o hs hs.length := rfl
      have q6 := pmk_at o hs m ht hh
      have q8 := pdn_at o hs ht hh
      rw [eA, eB, eC] at q6
      have q7a := ptexts_same (askI o m hs hs.length) (by omega)
      have q7b := ptexts_same (rdyI o hs hs.length) (by omega)
      generalize askI o m hs hs.length = a at q6 q7a ⊢
      generalize rdyI o hs hs.length = r at q6 q7b ⊢
      generalize hgtI o hs hs.length = h at q6 ⊢
      generalize lckI o hs hs.length = lk at q8 ⊢
      have hbi : (h == h) = true := by simp
      have hbb : ((!lk) == (!lk)) = true := by simp
      simp only [runA, runB, runC, runD, runE, runF, fieldE, storeE, binE, ↓reduceIte, Nat.reduceLT, Nat.reduceLeDiff, Nat.reduceEqDiff, Nat.reduceAdd, Nat.reduceMul, Nat.reduceSub, reduceCtorEq, putAt, unE, Nat.reduceBEq, convE, buildE, List.replicate, Int.reduceLT, Int.reduceLE, Int.reduceToNat, mkE, mapSetE, hN, hF, ty_3, ty_4, ty_9, ty_22, ty_24, ty_27, ty_32, ty_33, ty_62, ty_65, ty_68, notIf, isEq, hbc, k1, h6, q6, h7, q7a, q7b, h8, q8, hbi, hbb]
      simp only [runB, finC, finD, Option.isSome_some, Option.isSome_none, ↓reduceIte, Nat.reduceEqDiff, Nat.reduceAdd, Nat.reduceMul, forall_eq_or_imp, forall_eq, implies_true, Nat.reduceBEq, reduceCtorEq, false_implies, List.zip_cons_cons, List.zip_nil_left, List.zip_nil_right, Nat.reduceLeDiff, List.forall_mem_nil, rs_8, ty_3, ty_4, ty_9, ty_22, ty_24, ty_27, ty_32, ty_33, ty_62, ty_65, ty_68]

end Go.Proofs.Ytenmlgalcjkdbaa.AM
set_option linter.unusedVariables false
set_option linter.unusedSimpArgs false
namespace Go.Proofs.Ytenmlgalcjkdbaa.AM
open Go

variable {Γ : FuncId → Contract}


/-! a scope through which the run goes without a goto -/
section
variable {F : Fence} {n : Nat} {P : Program} {E : Env}
theorem stepR_scope {b : Frame} {a : Act} {k : List Item} {cs : List Frame} {w : World} {c : Code} : step P (lone (b.atR a (.code (.scope c) :: k)) cs w) = .next (lone (b.atR a (.code c :: .inScope c :: k)) cs w) :=
  step_lone_go (by simp [stepG, stepG.exec, Frame.atR])
theorem stepR_inScope {b : Frame} {a : Act} {k : List Item} {cs : List Frame} {w : World} {c : Code} : step P (lone (b.atR a (.inScope c :: k)) cs w) = .next (lone (b.atR a k) cs w) :=
  step_lone_go (by simp [stepG, stepG.exec, Frame.atR])
theorem wpIn_scope {c : Code} {Q : Exit → Act → World → Prop} {a : Act} {w : World} (hg : ∀ l a w, ¬ Q (.goto l) a w) (h : c.wpIn F n P Q a w) : (Code.scope c).wpIn F n P Q a w := by
  intro b k cs hro hb hr
  have h0 : (lone (b.atR a (.code (.scope c) :: k)) cs w).fenced P F := fenced_calm hb hr rfl
  obtain ⟨e, a₁, w₁, hq, harr⟩ := h b (.inScope c :: k) cs hro hb hr
  cases e with
  | normal => exact ⟨.normal, a₁, w₁, hq, .head h0 stepR_scope (StepsIn.trans harr (.one (fenced_calm hb hr rfl) stepR_inScope))⟩
  | exit id =>
    have hx : exitTo id (.inScope c :: k) = exitTo id k := by simp [exitTo]
    exact ⟨.exit id, a₁, w₁, hq, fun k' hk => .head h0 stepR_scope (harr.1 k' (by rw [hx]; exact hk)), fun hr' hk => let ⟨k₁, h1, h2⟩ := harr.2 hr' (by rw [hx]; exact hk); ⟨k₁, h1, .head h0 stepR_scope h2⟩⟩
  | goto l => exact absurd hq (hg l _ _)
  | ret => exact ⟨_, a₁, w₁, hq, .of_steps (.one h0 stepR_scope) harr⟩
  | panic ch => exact ⟨_, a₁, w₁, hq, .of_steps (.one h0 stepR_scope) harr⟩
  | outgrown => exact ⟨_, a₁, w₁, hq, .of_steps (.one h0 stepR_scope) harr⟩
theorem AWP.scope {c : Code} {Q : Exit → AS → Prop} {s : AS} (hg : ∀ l s, ¬ Q (.goto l) s) (h : AWP P E c Q s) : AWP P E (.scope c) Q s := by
  intro G a w R
  exact wpIn_scope (fun l a w ⟨_, s', h1, _⟩ => hg l s' h1) (h G a w R)
end
theorem okF_tree {o : List Blk} (h : okF [] o) (hl : o.length ≤ 4294967296) : treeOK o := ⟨hl, fun b hb => ⟨(h b hb).1, by have := (h b hb).2.1; omega, by have := (h b hb).2.2; omega⟩⟩
noncomputable def pflC : Contract := mkC (α := List Blk × List Ct × List Blk) (fun p => okF [] p.1 ∧ p.1.length ≤ 1048576 ∧ p.2.1.length ≤ 1048576 ∧ okBl p.2.2) (fun p => [.ptr 6400000 0, .c (.sl (crows p.2.1)), .c (.sl (brows p.2.2))]) (fun p => [[.mp true (esOf p.1)]]) (fun p => ⟨[.pv (.c (.int .i64 (((fillS p.2.1 p.2.2 p.1).length : Int) - (p.1.length : Int))))], [[.mp true (esOf (fillS p.2.1 p.2.2 p.1))]]⟩)
theorem pfl_at (o : List Blk) (hs : List Ct) (l : List Blk) (g0 : okF [] o) (g1 : o.length ≤ 1048576) (g2 : hs.length ≤ 1048576) (g3 : okBl l) : pflC [.ptr 6400000 0, .c (.sl (crows hs)), .c (.sl (brows l))] [[.mp true (esOf o)]] = some ⟨[.pv (.c (.int .i64 (((fillS hs l o).length : Int) - (o.length : Int))))], [[.mp true (esOf (fillS hs l o))]]⟩ := by
  exact mkC_at (α := List Blk × List Ct × List Blk) (o, hs, l) ⟨g0, g1, g2, g3⟩ (by
    rintro ⟨o', hs', l'⟩ _ h ho
    have hh := And.intro h ho
    clear h ho
    simp only [List.cons.injEq, AV.c.injEq, AV.agg.injEq, PC.int.injEq, PC.str.injEq, PC.bool.injEq, PC.sl.injEq, OV.c.injEq, OV.own.injEq, OV.mp.injEq, bytes_iff, texts_iff, true_and, and_true, and_self, beq_self_eq_true, esOf_iff, crows_iff, brows_iff] at hh
    simp only [hh])

set_option maxRecDepth 100000 in
set_option maxHeartbeats 4000000 in
theorem pfl_sound (hΓ : SoundG Try.prog Γ) (h1 : Γ 37 = pmkC) (h2 : Γ 13 = bkNC) (h3 : Γ 64 = sctC) (h4 : Γ 20 = putTC) : SoundC Try.prog 40 pflC := by
  refine sound_fn Try.func40 (by kernel_rfl) rfl rfl ?_
  intro args objs r0 hr
  obtain ⟨⟨o, hs, l⟩, ⟨ho, hol, hh, hl⟩, rfl, rfl, rfl⟩ := mkC_inv hr
  refine ⟨rfl, by show 3 ≤ _; decide, fun E hN hns hF => ?_⟩
  refine AWP.seq (vc_sound hΓ mixed _ _ _ ?_)
  have hN := hN.trans nt_40
  have ho : okF [] o := ho
  have hol : o.length ≤ 1048576 := hol
  have hh : hs.length ≤ 1048576 := hh
  have hl : okBl l := hl
  have hll := hl.1
  have hbl := brows_length l
  have hrl := rem_le l o
  dsimp only
  obtain ⟨R, hR⟩ : ∃ R, R = fillS hs l o := ⟨_, rfl⟩
  rw [← hR]
  have hz : ((o.length : Int) - (o.length : Int)) = 0 := by omega
  simp only [runA, runB, runC, runD, runE, runF, fieldE, storeE, binE, ↓reduceIte, Nat.reduceLT, Nat.reduceLeDiff, Nat.reduceEqDiff, Nat.reduceAdd, Nat.reduceMul, Nat.reduceSub, reduceCtorEq, putAt, unE, Nat.reduceBEq, convE, buildE, List.replicate, Int.reduceLT, Int.reduceLE, Int.reduceToNat, mkE, mapSetE, hN, hF, ty_3, ty_9, ty_24, ty_25, ty_27, ty_32, ty_33, ty_62, ty_65, ty_68, notIf, isEq]
  refine AWP.scope (fun l s h => h.elim) (vc_sound hΓ mixed _ _ _ ?_)
  simp only [runA, runB, runC, runD, runE, runF, fieldE, storeE, binE, ↓reduceIte, Nat.reduceLT, Nat.reduceLeDiff, Nat.reduceEqDiff, Nat.reduceAdd, Nat.reduceMul, Nat.reduceSub, reduceCtorEq, putAt, unE, Nat.reduceBEq, convE, buildE, List.replicate, Int.reduceLT, Int.reduceLE, Int.reduceToNat, mkE, mapSetE, hN, hF, ty_3, ty_9, ty_24, ty_25, ty_27, ty_32, ty_33, ty_62, ty_65, ty_68, notIf, isEq]
  refine AWP.loop (fun k st => ∃ oc : List Blk, fillN hs l k oc = R ∧ rem l oc < k ∧ okF [] oc ∧ o.length ≤ oc.length ∧ oc.length + rem l oc ≤ o.length + rem l o ∧ st = ⟨[(0, .ptr 6400000 0), (1, .c (.sl (crows hs))), (2, .c (.sl (brows l))), (7, .c (.int .i64 ((oc.length : Int) - (o.length : Int))))], [(6400000, .obj [.mp 6400001] false), (6400001, .mp true (esOf oc))]⟩) ⟨rem l o + 1, _, ?w, o, hR.symm, by omega, ho, by omega, by omega, rfl⟩ ?r
  case w =>
    rw [hns]
    simp only [runB, finC, finD, AS.get, AS.mem, false_implies, implies_true, ↓reduceIte, Nat.reduceEqDiff, Option.isSome_some, Option.isSome_none, forall_eq_or_imp, forall_eq, reduceCtorEq, Nat.reduceAdd, Nat.reduceMul, List.zip_cons_cons, List.zip_nil_left, List.zip_nil_right, List.forall_mem_nil, hz]
    first | done | simp
  case r =>
    rintro k st ⟨oc, hk, hrm, hoc, hge, hsum, rfl⟩
    refine vc_sound hΓ mixed _ _ _ ?_
    have htr := okF_tree hoc (by omega)
    have q1 := pmk_at oc hs 64 htr hh
    obtain ⟨f, rfl⟩ : ∃ f, k = f + 1 := ⟨k - 1, by omega⟩
    unfold fillN at hk
    have haL : (askL oc 64 hs).length ≤ hs.length := askI_len oc 64 hs hs.length (Nat.le_refl _)
    obtain ⟨ask, hask⟩ : ∃ ask, askL oc 64 hs = ask := ⟨_, rfl⟩
    rw [hask] at q1 hk haL
    generalize texts (rdyL oc hs) = rdl at q1
    generalize hgtL oc hs = hgl at q1
    simp only [runA, runB, runC, runD, runE, runF, fieldE, storeE, binE, ↓reduceIte, Nat.reduceLT, Nat.reduceLeDiff, Nat.reduceEqDiff, Nat.reduceAdd, Nat.reduceMul, Nat.reduceSub, reduceCtorEq, putAt, unE, Nat.reduceBEq, convE, buildE, List.replicate, Int.reduceLT, Int.reduceLE, Int.reduceToNat, mkE, mapSetE, hN, hF, ty_3, ty_9, ty_24, ty_25, ty_27, ty_32, ty_33, ty_62, ty_65, ty_68, notIf, isEq, h1, q1, hbl]
    refine AWP.loop (fun k st => ∃ i : Nat, i ≤ l.length ∧ k = l.length - i ∧ st = ⟨[(0, .ptr 6400000 0), (1, .c (.sl (crows hs))), (2, .c (.sl (brows l))), (8, .c (.int .i64 ((oc.length : Int) - (o.length : Int)))), (9, .ptr 576 0), (16, .c (.sl (brows l))), (17, .c (.int .i64 (l.length : Int))), (18, .c (.int .i64 (i : Int))), (7, .c (.int .i64 (((fillI ask l oc i).length : Int) - (o.length : Int))))], [(576, .obj [.c (.sl (texts ask)), .c (.sl rdl), .c (.int .i64 hgl)] false), (6400000, .obj [.mp 6400001] false), (6400001, .mp true (esOf (fillI ask l oc i)))]⟩) ⟨l.length, _, ?w2, 0, Nat.zero_le _, rfl, rfl⟩ ?r2
    case w2 =>
      have z1 : fillI ask l oc 0 = oc := rfl
      rw [hns]
      simp only [runB, finC, finD, AS.get, AS.mem, false_implies, implies_true, ↓reduceIte, Nat.reduceEqDiff, Option.isSome_some, Option.isSome_none, forall_eq_or_imp, forall_eq, reduceCtorEq, Nat.reduceAdd, Nat.reduceMul, List.zip_cons_cons, List.zip_nil_left, List.zip_nil_right, List.forall_mem_nil, z1]
      first | done | simp
    case r2 =>
      rintro k st ⟨i, hi, rfl, rfl⟩
      refine vc_sound hΓ mixed _ _ _ ?_
      have hI := fillI_rem ask l oc i hi
      have hG := fillI_ge ask l oc i hi
      by_cases hlt : i < l.length
      · have k1 : decide ((i : Int) < (l.length : Int)) = true := decide_eq_true (by omega)
        have e1 : IntKind.i64.wrap ((i : Int) + 1) = (i : Int) + 1 := wrapI (by omega)
        have hg := browsD l i hlt
        have hsm := okBl_getD hl hlt
        have hsucc := fillI_succ (ask := ask) (o := oc) hlt
        unfold Blk.pcs at hg
        generalize l.getD i zeroBk = y at hg hsm hsucc
        have q2 := bkN_p y (by omega)
        have q3 := sct_at ask (nameS y) (by omega)
        have q4 := putT_p (fillI ask l oc i) y ⟨by omega, by omega⟩
        have e2 : IntKind.i64.wrap (((fillI ask l oc i).length : Int) - (o.length : Int) + 1) = ((fillI ask l oc i).length : Int) - (o.length : Int) + 1 := wrapI (by omega)
        have fin : ∀ (w : fillI ask l oc (i + 1) = fillI ask l oc i), True := fun _ => trivial
        cases p1 : hasS ask (nameS y) with
        | false =>
          rw [p1] at q3
          have hsame : fillI ask l oc (i + 1) = fillI ask l oc i := by rw [hsucc]; unfold stepF; rw [p1]; rfl
          generalize nameS y = nm at q2 q3
          simp only [runA, runB, runC, runD, runE, runF, fieldE, storeE, binE, ↓reduceIte, Nat.reduceLT, Nat.reduceLeDiff, Nat.reduceEqDiff, Nat.reduceAdd, Nat.reduceMul, Nat.reduceSub, reduceCtorEq, putAt, unE, Nat.reduceBEq, convE, buildE, List.replicate, Int.reduceLT, Int.reduceLE, Int.reduceToNat, mkE, mapSetE, hN, hF, ty_3, ty_9, ty_24, ty_25, ty_27, ty_32, ty_33, ty_62, ty_65, ty_68, notIf, isEq, k1, e1, hg, hbl, h2, q2, h3, q3, h4, q4, e2]
          refine drawnP_intro (by kernel_rfl) (by kernel_rfl) ?_
          simp only [runA, runB, runC, runD, runE, runF, fieldE, storeE, binE, ↓reduceIte, Nat.reduceLT, Nat.reduceLeDiff, Nat.reduceEqDiff, Nat.reduceAdd, Nat.reduceMul, Nat.reduceSub, reduceCtorEq, putAt, unE, Nat.reduceBEq, convE, buildE, List.replicate, Int.reduceLT, Int.reduceLE, Int.reduceToNat, mkE, mapSetE, hN, hF, ty_3, ty_9, ty_24, ty_25, ty_27, ty_32, ty_33, ty_62, ty_65, ty_68, notIf, isEq, k1, e1, hg, hbl, h2, q2, h3, q3, h4, q4, e2]
          refine ⟨l.length - (i + 1), _, by omega, ?_, i + 1, by omega, rfl, rfl⟩
          rw [hns]
          simp only [runB, finC, finD, AS.get, AS.mem, false_implies, implies_true, ↓reduceIte, Nat.reduceEqDiff, Option.isSome_some, Option.isSome_none, forall_eq_or_imp, forall_eq, reduceCtorEq, Nat.reduceAdd, Nat.reduceMul, List.zip_cons_cons, List.zip_nil_left, List.zip_nil_right, List.forall_mem_nil, hsame]
          first | done | simp
        | true =>
          rw [p1] at q3
          cases p2 : putB' (fillI ask l oc i) y with
          | false =>
            have hO : putO (fillI ask l oc i) y = fillI ask l oc i := by unfold putO; rw [p2]; rfl
            rw [p2, hO] at q4
            have hsame : fillI ask l oc (i + 1) = fillI ask l oc i := by rw [hsucc]; unfold stepF; rw [p1, p2]; rfl
            generalize nameS y = nm at q2 q3
            simp only [runA, runB, runC, runD, runE, runF, fieldE, storeE, binE, ↓reduceIte, Nat.reduceLT, Nat.reduceLeDiff, Nat.reduceEqDiff, Nat.reduceAdd, Nat.reduceMul, Nat.reduceSub, reduceCtorEq, putAt, unE, Nat.reduceBEq, convE, buildE, List.replicate, Int.reduceLT, Int.reduceLE, Int.reduceToNat, mkE, mapSetE, hN, hF, ty_3, ty_9, ty_24, ty_25, ty_27, ty_32, ty_33, ty_62, ty_65, ty_68, notIf, isEq, k1, e1, hg, hbl, h2, q2, h3, q3, h4, q4, e2]
            refine drawnP_intro (by kernel_rfl) (by kernel_rfl) ?_
            simp only [runA, runB, runC, runD, runE, runF, fieldE, storeE, binE, ↓reduceIte, Nat.reduceLT, Nat.reduceLeDiff, Nat.reduceEqDiff, Nat.reduceAdd, Nat.reduceMul, Nat.reduceSub, reduceCtorEq, putAt, unE, Nat.reduceBEq, convE, buildE, List.replicate, Int.reduceLT, Int.reduceLE, Int.reduceToNat, mkE, mapSetE, hN, hF, ty_3, ty_9, ty_24, ty_25, ty_27, ty_32, ty_33, ty_62, ty_65, ty_68, notIf, isEq, k1, e1, hg, hbl, h2, q2, h3, q3, h4, q4, e2]
            refine ⟨l.length - (i + 1), _, by omega, ?_, i + 1, by omega, rfl, rfl⟩
            rw [hns]
            simp only [runB, finC, finD, AS.get, AS.mem, false_implies, implies_true, ↓reduceIte, Nat.reduceEqDiff, Option.isSome_some, Option.isSome_none, forall_eq_or_imp, forall_eq, reduceCtorEq, Nat.reduceAdd, Nat.reduceMul, List.zip_cons_cons, List.zip_nil_left, List.zip_nil_right, List.forall_mem_nil, hsame]
            first | done | simp
          | true =>
            have hO : putO (fillI ask l oc i) y = fillI ask l oc (i + 1) := by rw [hsucc]; unfold putO stepF; rw [p1, p2]; rfl
            have hlen : ((fillI ask l oc (i + 1)).length : Int) = ((fillI ask l oc i).length : Int) + 1 := by rw [hsucc]; unfold stepF; rw [p1, p2]; simp
            have hsub : ((fillI ask l oc (i + 1)).length : Int) - (o.length : Int) = ((fillI ask l oc i).length : Int) - (o.length : Int) + 1 := by omega
            rw [p2, hO] at q4
            generalize nameS y = nm at q2 q3
            simp only [runA, runB, runC, runD, runE, runF, fieldE, storeE, binE, ↓reduceIte, Nat.reduceLT, Nat.reduceLeDiff, Nat.reduceEqDiff, Nat.reduceAdd, Nat.reduceMul, Nat.reduceSub, reduceCtorEq, putAt, unE, Nat.reduceBEq, convE, buildE, List.replicate, Int.reduceLT, Int.reduceLE, Int.reduceToNat, mkE, mapSetE, hN, hF, ty_3, ty_9, ty_24, ty_25, ty_27, ty_32, ty_33, ty_62, ty_65, ty_68, notIf, isEq, k1, e1, hg, hbl, h2, q2, h3, q3, h4, q4, e2]
            refine drawnP_intro (by kernel_rfl) (by kernel_rfl) ?_
            simp only [runA, runB, runC, runD, runE, runF, fieldE, storeE, binE, ↓reduceIte, Nat.reduceLT, Nat.reduceLeDiff, Nat.reduceEqDiff, Nat.reduceAdd, Nat.reduceMul, Nat.reduceSub, reduceCtorEq, putAt, unE, Nat.reduceBEq, convE, buildE, List.replicate, Int.reduceLT, Int.reduceLE, Int.reduceToNat, mkE, mapSetE, hN, hF, ty_3, ty_9, ty_24, ty_25, ty_27, ty_32, ty_33, ty_62, ty_65, ty_68, notIf, isEq, k1, e1, hg, hbl, h2, q2, h3, q3, h4, q4, e2]
            refine ⟨l.length - (i + 1), _, by omega, ?_, i + 1, by omega, rfl, rfl⟩
            rw [hns]
            simp only [runB, finC, finD, AS.get, AS.mem, false_implies, implies_true, ↓reduceIte, Nat.reduceEqDiff, Option.isSome_some, Option.isSome_none, forall_eq_or_imp, forall_eq, reduceCtorEq, Nat.reduceAdd, Nat.reduceMul, List.zip_cons_cons, List.zip_nil_left, List.zip_nil_right, List.forall_mem_nil, hsub]
            first | done | simp
      · obtain rfl : i = l.length := by omega
        have k1 : decide (((l.length : Nat) : Int) < (l.length : Int)) = false := decide_eq_false (by omega)
        by_cases he : (fillI ask l oc l.length).length = oc.length
        · rw [if_pos he] at hk
          have g1 : ((((fillI ask l oc l.length).length : Int) - (o.length : Int)) == ((oc.length : Int) - (o.length : Int))) = true := by rw [he]; simp
          have hfx := (fillI_fix he).1
          have hx : ∀ (Q : Exit → AS → Prop) s, inBlockA 1 Q (.exit 0) s = Q (.exit 0) s := fun Q s => by simp [inBlockA]
          have hx2 : ∀ (Q : Exit → AS → Prop) s, inBlockA 0 Q (.exit 0) s = Q .normal s := fun Q s => by simp [inBlockA]
          subst hk
          simp only [runA, runB, runC, runD, runE, runF, fieldE, storeE, binE, ↓reduceIte, Nat.reduceLT, Nat.reduceLeDiff, Nat.reduceEqDiff, Nat.reduceAdd, Nat.reduceMul, Nat.reduceSub, reduceCtorEq, putAt, unE, Nat.reduceBEq, convE, buildE, List.replicate, Int.reduceLT, Int.reduceLE, Int.reduceToNat, mkE, mapSetE, hN, hF, ty_3, ty_9, ty_24, ty_25, ty_27, ty_32, ty_33, ty_62, ty_65, ty_68, notIf, isEq, k1, hbl, g1, hx, hx2]
          simp only [runB, finC, finD, Option.isSome_some, Option.isSome_none, ↓reduceIte, Nat.reduceEqDiff, Nat.reduceAdd, Nat.reduceMul, forall_eq_or_imp, forall_eq, implies_true, Nat.reduceBEq, reduceCtorEq, false_implies, List.zip_cons_cons, List.zip_nil_left, List.zip_nil_right, Nat.reduceLeDiff, List.forall_mem_nil, rs_40, ty_3, ty_9, ty_24, ty_25, ty_27, ty_32, ty_33, ty_62, ty_65, ty_68, hfx]
        · rw [if_neg he] at hk
          have g1 : ((((fillI ask l oc l.length).length : Int) - (o.length : Int)) == ((oc.length : Int) - (o.length : Int))) = false := by simp; omega
          have hok2 := fillI_ok (ask := ask) hoc hl l.length (Nat.le_refl _)
          simp only [runA, runB, runC, runD, runE, runF, fieldE, storeE, binE, ↓reduceIte, Nat.reduceLT, Nat.reduceLeDiff, Nat.reduceEqDiff, Nat.reduceAdd, Nat.reduceMul, Nat.reduceSub, reduceCtorEq, putAt, unE, Nat.reduceBEq, convE, buildE, List.replicate, Int.reduceLT, Int.reduceLE, Int.reduceToNat, mkE, mapSetE, hN, hF, ty_3, ty_9, ty_24, ty_25, ty_27, ty_32, ty_33, ty_62, ty_65, ty_68, notIf, isEq, k1, hbl, g1]
          refine ⟨f, _, by omega, ?_, fillI ask l oc l.length, hk, by omega, hok2, by omega, by omega, rfl⟩
          rw [hns]
          simp only [runB, finC, finD, AS.get, AS.mem, false_implies, implies_true, ↓reduceIte, Nat.reduceEqDiff, Option.isSome_some, Option.isSome_none, forall_eq_or_imp, forall_eq, reduceCtorEq, Nat.reduceAdd, Nat.reduceMul, List.zip_cons_cons, List.zip_nil_left, List.zip_nil_right, List.forall_mem_nil]
          first | done | simp

end Go.Proofs.Ytenmlgalcjkdbaa.AM
