/-
  QI: Gu5 Gu6.
-/
import Derived.Test.YtenmlgalcjkdbaaQH
import Derived.Test.YtenmlgalcjkdbaaQD
import Derived.Test.YtenmlgalcjkdbaaQE
set_option linter.unusedVariables false
set_option linter.unusedSimpArgs false
namespace Go.Proofs.Ytenmlgalcjkdbaa.AM
open Go

variable {Γ : FuncId → Contract}


noncomputable def ownT (l : List Blk) : List Blk := ownI l (min 10 l.length)
noncomputable def laid17C : Contract := mkC (α := List Blk) (fun p => okBl p) (fun p => [.c (.sl (brows p))]) (fun p => []) (fun p => ⟨[.newobj [.mp true (esOf (ownT p))], .pv (.c (.sl (brows (ownT p))))], []⟩)
theorem laid17_at (l : List Blk) (g0 : okBl l) : laid17C [.c (.sl (brows l))] [] = some ⟨[.newobj [.mp true (esOf (ownT l))], .pv (.c (.sl (brows (ownT l))))], []⟩ := by
  exact mkC_at (α := List Blk) l g0 (by
    rintro l' _ h ho
    have hh := And.intro h ho
    clear h ho
    simp only [List.cons.injEq, AV.c.injEq, AV.agg.injEq, PC.int.injEq, PC.str.injEq, PC.bool.injEq, PC.sl.injEq, OV.c.injEq, OV.own.injEq, OV.mp.injEq, bytes_iff, texts_iff, true_and, and_true, and_self, beq_self_eq_true, brows_iff] at hh
    simp only [hh])

set_option maxRecDepth 100000 in
set_option maxHeartbeats 4000000 in
theorem laid17_sound (hΓ : SoundG Try.prog Γ) (h1 : Γ 19 = newTC) (h5 : Γ 20 = putTC) : SoundC Try.prog 42 laid17C := by
  refine sound_fn Try.func42 (by kernel_rfl) rfl rfl ?_
  intro args objs r0 hr
  obtain ⟨l, hl, rfl, rfl, rfl⟩ := mkC_inv hr
  refine ⟨rfl, by show 1 ≤ _; decide, fun E hN hns hF => ?_⟩
  refine vc_sound hΓ mixed _ _ _ ?_
  have hN := hN.trans nt_42
  have hl : okBl l := hl
  have hl1 := hl.1
  simp only [runA, runB, runC, runD, runE, runF, fieldE, storeE, binE, ↓reduceIte, Nat.reduceLT, Nat.reduceLeDiff, Nat.reduceEqDiff, Nat.reduceAdd, Nat.reduceMul, Nat.reduceSub, reduceCtorEq, putAt, unE, Nat.reduceBEq, convE, buildE, List.replicate, Int.reduceLT, Int.reduceLE, Int.reduceToNat, mkE, mapSetE, hN, hF, ty_3, ty_9, ty_24, ty_25, ty_27, ty_32, ty_33, notIf, isEq, h1, newT_at]
  refine AWP.loop (fun k st => ∃ (i : Nat) (o : List Blk), i ≤ min 10 l.length ∧ k = min 10 l.length - i ∧ o = ownI l i ∧ ((o = [] ∧ st = ⟨[(0, .c (.sl (brows l))), (4, .ptr 450 0), (5, .nilsl), (6, .c (.int .i64 (i : Int)))], [(450, .obj [.mp 458] false), (458, .mp true [])]⟩) ∨ st = ⟨[(0, .c (.sl (brows l))), (4, .ptr 450 0), (5, .own 1921 9 (brows o)), (6, .c (.int .i64 (i : Int)))], [(450, .obj [.mp 458] false), (458, .mp true (esOf o)), (1921, .row 9 o.length)]⟩)) ⟨min 10 l.length, _, ?w, 0, [], Nat.zero_le _, rfl, rfl, .inl ⟨rfl, rfl⟩⟩ ?r
  case w =>
    rw [hns]
    simp only [runB, finC, finD, AS.get, AS.mem, false_implies, implies_true, ↓reduceIte, Nat.reduceEqDiff, Option.isSome_some, Option.isSome_none, forall_eq_or_imp, forall_eq, reduceCtorEq, Nat.reduceAdd, Nat.reduceMul, List.zip_cons_cons, List.zip_nil_left, List.zip_nil_right, List.forall_mem_nil, esOf_nil]
    first | done | simp
  case r =>
    rintro k st ⟨i, o, hi, rfl, ho, h⟩
    refine vc_sound hΓ mixed _ _ _ ?_
    have e1 : IntKind.i64.wrap ((i : Int) + 1) = (i : Int) + 1 := wrapI (by omega)
    have hol := (ownI_ok hl i (by omega)).1
    rw [← ho] at hol
    have hbo := brows_length o
    by_cases hlt : i < min 10 l.length
    · have k1 : decide ((i : Int) < (l.length : Int)) = true := decide_eq_true (by omega)
      have k2 : decide ((i : Int) < 10) = true := decide_eq_true (by omega)
      have hlt' : i < l.length := by omega
      have hg := browsD l i hlt'
      have hsm := okBl_getD hl hlt'
      have hsucc := ownI_succ hlt'
      rw [← ho] at hsucc
      unfold Blk.pcs at hg
      generalize l.getD i zeroBk = y at hg hsm hsucc
      have q5 := putT_p o y ⟨by omega, by omega⟩
      cases hP : putB' o y with
      | false =>
        have hO : putO o y = o := by unfold putO; rw [hP]; rfl
        rw [hP, hO] at q5
        rw [hO] at hsucc
        rcases h with ⟨rfl, rfl⟩ | rfl
        · rw [esOf_nil] at q5
          simp only [runA, runB, runC, runD, runE, runF, fieldE, storeE, binE, ↓reduceIte, Nat.reduceLT, Nat.reduceLeDiff, Nat.reduceEqDiff, Nat.reduceAdd, Nat.reduceMul, Nat.reduceSub, reduceCtorEq, putAt, unE, Nat.reduceBEq, convE, buildE, List.replicate, Int.reduceLT, Int.reduceLE, Int.reduceToNat, mkE, mapSetE, hN, hF, ty_3, ty_9, ty_24, ty_25, ty_27, ty_32, ty_33, notIf, isEq, k1, k2, e1, hg, h5, q5, brows_length, esOf_nil]
          refine ⟨min 10 l.length - (i + 1), _, by omega, ?_, i + 1, [], by omega, rfl, hsucc.symm, .inl ⟨rfl, rfl⟩⟩
          rw [hns]
          simp only [runB, finC, finD, AS.get, AS.mem, false_implies, implies_true, ↓reduceIte, Nat.reduceEqDiff, Option.isSome_some, Option.isSome_none, forall_eq_or_imp, forall_eq, reduceCtorEq, Nat.reduceAdd, Nat.reduceMul, List.zip_cons_cons, List.zip_nil_left, List.zip_nil_right, List.forall_mem_nil, esOf_nil]
          first | done | simp
        · simp only [runA, runB, runC, runD, runE, runF, fieldE, storeE, binE, ↓reduceIte, Nat.reduceLT, Nat.reduceLeDiff, Nat.reduceEqDiff, Nat.reduceAdd, Nat.reduceMul, Nat.reduceSub, reduceCtorEq, putAt, unE, Nat.reduceBEq, convE, buildE, List.replicate, Int.reduceLT, Int.reduceLE, Int.reduceToNat, mkE, mapSetE, hN, hF, ty_3, ty_9, ty_24, ty_25, ty_27, ty_32, ty_33, notIf, isEq, k1, k2, e1, hg, h5, q5, brows_length]
          refine ⟨min 10 l.length - (i + 1), _, by omega, ?_, i + 1, o, by omega, rfl, hsucc.symm, .inr rfl⟩
          rw [hns]
          simp only [runB, finC, finD, AS.get, AS.mem, false_implies, implies_true, ↓reduceIte, Nat.reduceEqDiff, Option.isSome_some, Option.isSome_none, forall_eq_or_imp, forall_eq, reduceCtorEq, Nat.reduceAdd, Nat.reduceMul, List.zip_cons_cons, List.zip_nil_left, List.zip_nil_right, List.forall_mem_nil]
          first | done | simp
      | true =>
        have hO : putO o y = o ++ [y] := by unfold putO; rw [hP]; rfl
        rw [hP, hO] at q5
        rw [hO] at hsucc
        have hsn := brows_snoc o y
        have hone := brows_one y
        have hrow := rowsOK_brows [y]
        have h1l : (brows [y]).length = 1 := rfl
        rcases h with ⟨rfl, rfl⟩ | rfl
        · rw [esOf_nil] at q5
          rw [List.nil_append] at q5 hsucc
          simp only [runA, runB, runC, runD, runE, runF, fieldE, storeE, binE, ↓reduceIte, Nat.reduceLT, Nat.reduceLeDiff, Nat.reduceEqDiff, Nat.reduceAdd, Nat.reduceMul, Nat.reduceSub, reduceCtorEq, putAt, unE, Nat.reduceBEq, convE, buildE, List.replicate, Int.reduceLT, Int.reduceLE, Int.reduceToNat, mkE, mapSetE, hN, hF, ty_3, ty_9, ty_24, ty_25, ty_27, ty_32, ty_33, notIf, isEq, k1, k2, e1, hg, h5, q5, brows_length, hone, hrow, h1l, esOf_nil]
          refine ⟨min 10 l.length - (i + 1), _, by omega, ?_, i + 1, [y], by omega, rfl, hsucc.symm, .inr rfl⟩
          rw [hns]
          simp only [runB, finC, finD, AS.get, AS.mem, false_implies, implies_true, ↓reduceIte, Nat.reduceEqDiff, Option.isSome_some, Option.isSome_none, forall_eq_or_imp, forall_eq, reduceCtorEq, Nat.reduceAdd, Nat.reduceMul, List.zip_cons_cons, List.zip_nil_left, List.zip_nil_right, List.forall_mem_nil, List.length_cons, List.length_nil, Nat.zero_add]
          first | done | simp
        · have hrow2 : rowsOK 9 [[.int .i64 y.vw, .int .i64 y.ht, .str y.pa, .int .i64 y.ju.vw, .int .i64 y.ju.ht, .str y.ju.bl, .sl (votes y.ju.vs), .sl (trows y.txs), .str y.sig]] := rowsOK_brows [y]
          have hby : (o.length + 1) * 128 ≤ 140737488355328 := by omega
          simp only [runA, runB, runC, runD, runE, runF, fieldE, storeE, binE, ↓reduceIte, Nat.reduceLT, Nat.reduceLeDiff, Nat.reduceEqDiff, Nat.reduceAdd, Nat.reduceMul, Nat.reduceSub, reduceCtorEq, putAt, unE, Nat.reduceBEq, convE, buildE, List.replicate, Int.reduceLT, Int.reduceLE, Int.reduceToNat, mkE, mapSetE, hN, hF, ty_3, ty_9, ty_24, ty_25, ty_27, ty_32, ty_33, notIf, isEq, k1, k2, e1, hg, h5, q5, brows_length, hrow2, hby, hsn]
          refine ⟨min 10 l.length - (i + 1), _, by omega, ?_, i + 1, o ++ [y], by omega, rfl, hsucc.symm, .inr rfl⟩
          rw [hns]
          simp only [runB, finC, finD, AS.get, AS.mem, false_implies, implies_true, ↓reduceIte, Nat.reduceEqDiff, Option.isSome_some, Option.isSome_none, forall_eq_or_imp, forall_eq, reduceCtorEq, Nat.reduceAdd, Nat.reduceMul, List.zip_cons_cons, List.zip_nil_left, List.zip_nil_right, List.forall_mem_nil, List.length_append, List.length_cons, List.length_nil, Nat.zero_add]
          first | done | simp
    · have hii : i = min 10 l.length := by omega
      have hS : ownT l = o := by rw [ho, hii]; rfl
      rw [hS]
      by_cases hll : i < l.length
      · have k1 : decide ((i : Int) < (l.length : Int)) = true := decide_eq_true (by omega)
        have k2 : decide ((i : Int) < 10) = false := decide_eq_false (by omega)
        rcases h with ⟨rfl, rfl⟩ | rfl
        · rw [esOf_nil]
          rw [brows_nil]
          simp only [runA, runB, runC, runD, runE, runF, fieldE, storeE, binE, ↓reduceIte, Nat.reduceLT, Nat.reduceLeDiff, Nat.reduceEqDiff, Nat.reduceAdd, Nat.reduceMul, Nat.reduceSub, reduceCtorEq, putAt, unE, Nat.reduceBEq, convE, buildE, List.replicate, Int.reduceLT, Int.reduceLE, Int.reduceToNat, mkE, mapSetE, hN, hF, ty_3, ty_9, ty_24, ty_25, ty_27, ty_32, ty_33, notIf, isEq, k1, k2, brows_length, esOf_nil]
          simp only [runB, finC, finD, Option.isSome_some, Option.isSome_none, ↓reduceIte, Nat.reduceEqDiff, Nat.reduceAdd, Nat.reduceMul, forall_eq_or_imp, forall_eq, implies_true, Nat.reduceBEq, reduceCtorEq, false_implies, List.zip_cons_cons, List.zip_nil_left, List.zip_nil_right, Nat.reduceLeDiff, List.forall_mem_nil, rs_42, ty_3, ty_9, ty_24, ty_25, ty_27, ty_32, ty_33, esOf_nil]
        · simp only [runA, runB, runC, runD, runE, runF, fieldE, storeE, binE, ↓reduceIte, Nat.reduceLT, Nat.reduceLeDiff, Nat.reduceEqDiff, Nat.reduceAdd, Nat.reduceMul, Nat.reduceSub, reduceCtorEq, putAt, unE, Nat.reduceBEq, convE, buildE, List.replicate, Int.reduceLT, Int.reduceLE, Int.reduceToNat, mkE, mapSetE, hN, hF, ty_3, ty_9, ty_24, ty_25, ty_27, ty_32, ty_33, notIf, isEq, k1, k2, brows_length]
          simp only [runB, finC, finD, Option.isSome_some, Option.isSome_none, ↓reduceIte, Nat.reduceEqDiff, Nat.reduceAdd, Nat.reduceMul, forall_eq_or_imp, forall_eq, implies_true, Nat.reduceBEq, reduceCtorEq, false_implies, List.zip_cons_cons, List.zip_nil_left, List.zip_nil_right, Nat.reduceLeDiff, List.forall_mem_nil, rs_42, ty_3, ty_9, ty_24, ty_25, ty_27, ty_32, ty_33]
      · have k1 : decide ((i : Int) < (l.length : Int)) = false := decide_eq_false (by omega)
        rcases h with ⟨rfl, rfl⟩ | rfl
        · rw [esOf_nil]
          rw [brows_nil]
          simp only [runA, runB, runC, runD, runE, runF, fieldE, storeE, binE, ↓reduceIte, Nat.reduceLT, Nat.reduceLeDiff, Nat.reduceEqDiff, Nat.reduceAdd, Nat.reduceMul, Nat.reduceSub, reduceCtorEq, putAt, unE, Nat.reduceBEq, convE, buildE, List.replicate, Int.reduceLT, Int.reduceLE, Int.reduceToNat, mkE, mapSetE, hN, hF, ty_3, ty_9, ty_24, ty_25, ty_27, ty_32, ty_33, notIf, isEq, k1, brows_length, esOf_nil]
          simp only [runB, finC, finD, Option.isSome_some, Option.isSome_none, ↓reduceIte, Nat.reduceEqDiff, Nat.reduceAdd, Nat.reduceMul, forall_eq_or_imp, forall_eq, implies_true, Nat.reduceBEq, reduceCtorEq, false_implies, List.zip_cons_cons, List.zip_nil_left, List.zip_nil_right, Nat.reduceLeDiff, List.forall_mem_nil, rs_42, ty_3, ty_9, ty_24, ty_25, ty_27, ty_32, ty_33, esOf_nil]
        · simp only [runA, runB, runC, runD, runE, runF, fieldE, storeE, binE, ↓reduceIte, Nat.reduceLT, Nat.reduceLeDiff, Nat.reduceEqDiff, Nat.reduceAdd, Nat.reduceMul, Nat.reduceSub, reduceCtorEq, putAt, unE, Nat.reduceBEq, convE, buildE, List.replicate, Int.reduceLT, Int.reduceLE, Int.reduceToNat, mkE, mapSetE, hN, hF, ty_3, ty_9, ty_24, ty_25, ty_27, ty_32, ty_33, notIf, isEq, k1, brows_length]
          simp only [runB, finC, finD, Option.isSome_some, Option.isSome_none, ↓reduceIte, Nat.reduceEqDiff, Nat.reduceAdd, Nat.reduceMul, forall_eq_or_imp, forall_eq, implies_true, Nat.reduceBEq, reduceCtorEq, false_implies, List.zip_cons_cons, List.zip_nil_left, List.zip_nil_right, Nat.reduceLeDiff, List.forall_mem_nil, rs_42, ty_3, ty_9, ty_24, ty_25, ty_27, ty_32, ty_33]

def alive17C : Contract := fun args objs => match args, objs with | [], [] => some ⟨[.pv (.c (.bool true))], []⟩ | _, _ => none
set_option maxHeartbeats 4000000 in
theorem alive17_sound (hΓ : SoundG Try.prog Γ) (h1 : Γ 65 = begC) (h2 : Γ 66 = entC) : SoundC Try.prog 41 alive17C := by
  refine sound_fn Try.func41 (by kernel_rfl) rfl rfl ?_
  intro args objs r hr
  unfold alive17C at hr
  split at hr
  · cases hr
    refine ⟨rfl, by show 0 ≤ _; decide, fun E hN hns hF => ?_⟩
    refine vc_sound hΓ mixed _ _ _ ?_
    have hN := hN.trans nt_41
    have q1 : begC [] [] = some ⟨[.pv beg.av], []⟩ := rfl
    have q2 := ent_at 0 0 0 [] 0 0 [] 0 0 genS false 0
    have q3 := ent_at 0 0 0 [] 0 0 [] 0 0 genS false 3
    have x2 : entS ⟨0, ⟨0, 0, []⟩, ⟨0, 0, []⟩, ⟨0, 0, genS⟩, false⟩ 0 = beg := rfl
    have x3 : entS ⟨0, ⟨0, 0, []⟩, ⟨0, 0, []⟩, ⟨0, 0, genS⟩, false⟩ 3 = ⟨3, ⟨0, 0, []⟩, ⟨0, 0, []⟩, ⟨0, 0, genS⟩, false⟩ := rfl
    have y2 : decide ((0 : Int) < 0) = false := rfl
    have y3 : decide ((0 : Int) < 3) = true := rfl
    rw [x2] at q2
    rw [x3] at q3
    rw [y2] at q2
    rw [y3] at q3
    unfold beg at q1 q2
    unfold Gs.av at q1 q2 q3
    dsimp only at q1 q2 q3
    have hlg : genS.length = 32 := rfl
    have b1 : ((3 : Int) == 3) = true := rfl
    have b2 : (((32 : Nat) : Int) == 32) = true := rfl
    have nt1 : (!true) = false := rfl
    have ntf : (!false) = true := rfl
    generalize genS = g at q1 q2 q3 hlg
    simp only [runA, runB, runC, runD, runE, runF, fieldE, storeE, binE, ↓reduceIte, Nat.reduceLT, Nat.reduceLeDiff, Nat.reduceEqDiff, Nat.reduceAdd, Nat.reduceMul, Nat.reduceSub, reduceCtorEq, putAt, unE, Nat.reduceBEq, convE, buildE, List.replicate, Int.reduceLT, Int.reduceLE, Int.reduceToNat, mkE, mapSetE, hN, hF, ty_3, ty_4, ty_9, ty_76, ty_78, notIf, isEq, h1, h2, q1, q2, q3, hlg, b1, b2, nt1, ntf]
    simp only [runB, finC, finD, Option.isSome_some, Option.isSome_none, ↓reduceIte, Nat.reduceEqDiff, Nat.reduceAdd, Nat.reduceMul, forall_eq_or_imp, forall_eq, implies_true, Nat.reduceBEq, reduceCtorEq, false_implies, List.zip_cons_cons, List.zip_nil_left, List.zip_nil_right, Nat.reduceLeDiff, List.forall_mem_nil, rs_41, ty_3, ty_4, ty_9, ty_76, ty_78]
  · cases hr

theorem mayV_low {s : Gs} {o : List Blk} {b : Blk} (h : hiM s.lo ⟨b.ju.vw, b.ju.ht, []⟩ = true) : mayV s o b = false := by
  unfold mayV
  have : hiM s.lo ⟨b.ju.vw, b.ju.ht, b.ju.bl⟩ = true := h
  rw [this, if_pos (by simp)]
theorem mayV_sp {s : Gs} {o : List Blk} {b : Blk} (h : s.sp = true) : mayV s o b = false := by
  unfold mayV
  rw [h, if_pos (by simp)]
theorem mayC_sp {s : Gs} {o : List Blk} {m : Mk} (h : s.sp = true) : mayC s o m = false := by
  unfold mayC
  rw [h, if_pos (by simp)]
noncomputable def below17C : Contract := mkC (α := Gs × List Blk × Blk × Mk) (fun p => okBl p.2.1 ∧ p.2.2.1.txs.length ≤ 1048576) (fun p => [p.1.av, .c (.sl (brows p.2.1)), p.2.2.1.av, p.2.2.2.av]) (fun p => []) (fun p => ⟨[.pv (.c (.bool true))], []⟩)
theorem below17_at (svw : Int) (svovw : Int) (svoht : Int) (svobl : List UInt8) (scovw : Int) (scoht : Int) (scobl : List UInt8) (slovw : Int) (sloht : Int) (slobl : List UInt8) (ssp : Bool) (l : List Blk) (bvw : Int) (bht : Int) (bpa : List UInt8) (bjvw : Int) (bjht : Int) (bjbl : List UInt8) (bjvs : List Vt) (btxs : List Txn) (bsig : List UInt8) (mvw : Int) (mht : Int) (mbl : List UInt8) (g0 : okBl l) (g1 : btxs.length ≤ 1048576) : below17C [(.agg [.c (.int .i64 svw), .c (.int .i64 svovw), .c (.int .i64 svoht), .c (.str svobl), .c (.int .i64 scovw), .c (.int .i64 scoht), .c (.str scobl), .c (.int .i64 slovw), .c (.int .i64 sloht), .c (.str slobl), .c (.bool ssp)]), .c (.sl (brows l)), (.agg [.c (.int .i64 bvw), .c (.int .i64 bht), .c (.str bpa), .c (.int .i64 bjvw), .c (.int .i64 bjht), .c (.str bjbl), .c (.sl (votes bjvs)), .c (.sl (trows btxs)), .c (.str bsig)]), (.agg [.c (.int .i64 mvw), .c (.int .i64 mht), .c (.str mbl)])] [] = some ⟨[.pv (.c (.bool true))], []⟩ := by
  exact mkC_at (α := Gs × List Blk × Blk × Mk) (⟨svw, ⟨svovw, svoht, svobl⟩, ⟨scovw, scoht, scobl⟩, ⟨slovw, sloht, slobl⟩, ssp⟩, l, ⟨bvw, bht, bpa, ⟨bjvw, bjht, bjbl, bjvs⟩, btxs, bsig⟩, ⟨mvw, mht, mbl⟩) ⟨g0, g1⟩ (by
    rintro ⟨s', l', b', m'⟩ _ h ho
    have hh := And.intro h ho
    clear h ho
    simp only [List.cons.injEq, AV.c.injEq, AV.agg.injEq, PC.int.injEq, PC.str.injEq, PC.bool.injEq, PC.sl.injEq, OV.c.injEq, OV.own.injEq, OV.mp.injEq, bytes_iff, texts_iff, true_and, and_true, and_self, beq_self_eq_true, Gs.av_iff, brows_iff, Blk.av_iff, Mk.av_iff] at hh
    simp only [hh])

set_option maxRecDepth 100000 in
set_option maxHeartbeats 4000000 in
theorem below17_sound (hΓ : SoundG Try.prog Γ) (h1 : Γ 41 = alive17C) (h2 : Γ 42 = laid17C) (h3 : Γ 43 = rhiC) (h4 : Γ 44 = mvC) (h5 : Γ 45 = mcC) : SoundC Try.prog 10 below17C := by
  refine sound_fn Try.func10 (by kernel_rfl) rfl rfl ?_
  intro args objs r0 hr
  obtain ⟨⟨⟨svw, ⟨v1, v2, v3⟩, ⟨c1, c2, c3⟩, ⟨l1, l2, l3⟩, sp⟩, l, ⟨vw, ht2, pa, ⟨jv, jh, jb, js⟩, txs, sig⟩, ⟨m1, m2, m3⟩⟩, ⟨hl, hb⟩, rfl, rfl, rfl⟩ := mkC_inv hr
  refine ⟨rfl, by show 4 ≤ _; decide, fun E hN hns hF => ?_⟩
  refine vc_sound hΓ mixed _ _ _ ?_
  have hN := hN.trans nt_10
  have hl : okBl l := hl
  have hb : txs.length ≤ 1048576 := hb
  have q0 : alive17C [] [] = some ⟨[.pv (.c (.bool true))], []⟩ := rfl
  have q1 := laid17_at l hl
  have hmin : min 10 l.length ≤ l.length := by omega
  have ht : treeOK (ownT l) := ownI_tree hl hmin
  generalize ownT l = o at q1 ht
  have q3 := rhi_at l1 l2 l3 jv jh []
  have q4 := mv_at svw v1 v2 v3 c1 c2 c3 l1 l2 l3 sp o vw ht2 pa jv jh jb js txs sig ht (by omega)
  have q5 := mv_at svw v1 v2 v3 c1 c2 c3 l1 l2 l3 true o vw ht2 pa jv jh jb js txs sig ht (by omega)
  have q6 := mc_at svw v1 v2 v3 c1 c2 c3 l1 l2 l3 true o m1 m2 m3 ht
  rw [mayV_sp rfl] at q5
  rw [mayC_sp rfl] at q6
  have nt1 : (!true) = false := rfl
  have ntf : (!false) = true := rfl
  have hlow : hiM ⟨l1, l2, l3⟩ ⟨jv, jh, []⟩ = true → mayV (⟨svw, ⟨v1, v2, v3⟩, ⟨c1, c2, c3⟩, ⟨l1, l2, l3⟩, sp⟩ : Gs) o ⟨vw, ht2, pa, ⟨jv, jh, jb, js⟩, txs, sig⟩ = false := fun h => mayV_low h
  unfold Gs.av Blk.av Mk.av
  dsimp only
  generalize esOf o = es at q1 q4 q5 q6
  generalize mayV (⟨svw, ⟨v1, v2, v3⟩, ⟨c1, c2, c3⟩, ⟨l1, l2, l3⟩, sp⟩ : Gs) o ⟨vw, ht2, pa, ⟨jv, jh, jb, js⟩, txs, sig⟩ = v at q4 hlow
  cases hh : hiM ⟨l1, l2, l3⟩ ⟨jv, jh, []⟩ with
  | true =>
    rw [hlow hh] at q4
    rw [hh] at q3
    simp only [runA, runB, runC, runD, runE, runF, fieldE, storeE, binE, ↓reduceIte, Nat.reduceLT, Nat.reduceLeDiff, Nat.reduceEqDiff, Nat.reduceAdd, Nat.reduceMul, Nat.reduceSub, reduceCtorEq, putAt, unE, Nat.reduceBEq, convE, buildE, List.replicate, Int.reduceLT, Int.reduceLE, Int.reduceToNat, mkE, mapSetE, hN, hF, ty_3, ty_4, ty_9, ty_22, ty_24, ty_25, ty_27, ty_32, ty_33, ty_76, ty_78, notIf, isEq, h1, q0, h2, q1, h3, q3, h4, q4, q5, h5, q6, nt1, ntf]
    simp only [runB, finC, finD, Option.isSome_some, Option.isSome_none, ↓reduceIte, Nat.reduceEqDiff, Nat.reduceAdd, Nat.reduceMul, forall_eq_or_imp, forall_eq, implies_true, Nat.reduceBEq, reduceCtorEq, false_implies, List.zip_cons_cons, List.zip_nil_left, List.zip_nil_right, Nat.reduceLeDiff, List.forall_mem_nil, rs_10, ty_3, ty_4, ty_9, ty_22, ty_24, ty_25, ty_27, ty_32, ty_33, ty_76, ty_78]
  | false =>
    rw [hh] at q3
    simp only [runA, runB, runC, runD, runE, runF, fieldE, storeE, binE, ↓reduceIte, Nat.reduceLT, Nat.reduceLeDiff, Nat.reduceEqDiff, Nat.reduceAdd, Nat.reduceMul, Nat.reduceSub, reduceCtorEq, putAt, unE, Nat.reduceBEq, convE, buildE, List.replicate, Int.reduceLT, Int.reduceLE, Int.reduceToNat, mkE, mapSetE, hN, hF, ty_3, ty_4, ty_9, ty_22, ty_24, ty_25, ty_27, ty_32, ty_33, ty_76, ty_78, notIf, isEq, h1, q0, h2, q1, h3, q3, h4, q4, q5, h5, q6, nt1, ntf]
    simp only [runB, finC, finD, Option.isSome_some, Option.isSome_none, ↓reduceIte, Nat.reduceEqDiff, Nat.reduceAdd, Nat.reduceMul, forall_eq_or_imp, forall_eq, implies_true, Nat.reduceBEq, reduceCtorEq, false_implies, List.zip_cons_cons, List.zip_nil_left, List.zip_nil_right, Nat.reduceLeDiff, List.forall_mem_nil, rs_10, ty_3, ty_4, ty_9, ty_22, ty_24, ty_25, ty_27, ty_32, ty_33, ty_76, ty_78]

end Go.Proofs.Ytenmlgalcjkdbaa.AM
set_option linter.unusedVariables false
set_option linter.unusedSimpArgs false
namespace Go.Proofs.Ytenmlgalcjkdbaa.AM
open Go

variable {Γ : FuncId → Contract}

noncomputable def H1 : FuncId → Contract := (ext (ext (ext (ext (ext (ext (ext (ext (ext (ext F8 21 chnC) 24 getTC) 111 nanC) 92 or2C) 43 rhiC) 69 mineC) 68 cmkC) 70 bmkC) 66 entC) 42 laid17C)
theorem H1_sound : SoundG Try.prog H1 := (ext_sound (ext_sound (ext_sound (ext_sound (ext_sound (ext_sound (ext_sound (ext_sound (ext_sound (ext_sound F8_sound (chn_sound F8_sound rfl rfl)) (getT_sound F8_sound rfl rfl)) nan_sound) or2_sound) rhi_sound) mine_sound) cmk_sound) (bmk_sound F8_sound rfl)) ent_sound) (laid17_sound F8_sound rfl rfl))
noncomputable def H2 : FuncId → Contract := (ext (ext (ext H1 93 cmpC) 65 begC) 45 mcC)
theorem H2_sound : SoundG Try.prog H2 := (ext_sound (ext_sound (ext_sound H1_sound (cmp_sound H1_sound rfl)) (beg_sound H1_sound rfl rfl)) (mc_sound H1_sound rfl rfl rfl rfl rfl))
noncomputable def H3 : FuncId → Contract := (ext (ext H2 67 hiC) 41 alive17C)
theorem H3_sound : SoundG Try.prog H3 := (ext_sound (ext_sound H2_sound (hi_sound H2_sound rfl rfl)) (alive17_sound H2_sound rfl rfl))
noncomputable def H4 : FuncId → Contract := (ext H3 44 mvC)
theorem H4_sound : SoundG Try.prog H4 := (ext_sound H3_sound (mv_sound H3_sound rfl rfl rfl rfl rfl rfl))
set_option maxRecDepth 100000 in
theorem bool_cellN {N n : Nat} {c : PC} (h : PTn Try.prog N n 4 [c]) : ∃ v : Bool, c = .bool v := by
  have u3 : Try.prog.underlying 4 = some .bool := by kernel_rfl
  cases n with
  | zero => exact h.elim
  | succ n =>
    simp only [PTn, u3] at h
    obtain ⟨v, hv⟩ := h
    cases hv
    exact ⟨v, rfl⟩
set_option maxRecDepth 100000 in
theorem mk_cells {N n : Nat} {cs : List PC} (hp : PTn Try.prog N n 76 cs) : ∃ t : Mk, cs = t.pcs ∧ t.bl.length ≤ N := by
  obtain ⟨fs0, f0, h01, h02, h03, h04, h05⟩ := tyField_run fd_76_0
  obtain ⟨fs1, f1, h11, h12, h13, h14, h15⟩ := tyField_run fd_76_1
  obtain ⟨fs2, f2, h21, h22, h23, h24, h25⟩ := tyField_run fd_76_2
  rw [h01] at h11 h21
  cases h11
  cases h21
  have hct : Try.prog.cellsOf 76 = 3 := by kernel_rfl
  have hk0 : Try.prog.cellsOf 3 = 1 := by kernel_rfl
  have hk1 : Try.prog.cellsOf 9 = 1 := by kernel_rfl
  cases n with
  | zero => exact hp.elim
  | succ n =>
    simp only [PTn, h01, hct] at hp
    obtain ⟨hl, hf⟩ := hp
    have q0 := hf f0 (List.mem_of_getElem? (i := 0) (by simpa using h02))
    rw [h03, h04, hk0] at q0
    have q1 := hf f1 (List.mem_of_getElem? (i := 1) (by simpa using h12))
    rw [h13, h14, hk0] at q1
    have q2 := hf f2 (List.mem_of_getElem? (i := 2) (by simpa using h22))
    rw [h23, h24, hk1] at q2
    match cs, hl with
    | [c0, c1, c2], _ =>
      obtain ⟨a, rfl⟩ := int_cellN (c := c0) q0
      obtain ⟨b, rfl⟩ := int_cellN (c := c1) q1
      obtain ⟨s, rfl, hs⟩ := str_cellN (c := c2) q2
      exact ⟨⟨a, b, s⟩, rfl, hs⟩
set_option maxRecDepth 100000 in
theorem mk_ofN {N : Nat} {x : AV} (h : AVTn Try.prog N 76 x) : ∃ t : Mk, x = t.av ∧ t.bl.length ≤ N := by
  obtain ⟨n, cs, hp, hx⟩ := h
  obtain ⟨fs, f0, h1, _⟩ := tyField_run fd_76_0
  rw [h1] at hx
  obtain ⟨t, rfl, ht⟩ := mk_cells hp
  exact ⟨t, hx, ht⟩
set_option maxRecDepth 100000 in
theorem gs_cells {N n : Nat} {cs : List PC} (hp : PTn Try.prog N n 78 cs) : ∃ t : Gs, cs = [.int .i64 t.vw, .int .i64 t.vo.vw, .int .i64 t.vo.ht, .str t.vo.bl, .int .i64 t.co.vw, .int .i64 t.co.ht, .str t.co.bl, .int .i64 t.lo.vw, .int .i64 t.lo.ht, .str t.lo.bl, .bool t.sp] := by
  obtain ⟨fs0, f0, h01, h02, h03, h04, h05⟩ := tyField_run fd_78_0
  obtain ⟨fs1, f1, h11, h12, h13, h14, h15⟩ := tyField_run fd_78_1
  obtain ⟨fs2, f2, h21, h22, h23, h24, h25⟩ := tyField_run fd_78_2
  obtain ⟨fs3, f3, h31, h32, h33, h34, h35⟩ := tyField_run fd_78_3
  obtain ⟨fs4, f4, h41, h42, h43, h44, h45⟩ := tyField_run fd_78_4
  rw [h01] at h11 h21 h31 h41
  cases h11
  cases h21
  cases h31
  cases h41
  have hct : Try.prog.cellsOf 78 = 11 := by kernel_rfl
  have hk0 : Try.prog.cellsOf 3 = 1 := by kernel_rfl
  have hk1 : Try.prog.cellsOf 76 = 3 := by kernel_rfl
  have hk2 : Try.prog.cellsOf 4 = 1 := by kernel_rfl
  cases n with
  | zero => exact hp.elim
  | succ n =>
    simp only [PTn, h01, hct] at hp
    obtain ⟨hl, hf⟩ := hp
    have q0 := hf f0 (List.mem_of_getElem? (i := 0) (by simpa using h02))
    rw [h03, h04, hk0] at q0
    have q1 := hf f1 (List.mem_of_getElem? (i := 1) (by simpa using h12))
    rw [h13, h14, hk1] at q1
    have q2 := hf f2 (List.mem_of_getElem? (i := 2) (by simpa using h22))
    rw [h23, h24, hk1] at q2
    have q3 := hf f3 (List.mem_of_getElem? (i := 3) (by simpa using h32))
    rw [h33, h34, hk1] at q3
    have q4 := hf f4 (List.mem_of_getElem? (i := 4) (by simpa using h42))
    rw [h43, h44, hk2] at q4
    match cs, hl with
    | [c0, c1, c2, c3, c4, c5, c6, c7, c8, c9, c10], _ =>
      obtain ⟨a, rfl⟩ := int_cellN (c := c0) q0
      obtain ⟨u, hu, _⟩ := mk_cells (cs := [c1, c2, c3]) q1
      obtain ⟨v, hv, _⟩ := mk_cells (cs := [c4, c5, c6]) q2
      obtain ⟨w, hw, _⟩ := mk_cells (cs := [c7, c8, c9]) q3
      obtain ⟨b, rfl⟩ := bool_cellN (c := c10) q4
      exact ⟨⟨a, u, v, w, b⟩, by obtain ⟨u1, u2, u3⟩ := u; simp only [Mk.pcs, List.cons.injEq, and_true] at hu; obtain ⟨rfl, rfl, rfl⟩ := hu; obtain ⟨v1, v2, v3⟩ := v; simp only [Mk.pcs, List.cons.injEq, and_true] at hv; obtain ⟨rfl, rfl, rfl⟩ := hv; obtain ⟨w1, w2, w3⟩ := w; simp only [Mk.pcs, List.cons.injEq, and_true] at hw; obtain ⟨rfl, rfl, rfl⟩ := hw; rfl⟩
set_option maxRecDepth 100000 in
theorem gs_ofN {N : Nat} {x : AV} (h : AVTn Try.prog N 78 x) : ∃ t : Gs, x = t.av := by
  obtain ⟨n, cs, hp, hx⟩ := h
  obtain ⟨fs, f0, h1, _⟩ := tyField_run fd_78_0
  rw [h1] at hx
  obtain ⟨t, rfl⟩ := gs_cells hp
  exact ⟨t, hx⟩

set_option maxRecDepth 100000 in
theorem guardBelow_lifted (os : Os) (started : os.Started) (H : Type) (enc : TypeId × Value → H) (F : Stop.Interp) :
    ReturnsInHanded {} Try.checked os 10 .any ((Rows.OpenSpec.upto Rows.guardBelowSpec).pre6 enc Try.prog Try.f10 Rows.guardBelowUptoRow.domain false) (((Rows.OpenSpec.upto Rows.guardBelowSpec).at F).post enc Try.prog Try.f10 false true false false) := by
  refine returnsInHanded_of_cond (C := Try.checked) (k := Rows.uptoSmall) rfl ownK started (by kernel_rfl) Try.func10
    (OpenSpec.witness (enc := enc) (C := Try.checked) (k := Rows.uptoSmall) rfl false ⟨#[], #[.agg #[.int .i64 0, .int .i64 0, .int .i64 0, .string ⟨#[]⟩, .int .i64 0, .int .i64 0, .string ⟨#[]⟩, .int .i64 0, .int .i64 0, .string ⟨#[]⟩, .bool false], .slice none 0 0, .agg #[.int .i64 0, .int .i64 0, .string ⟨#[]⟩, .int .i64 0, .int .i64 0, .string ⟨#[]⟩, .slice none 0 0, .slice none 0 0, .string ⟨#[]⟩], .agg #[.int .i64 0, .int .i64 0, .string ⟨#[]⟩]], []⟩ 8 (by kernel_rfl) (by kernel_rfl) (by kernel_rfl) (x := ([.agg [.lit (.int .i64 0), .agg [.lit (.int .i64 0), .lit (.int .i64 0), .lit (.string [])], .agg [.lit (.int .i64 0), .lit (.int .i64 0), .lit (.string [])], .agg [.lit (.int .i64 0), .lit (.int .i64 0), .lit (.string [])], .lit (.bool false)], .nil, .agg [.lit (.int .i64 0), .lit (.int .i64 0), .lit (.string []), .agg [.lit (.int .i64 0), .lit (.int .i64 0), .lit (.string []), .nil], .nil, .lit (.string [])], .agg [.lit (.int .i64 0), .lit (.int .i64 0), .lit (.string [])]], [], [])) (by kernel_rfl) (by kernel_rfl) (by kernel_rfl)) ?_
  intro W base args ds gs before hval hW hcnd hkk _
  refine law_doneN (N := 1048576) laid (below17_sound H4_sound rfl rfl rfl rfl rfl) rfl (ts := [78, 32, 27, 76]) (by kernel_rfl) (tb := 4) (by kernel_rfl) (by kernel_rfl) ?_ ?_ ?_ ?_ hval hW (.inr (bulk_le hkk))
  · intro t ht; simp only [List.mem_cons, List.not_mem_nil, or_false] at ht; rcases ht with rfl | rfl | rfl | rfl <;> kernel_rfl
  · intro t ht; simp only [List.mem_cons, List.not_mem_nil, or_false] at ht; rcases ht with rfl | rfl | rfl | rfl <;> exact ⟨by kernel_rfl, of_decide_eq_true (by kernel_rfl)⟩
  · intro ds hd
    match ds, hd with
    | [a, b, c, d], _ => rfl
  · intro xs hxs
    match xs, hxs with
    | [x, y, z, u], h =>
      obtain ⟨h1, h2, h3, h4, _⟩ := h
      obtain ⟨s, rfl⟩ := gs_ofN h1
      obtain ⟨l, rfl, l1, l2⟩ := bks_ofN h2
      obtain ⟨b, rfl, b1, _⟩ := bk_ofN h3
      obtain ⟨m, rfl, _⟩ := mk_ofN h4
      exact mkC_at (α := Gs × List Blk × Blk × Mk) (s, l, b, m) ⟨⟨l1, l2⟩, b1⟩ (fun _ _ _ _ => rfl)
    | [], h => exact h.elim
    | [_], h => exact h.2.elim
    | [_, _], h => exact h.2.2.elim
    | [_, _, _], h => exact h.2.2.2.elim
    | _ :: _ :: _ :: _ :: _ :: _, h => exact h.2.2.2.2.elim


end Go.Proofs.Ytenmlgalcjkdbaa.AM

namespace Go.Proofs.Ytenmlgalcjkdbaa
open Go

theorem guardBelow_over : Rows.guardBelowUptoRow.holds Try.pinned (Rows.OpenSpec.upto Rows.guardBelowSpec) :=
  OpenClaim.holds_of_cond 10 Try.f10 rfl rfl rfl rfl rfl rfl rfl ⟨rfl, rfl, rfl, rfl, rfl⟩ rfl rfl rfl rfl rfl (by kernel_rfl) Try.func10 (by kernel_rfl)
    (of_decide_eq_true (by kernel_rfl)) (by unfold Func.isWrapper; first | (rw [if_pos (by decide +kernel)]; kernel_rfl) | (rw [if_neg (by decide +kernel)]; exact ⟨rfl, rfl⟩))
    (fun os started H enc _ F => by rw [OpenClaim.pre_of_none' rfl]; exact AM.guardBelow_lifted os started H enc F)

/-- The row. -/
theorem guardBelow_holds : Rows.GuardBelowUptoSaid := guardBelow_over
#print axioms guardBelow_holds
end Go.Proofs.Ytenmlgalcjkdbaa
