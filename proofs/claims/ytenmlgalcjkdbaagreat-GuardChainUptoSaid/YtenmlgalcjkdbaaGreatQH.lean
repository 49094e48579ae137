/-
  QH: Gu1 Gu2 Gu3 Gu4.
-/
import Derived.Test.YtenmlgalcjkdbaaGreatQF
import Derived.Test.YtenmlgalcjkdbaaGreatQG
import Derived.Test.YtenmlgalcjkdbaaGreatQB
set_option linter.unusedVariables false
set_option linter.unusedSimpArgs false
namespace Go.Proofs.YtenmlgalcjkdbaaGreat.AM
open Go

variable {Γ : FuncId → Contract}


structure Gs where
  vw : Int
  vo : Mk
  co : Mk
  lo : Mk
  sp : Bool
def Gs.av (s : Gs) : AV := .agg [.c (.int .i64 s.vw), .c (.int .i64 s.vo.vw), .c (.int .i64 s.vo.ht), .c (.str s.vo.bl), .c (.int .i64 s.co.vw), .c (.int .i64 s.co.ht), .c (.str s.co.bl), .c (.int .i64 s.lo.vw), .c (.int .i64 s.lo.ht), .c (.str s.lo.bl), .c (.bool s.sp)]
theorem Gs.av_inj {a b : Gs} (h : a.av = b.av) : a = b := by
  obtain ⟨a0, ⟨a1, a2, a3⟩, ⟨a4, a5, a6⟩, ⟨a7, a8, a9⟩, aa⟩ := a
  obtain ⟨b0, ⟨b1, b2, b3⟩, ⟨b4, b5, b6⟩, ⟨b7, b8, b9⟩, ba⟩ := b
  simp only [Gs.av, AV.agg.injEq, List.cons.injEq, AV.c.injEq, PC.str.injEq, PC.int.injEq, PC.bool.injEq, true_and, and_true] at h
  obtain ⟨rfl, rfl, rfl, rfl, rfl, rfl, rfl, rfl, rfl, rfl, rfl⟩ := h
  rfl
theorem Gs.av_iff {a b : Gs} : a.av = b.av ↔ a = b := ⟨Gs.av_inj, fun h => by rw [h]⟩
def cmpI (a b : Int) : Int := if a < b then -1 else if b < a then 1 else 0
def orI (a b : Int) : Int := if a = 0 then b else a
def hiM (a b : Mk) : Bool := decide (b.vw < a.vw) || ((a.vw == b.vw) && decide (b.ht < a.ht))
def mineM (s : Gs) (m : Mk) : Bool := !(m.bl == []) && (decide (0 < m.ht) && (m.vw == s.vw))
theorem cmpI_lt {a b : Int} (h : a < b) : cmpI a b = -1 := if_pos h
theorem cmpI_eq {a b : Int} (h : a = b) : cmpI a b = 0 := by unfold cmpI; rw [if_neg (by omega), if_neg (by omega)]
theorem cmpI_gt {a b : Int} (h : b < a) : cmpI a b = 1 := by unfold cmpI; rw [if_neg (by omega), if_pos h]
theorem hi_or (a b : Mk) : decide (orI (cmpI a.vw b.vw) (cmpI a.ht b.ht) > 0) = hiM a b := by
  unfold hiM
  rcases Int.lt_trichotomy a.vw b.vw with h | h | h
  · rw [cmpI_lt h, decide_eq_false (show ¬ b.vw < a.vw by omega), show (a.vw == b.vw) = false from beq_eq_false_iff_ne.2 (by omega)]
    rfl
  · rw [cmpI_eq h, decide_eq_false (show ¬ b.vw < a.vw by omega), show (a.vw == b.vw) = true from beq_iff_eq.2 h]
    rcases Int.lt_trichotomy a.ht b.ht with k | k | k
    · rw [cmpI_lt k, decide_eq_false (show ¬ b.ht < a.ht by omega)]
      rfl
    · rw [cmpI_eq k, decide_eq_false (show ¬ b.ht < a.ht by omega)]
      rfl
    · rw [cmpI_gt k, decide_eq_true k]
      rfl
  · rw [cmpI_gt h, decide_eq_true h]
    rfl
noncomputable def nanC : Contract := mkC (α := Int) (fun p => True) (fun p => [.c (.int .i64 p)]) (fun p => []) (fun p => ⟨[.pv (.c (.bool false))], []⟩)
theorem nan_at (x : Int) : nanC [.c (.int .i64 x)] [] = some ⟨[.pv (.c (.bool false))], []⟩ := by
  exact mkC_at (α := Int) x trivial (by
    rintro x' _ h ho
    have hh := And.intro h ho
    clear h ho
    simp only [List.cons.injEq, AV.c.injEq, AV.agg.injEq, PC.int.injEq, PC.str.injEq, PC.bool.injEq, PC.sl.injEq, OV.c.injEq, OV.own.injEq, OV.mp.injEq, bytes_iff, texts_iff, true_and, and_true, and_self, beq_self_eq_true] at hh
    simp only [hh])

set_option maxRecDepth 100000 in
set_option maxHeartbeats 4000000 in
theorem nan_sound  : SoundC Tryz.prog 192 nanC := by
  refine sound_fn Tryz.func192 (by kernel_rfl) rfl rfl ?_
  intro args objs r0 hr
  obtain ⟨x, _, rfl, rfl, rfl⟩ := mkC_inv hr
  refine ⟨rfl, by show 1 ≤ _; decide, fun E hN hns hF => ?_⟩
  refine vc_sound none0_sound mixed _ _ _ ?_
  have hN := hN.trans nt_192
  have g0 : (x != x) = false := by simp
  simp only [runA, runB, runC, runD, runE, runF, fieldE, storeE, binE, ↓reduceIte, Nat.reduceLT, Nat.reduceLeDiff, Nat.reduceEqDiff, Nat.reduceAdd, Nat.reduceMul, Nat.reduceSub, reduceCtorEq, putAt, unE, Nat.reduceBEq, convE, buildE, List.replicate, Int.reduceLT, Int.reduceLE, Int.reduceToNat, mkE, mapSetE, hN, hF, ty_3, ty_4, notIf, isEq, g0]
  simp only [runB, finC, finD, Option.isSome_some, Option.isSome_none, ↓reduceIte, Nat.reduceEqDiff, Nat.reduceAdd, Nat.reduceMul, forall_eq_or_imp, forall_eq, implies_true, Nat.reduceBEq, reduceCtorEq, false_implies, List.zip_cons_cons, List.zip_nil_left, List.zip_nil_right, Nat.reduceLeDiff, List.forall_mem_nil, rs_192, ty_3, ty_4]
noncomputable def cmpC : Contract := mkC (α := Int × Int) (fun p => True) (fun p => [.c (.int .i64 p.1), .c (.int .i64 p.2)]) (fun p => []) (fun p => ⟨[.pv (.c (.int .i64 (cmpI p.1 p.2)))], []⟩)
theorem cmp_at (x : Int) (y : Int) : cmpC [.c (.int .i64 x), .c (.int .i64 y)] [] = some ⟨[.pv (.c (.int .i64 (cmpI x y)))], []⟩ := by
  exact mkC_at (α := Int × Int) (x, y) trivial (by
    rintro ⟨x', y'⟩ _ h ho
    have hh := And.intro h ho
    clear h ho
    simp only [List.cons.injEq, AV.c.injEq, AV.agg.injEq, PC.int.injEq, PC.str.injEq, PC.bool.injEq, PC.sl.injEq, OV.c.injEq, OV.own.injEq, OV.mp.injEq, bytes_iff, texts_iff, true_and, and_true, and_self, beq_self_eq_true] at hh
    simp only [hh])

set_option maxRecDepth 100000 in
set_option maxHeartbeats 4000000 in
theorem cmp_sound (hΓ : SoundG Tryz.prog Γ) (h1 : Γ 192 = nanC) : SoundC Tryz.prog 134 cmpC := by
  refine sound_fn Tryz.func134 (by kernel_rfl) rfl rfl ?_
  intro args objs r0 hr
  obtain ⟨⟨x, y⟩, _, rfl, rfl, rfl⟩ := mkC_inv hr
  refine ⟨rfl, by show 2 ≤ _; decide, fun E hN hns hF => ?_⟩
  refine vc_sound hΓ mixed _ _ _ ?_
  have hN := hN.trans nt_134
  have q1 := nan_at x
  have q2 := nan_at y
  dsimp only
  unfold cmpI
  rcases Int.lt_trichotomy x y with h | h | h
  · have k1 : decide (x < y) = true := decide_eq_true h
    rw [if_pos h]
    simp only [runA, runB, runC, runD, runE, runF, fieldE, storeE, binE, ↓reduceIte, Nat.reduceLT, Nat.reduceLeDiff, Nat.reduceEqDiff, Nat.reduceAdd, Nat.reduceMul, Nat.reduceSub, reduceCtorEq, putAt, unE, Nat.reduceBEq, convE, buildE, List.replicate, Int.reduceLT, Int.reduceLE, Int.reduceToNat, mkE, mapSetE, hN, hF, ty_3, notIf, isEq, h1, q1, q2, k1]
    simp only [runB, finC, finD, Option.isSome_some, Option.isSome_none, ↓reduceIte, Nat.reduceEqDiff, Nat.reduceAdd, Nat.reduceMul, forall_eq_or_imp, forall_eq, implies_true, Nat.reduceBEq, reduceCtorEq, false_implies, List.zip_cons_cons, List.zip_nil_left, List.zip_nil_right, Nat.reduceLeDiff, List.forall_mem_nil, rs_134, ty_3]
  · have k1 : decide (x < y) = false := decide_eq_false (by omega)
    have k2 : decide (x > y) = false := decide_eq_false (by omega)
    rw [if_neg (by omega), if_neg (by omega)]
    simp only [runA, runB, runC, runD, runE, runF, fieldE, storeE, binE, ↓reduceIte, Nat.reduceLT, Nat.reduceLeDiff, Nat.reduceEqDiff, Nat.reduceAdd, Nat.reduceMul, Nat.reduceSub, reduceCtorEq, putAt, unE, Nat.reduceBEq, convE, buildE, List.replicate, Int.reduceLT, Int.reduceLE, Int.reduceToNat, mkE, mapSetE, hN, hF, ty_3, notIf, isEq, h1, q1, q2, k1, k2]
    simp only [runB, finC, finD, Option.isSome_some, Option.isSome_none, ↓reduceIte, Nat.reduceEqDiff, Nat.reduceAdd, Nat.reduceMul, forall_eq_or_imp, forall_eq, implies_true, Nat.reduceBEq, reduceCtorEq, false_implies, List.zip_cons_cons, List.zip_nil_left, List.zip_nil_right, Nat.reduceLeDiff, List.forall_mem_nil, rs_134, ty_3]
  · have k1 : decide (x < y) = false := decide_eq_false (by omega)
    have k2 : decide (x > y) = true := decide_eq_true (by omega)
    rw [if_neg (by omega), if_pos h]
    simp only [runA, runB, runC, runD, runE, runF, fieldE, storeE, binE, ↓reduceIte, Nat.reduceLT, Nat.reduceLeDiff, Nat.reduceEqDiff, Nat.reduceAdd, Nat.reduceMul, Nat.reduceSub, reduceCtorEq, putAt, unE, Nat.reduceBEq, convE, buildE, List.replicate, Int.reduceLT, Int.reduceLE, Int.reduceToNat, mkE, mapSetE, hN, hF, ty_3, notIf, isEq, h1, q1, q2, k1, k2]
    simp only [runB, finC, finD, Option.isSome_some, Option.isSome_none, ↓reduceIte, Nat.reduceEqDiff, Nat.reduceAdd, Nat.reduceMul, forall_eq_or_imp, forall_eq, implies_true, Nat.reduceBEq, reduceCtorEq, false_implies, List.zip_cons_cons, List.zip_nil_left, List.zip_nil_right, Nat.reduceLeDiff, List.forall_mem_nil, rs_134, ty_3]
noncomputable def or2C : Contract := mkC (α := Int × Int) (fun p => True) (fun p => [.c (.sl [[.int .i64 p.1], [.int .i64 p.2]])]) (fun p => []) (fun p => ⟨[.pv (.c (.int .i64 (orI p.1 p.2)))], []⟩)
theorem or2_at (x : Int) (y : Int) : or2C [.c (.sl [[.int .i64 x], [.int .i64 y]])] [] = some ⟨[.pv (.c (.int .i64 (orI x y)))], []⟩ := by
  exact mkC_at (α := Int × Int) (x, y) trivial (by
    rintro ⟨x', y'⟩ _ h ho
    have hh := And.intro h ho
    clear h ho
    simp only [List.cons.injEq, AV.c.injEq, AV.agg.injEq, PC.int.injEq, PC.str.injEq, PC.bool.injEq, PC.sl.injEq, OV.c.injEq, OV.own.injEq, OV.mp.injEq, bytes_iff, texts_iff, true_and, and_true, and_self, beq_self_eq_true] at hh
    simp only [hh])

set_option maxRecDepth 100000 in
set_option maxHeartbeats 4000000 in
theorem or2_sound  : SoundC Tryz.prog 133 or2C := by
  refine sound_fn Tryz.func133 (by kernel_rfl) rfl rfl ?_
  intro args objs r0 hr
  obtain ⟨⟨x, y⟩, _, rfl, rfl, rfl⟩ := mkC_inv hr
  refine ⟨rfl, by show 1 ≤ _; decide, fun E hN hns hF => ?_⟩
  refine vc_sound none0_sound mixed _ _ _ ?_
  have hN := hN.trans nt_133
  dsimp only
  have e1 : IntKind.i64.wrap ((0 : Int) + 1) = 1 := rfl
  have e2 : IntKind.i64.wrap ((1 : Int) + 1) = 2 := rfl
  have d0 : decide ((0 : Int) < 2) = true := rfl
  have d1 : decide ((1 : Int) < 2) = true := rfl
  have d2 : decide ((2 : Int) < 2) = false := rfl
  simp only [runA, runB, runC, runD, runE, runF, fieldE, storeE, binE, ↓reduceIte, Nat.reduceLT, Nat.reduceLeDiff, Nat.reduceEqDiff, Nat.reduceAdd, Nat.reduceMul, Nat.reduceSub, reduceCtorEq, putAt, unE, Nat.reduceBEq, convE, buildE, List.replicate, Int.reduceLT, Int.reduceLE, Int.reduceToNat, mkE, mapSetE, hN, hF, ty_3, ty_69, notIf, isEq, List.length_cons, List.length_nil]
  refine AWP.loop (fun k st => (k = 2 ∧ st = ⟨[(0, .c (.sl [[.int .i64 x], [.int .i64 y]])), (6, .c (.sl [[.int .i64 x], [.int .i64 y]])), (7, .c (.int .i64 2)), (3, .c (.int .i64 0)), (8, .c (.int .i64 0))], []⟩) ∨ (k = 1 ∧ x = 0 ∧ st = ⟨[(0, .c (.sl [[.int .i64 x], [.int .i64 y]])), (6, .c (.sl [[.int .i64 x], [.int .i64 y]])), (7, .c (.int .i64 2)), (3, .c (.int .i64 0)), (8, .c (.int .i64 1))], []⟩) ∨ (k = 0 ∧ x = 0 ∧ y = 0 ∧ st = ⟨[(0, .c (.sl [[.int .i64 x], [.int .i64 y]])), (6, .c (.sl [[.int .i64 x], [.int .i64 y]])), (7, .c (.int .i64 2)), (3, .c (.int .i64 0)), (8, .c (.int .i64 2))], []⟩)) ⟨2, _, ?w, .inl ⟨rfl, rfl⟩⟩ ?r
  case w =>
    rw [hns]
    simp only [runB, finC, finD, AS.get, AS.mem, false_implies, implies_true, ↓reduceIte, Nat.reduceEqDiff, Option.isSome_some, Option.isSome_none, forall_eq_or_imp, forall_eq, reduceCtorEq, Nat.reduceAdd, Nat.reduceMul, List.zip_cons_cons, List.zip_nil_left, List.zip_nil_right, List.forall_mem_nil]
    first | done | simp
  case r =>
    rintro k st (⟨rfl, rfl⟩ | ⟨rfl, rfl, rfl⟩ | ⟨rfl, rfl, rfl, rfl⟩)
    · refine vc_sound none0_sound mixed _ _ _ ?_
      by_cases h : x = 0
      · subst h
        have g0 : ((0 : Int) != 0) = false := rfl
        simp only [runA, runB, runC, runD, runE, runF, fieldE, storeE, binE, ↓reduceIte, Nat.reduceLT, Nat.reduceLeDiff, Nat.reduceEqDiff, Nat.reduceAdd, Nat.reduceMul, Nat.reduceSub, reduceCtorEq, putAt, unE, Nat.reduceBEq, convE, buildE, List.replicate, Int.reduceLT, Int.reduceLE, Int.reduceToNat, mkE, mapSetE, hN, hF, ty_3, ty_69, notIf, isEq, List.length_cons, List.length_nil, d0, e1, g0, Nat.zero_add]
        refine ⟨1, _, by omega, ?_, .inr (.inl ⟨rfl, rfl⟩)⟩
        rw [hns]
        simp only [runB, finC, finD, AS.get, AS.mem, false_implies, implies_true, ↓reduceIte, Nat.reduceEqDiff, Option.isSome_some, Option.isSome_none, forall_eq_or_imp, forall_eq, reduceCtorEq, Nat.reduceAdd, Nat.reduceMul, List.zip_cons_cons, List.zip_nil_left, List.zip_nil_right, List.forall_mem_nil]
        first | done | simp
      · have g0 : (x != 0) = true := by simp [h]
        have hr : orI x y = x := if_neg h
        rw [hr]
        simp only [runA, runB, runC, runD, runE, runF, fieldE, storeE, binE, ↓reduceIte, Nat.reduceLT, Nat.reduceLeDiff, Nat.reduceEqDiff, Nat.reduceAdd, Nat.reduceMul, Nat.reduceSub, reduceCtorEq, putAt, unE, Nat.reduceBEq, convE, buildE, List.replicate, Int.reduceLT, Int.reduceLE, Int.reduceToNat, mkE, mapSetE, hN, hF, ty_3, ty_69, notIf, isEq, List.length_cons, List.length_nil, d0, e1, g0, Nat.zero_add]
        simp only [runB, finC, finD, Option.isSome_some, Option.isSome_none, ↓reduceIte, Nat.reduceEqDiff, Nat.reduceAdd, Nat.reduceMul, forall_eq_or_imp, forall_eq, implies_true, Nat.reduceBEq, reduceCtorEq, false_implies, List.zip_cons_cons, List.zip_nil_left, List.zip_nil_right, Nat.reduceLeDiff, List.forall_mem_nil, rs_133, ty_3, ty_69]
    · refine vc_sound none0_sound mixed _ _ _ ?_
      have hr : orI 0 y = y := rfl
      rw [hr]
      by_cases h : y = 0
      · subst h
        have g0 : ((0 : Int) != 0) = false := rfl
        simp only [runA, runB, runC, runD, runE, runF, fieldE, storeE, binE, ↓reduceIte, Nat.reduceLT, Nat.reduceLeDiff, Nat.reduceEqDiff, Nat.reduceAdd, Nat.reduceMul, Nat.reduceSub, reduceCtorEq, putAt, unE, Nat.reduceBEq, convE, buildE, List.replicate, Int.reduceLT, Int.reduceLE, Int.reduceToNat, mkE, mapSetE, hN, hF, ty_3, ty_69, notIf, isEq, List.length_cons, List.length_nil, d1, e2, g0, Nat.zero_add]
        refine ⟨0, _, by omega, ?_, .inr (.inr ⟨rfl, rfl⟩)⟩
        rw [hns]
        simp only [runB, finC, finD, AS.get, AS.mem, false_implies, implies_true, ↓reduceIte, Nat.reduceEqDiff, Option.isSome_some, Option.isSome_none, forall_eq_or_imp, forall_eq, reduceCtorEq, Nat.reduceAdd, Nat.reduceMul, List.zip_cons_cons, List.zip_nil_left, List.zip_nil_right, List.forall_mem_nil]
        first | done | simp
      · have g0 : (y != 0) = true := by simp [h]
        simp only [runA, runB, runC, runD, runE, runF, fieldE, storeE, binE, ↓reduceIte, Nat.reduceLT, Nat.reduceLeDiff, Nat.reduceEqDiff, Nat.reduceAdd, Nat.reduceMul, Nat.reduceSub, reduceCtorEq, putAt, unE, Nat.reduceBEq, convE, buildE, List.replicate, Int.reduceLT, Int.reduceLE, Int.reduceToNat, mkE, mapSetE, hN, hF, ty_3, ty_69, notIf, isEq, List.length_cons, List.length_nil, d1, e2, g0, Nat.zero_add]
        simp only [runB, finC, finD, Option.isSome_some, Option.isSome_none, ↓reduceIte, Nat.reduceEqDiff, Nat.reduceAdd, Nat.reduceMul, forall_eq_or_imp, forall_eq, implies_true, Nat.reduceBEq, reduceCtorEq, false_implies, List.zip_cons_cons, List.zip_nil_left, List.zip_nil_right, Nat.reduceLeDiff, List.forall_mem_nil, rs_133, ty_3, ty_69]
    · refine vc_sound none0_sound mixed _ _ _ ?_
      have hr : orI 0 0 = 0 := rfl
      rw [hr]
      simp only [runA, runB, runC, runD, runE, runF, fieldE, storeE, binE, ↓reduceIte, Nat.reduceLT, Nat.reduceLeDiff, Nat.reduceEqDiff, Nat.reduceAdd, Nat.reduceMul, Nat.reduceSub, reduceCtorEq, putAt, unE, Nat.reduceBEq, convE, buildE, List.replicate, Int.reduceLT, Int.reduceLE, Int.reduceToNat, mkE, mapSetE, hN, hF, ty_3, ty_69, notIf, isEq, List.length_cons, List.length_nil, d2]
      simp only [runB, finC, finD, Option.isSome_some, Option.isSome_none, ↓reduceIte, Nat.reduceEqDiff, Nat.reduceAdd, Nat.reduceMul, forall_eq_or_imp, forall_eq, implies_true, Nat.reduceBEq, reduceCtorEq, false_implies, List.zip_cons_cons, List.zip_nil_left, List.zip_nil_right, Nat.reduceLeDiff, List.forall_mem_nil, rs_133, ty_3, ty_69]

end Go.Proofs.YtenmlgalcjkdbaaGreat.AM
set_option linter.unusedVariables false
set_option linter.unusedSimpArgs false
namespace Go.Proofs.YtenmlgalcjkdbaaGreat.AM
open Go

variable {Γ : FuncId → Contract}

noncomputable def hiC : Contract := mkC (α := Mk × Mk) (fun p => True) (fun p => [p.1.av, p.2.av]) (fun p => []) (fun p => ⟨[.pv (.c (.bool (hiM p.1 p.2)))], []⟩)
theorem hi_at (avw : Int) (aht : Int) (abl : List UInt8) (bvw : Int) (bht : Int) (bbl : List UInt8) : hiC [(.agg [.c (.int .i64 avw), .c (.int .i64 aht), .c (.str abl)]), (.agg [.c (.int .i64 bvw), .c (.int .i64 bht), .c (.str bbl)])] [] = some ⟨[.pv (.c (.bool (hiM (⟨avw, aht, abl⟩ : Mk) (⟨bvw, bht, bbl⟩ : Mk))))], []⟩ := by
  exact mkC_at (α := Mk × Mk) (⟨avw, aht, abl⟩, ⟨bvw, bht, bbl⟩) trivial (by
    rintro ⟨a', b'⟩ _ h ho
    have hh := And.intro h ho
    clear h ho
    simp only [List.cons.injEq, AV.c.injEq, AV.agg.injEq, PC.int.injEq, PC.str.injEq, PC.bool.injEq, PC.sl.injEq, OV.c.injEq, OV.own.injEq, OV.mp.injEq, bytes_iff, texts_iff, true_and, and_true, and_self, beq_self_eq_true, Mk.av_iff] at hh
    simp only [hh])

set_option maxRecDepth 100000 in
set_option maxHeartbeats 4000000 in
theorem hi_sound (hΓ : SoundG Tryz.prog Γ) (h1 : Γ 134 = cmpC) (h2 : Γ 133 = or2C) : SoundC Tryz.prog 82 hiC := by
  refine sound_fn Tryz.func82 (by kernel_rfl) rfl rfl ?_
  intro args objs r0 hr
  obtain ⟨⟨⟨a1, a2, a3⟩, ⟨b1, b2, b3⟩⟩, _, rfl, rfl, rfl⟩ := mkC_inv hr
  refine ⟨rfl, by show 2 ≤ _; decide, fun E hN hns hF => ?_⟩
  refine vc_sound hΓ mixed _ _ _ ?_
  have hN := hN.trans nt_82
  have q1 := cmp_at a1 b1
  have q2 := cmp_at a2 b2
  have q3 := or2_at (cmpI a1 b1) (cmpI a2 b2)
  have hh := hi_or ⟨a1, a2, a3⟩ ⟨b1, b2, b3⟩
  dsimp only at hh
  unfold Mk.av
  dsimp only
  simp only [runA, runB, runC, runD, runE, runF, fieldE, storeE, binE, ↓reduceIte, Nat.reduceLT, Nat.reduceLeDiff, Nat.reduceEqDiff, Nat.reduceAdd, Nat.reduceMul, Nat.reduceSub, reduceCtorEq, putAt, unE, Nat.reduceBEq, convE, buildE, List.replicate, Int.reduceLT, Int.reduceLE, Int.reduceToNat, mkE, mapSetE, hN, hF, ty_3, ty_4, ty_9, ty_69, ty_74, notIf, isEq, h1, h2, q1, q2, q3, hh]
  refine drawnP_intro (by kernel_rfl) (by kernel_rfl) ?_
  simp only [runA, runB, runC, runD, runE, runF, fieldE, storeE, binE, ↓reduceIte, Nat.reduceLT, Nat.reduceLeDiff, Nat.reduceEqDiff, Nat.reduceAdd, Nat.reduceMul, Nat.reduceSub, reduceCtorEq, putAt, unE, Nat.reduceBEq, convE, buildE, List.replicate, Int.reduceLT, Int.reduceLE, Int.reduceToNat, mkE, mapSetE, hN, hF, ty_3, ty_4, ty_9, ty_69, ty_74, notIf, isEq, h1, h2, q1, q2, q3, hh]
  simp only [runB, finC, finD, Option.isSome_some, Option.isSome_none, ↓reduceIte, Nat.reduceEqDiff, Nat.reduceAdd, Nat.reduceMul, forall_eq_or_imp, forall_eq, implies_true, Nat.reduceBEq, reduceCtorEq, false_implies, List.zip_cons_cons, List.zip_nil_left, List.zip_nil_right, Nat.reduceLeDiff, List.forall_mem_nil, rs_82, ty_3, ty_4, ty_9, ty_69, ty_74]
noncomputable def rhiC : Contract := mkC (α := Mk × Mk) (fun p => True) (fun p => [p.1.av, p.2.av]) (fun p => []) (fun p => ⟨[.pv (.c (.bool (hiM p.1 p.2)))], []⟩)
theorem rhi_at (avw : Int) (aht : Int) (abl : List UInt8) (bvw : Int) (bht : Int) (bbl : List UInt8) : rhiC [(.agg [.c (.int .i64 avw), .c (.int .i64 aht), .c (.str abl)]), (.agg [.c (.int .i64 bvw), .c (.int .i64 bht), .c (.str bbl)])] [] = some ⟨[.pv (.c (.bool (hiM (⟨avw, aht, abl⟩ : Mk) (⟨bvw, bht, bbl⟩ : Mk))))], []⟩ := by
  exact mkC_at (α := Mk × Mk) (⟨avw, aht, abl⟩, ⟨bvw, bht, bbl⟩) trivial (by
    rintro ⟨a', b'⟩ _ h ho
    have hh := And.intro h ho
    clear h ho
    simp only [List.cons.injEq, AV.c.injEq, AV.agg.injEq, PC.int.injEq, PC.str.injEq, PC.bool.injEq, PC.sl.injEq, OV.c.injEq, OV.own.injEq, OV.mp.injEq, bytes_iff, texts_iff, true_and, and_true, and_self, beq_self_eq_true, Mk.av_iff] at hh
    simp only [hh])

noncomputable def mineC : Contract := mkC (α := Gs × Mk) (fun p => True) (fun p => [p.1.av, p.2.av]) (fun p => []) (fun p => ⟨[.pv (.c (.bool (mineM p.1 p.2)))], []⟩)
theorem mine_at (svw : Int) (svovw : Int) (svoht : Int) (svobl : List UInt8) (scovw : Int) (scoht : Int) (scobl : List UInt8) (slovw : Int) (sloht : Int) (slobl : List UInt8) (ssp : Bool) (mvw : Int) (mht : Int) (mbl : List UInt8) : mineC [(.agg [.c (.int .i64 svw), .c (.int .i64 svovw), .c (.int .i64 svoht), .c (.str svobl), .c (.int .i64 scovw), .c (.int .i64 scoht), .c (.str scobl), .c (.int .i64 slovw), .c (.int .i64 sloht), .c (.str slobl), .c (.bool ssp)]), (.agg [.c (.int .i64 mvw), .c (.int .i64 mht), .c (.str mbl)])] [] = some ⟨[.pv (.c (.bool (mineM (⟨svw, ⟨svovw, svoht, svobl⟩, ⟨scovw, scoht, scobl⟩, ⟨slovw, sloht, slobl⟩, ssp⟩ : Gs) (⟨mvw, mht, mbl⟩ : Mk))))], []⟩ := by
  exact mkC_at (α := Gs × Mk) (⟨svw, ⟨svovw, svoht, svobl⟩, ⟨scovw, scoht, scobl⟩, ⟨slovw, sloht, slobl⟩, ssp⟩, ⟨mvw, mht, mbl⟩) trivial (by
    rintro ⟨s', m'⟩ _ h ho
    have hh := And.intro h ho
    clear h ho
    simp only [List.cons.injEq, AV.c.injEq, AV.agg.injEq, PC.int.injEq, PC.str.injEq, PC.bool.injEq, PC.sl.injEq, OV.c.injEq, OV.own.injEq, OV.mp.injEq, bytes_iff, texts_iff, true_and, and_true, and_self, beq_self_eq_true, Gs.av_iff, Mk.av_iff] at hh
    simp only [hh])

set_option maxRecDepth 100000 in
set_option maxHeartbeats 4000000 in
theorem mine_sound  : SoundC Tryz.prog 84 mineC := by
  refine sound_fn Tryz.func84 (by kernel_rfl) rfl rfl ?_
  intro args objs r0 hr
  obtain ⟨⟨⟨svw, ⟨v1, v2, v3⟩, ⟨c1, c2, c3⟩, ⟨l1, l2, l3⟩, sp⟩, ⟨m1, m2, m3⟩⟩, _, rfl, rfl, rfl⟩ := mkC_inv hr
  refine ⟨rfl, by show 2 ≤ _; decide, fun E hN hns hF => ?_⟩
  refine vc_sound none0_sound mixed _ _ _ ?_
  have hN := hN.trans nt_84
  have hh : mineM ⟨svw, ⟨v1, v2, v3⟩, ⟨c1, c2, c3⟩, ⟨l1, l2, l3⟩, sp⟩ ⟨m1, m2, m3⟩ = (!(m3 == []) && (decide (m2 > 0) && (m1 == svw))) := rfl
  unfold Mk.av Gs.av
  dsimp only
  rw [hh]
  cases k1 : m3 == [] with
  | true =>
    simp only [runA, runB, runC, runD, runE, runF, fieldE, storeE, binE, ↓reduceIte, Nat.reduceLT, Nat.reduceLeDiff, Nat.reduceEqDiff, Nat.reduceAdd, Nat.reduceMul, Nat.reduceSub, reduceCtorEq, putAt, unE, Nat.reduceBEq, convE, buildE, List.replicate, Int.reduceLT, Int.reduceLE, Int.reduceToNat, mkE, mapSetE, hN, hF, ty_3, ty_4, ty_9, ty_74, ty_78, notIf, isEq, k1, Bool.not_true]
    simp only [runB, finC, finD, Option.isSome_some, Option.isSome_none, ↓reduceIte, Nat.reduceEqDiff, Nat.reduceAdd, Nat.reduceMul, forall_eq_or_imp, forall_eq, implies_true, Nat.reduceBEq, reduceCtorEq, false_implies, List.zip_cons_cons, List.zip_nil_left, List.zip_nil_right, Nat.reduceLeDiff, List.forall_mem_nil, rs_84, ty_3, ty_4, ty_9, ty_74, ty_78, Bool.not_true, Bool.false_and]
  | false =>
    cases k2 : decide (m2 > 0) with
    | false =>
      simp only [runA, runB, runC, runD, runE, runF, fieldE, storeE, binE, ↓reduceIte, Nat.reduceLT, Nat.reduceLeDiff, Nat.reduceEqDiff, Nat.reduceAdd, Nat.reduceMul, Nat.reduceSub, reduceCtorEq, putAt, unE, Nat.reduceBEq, convE, buildE, List.replicate, Int.reduceLT, Int.reduceLE, Int.reduceToNat, mkE, mapSetE, hN, hF, ty_3, ty_4, ty_9, ty_74, ty_78, notIf, isEq, k1, k2, Bool.not_false]
      simp only [runB, finC, finD, Option.isSome_some, Option.isSome_none, ↓reduceIte, Nat.reduceEqDiff, Nat.reduceAdd, Nat.reduceMul, forall_eq_or_imp, forall_eq, implies_true, Nat.reduceBEq, reduceCtorEq, false_implies, List.zip_cons_cons, List.zip_nil_left, List.zip_nil_right, Nat.reduceLeDiff, List.forall_mem_nil, rs_84, ty_3, ty_4, ty_9, ty_74, ty_78, Bool.not_false, Bool.true_and, Bool.false_and]
    | true =>
      simp only [runA, runB, runC, runD, runE, runF, fieldE, storeE, binE, ↓reduceIte, Nat.reduceLT, Nat.reduceLeDiff, Nat.reduceEqDiff, Nat.reduceAdd, Nat.reduceMul, Nat.reduceSub, reduceCtorEq, putAt, unE, Nat.reduceBEq, convE, buildE, List.replicate, Int.reduceLT, Int.reduceLE, Int.reduceToNat, mkE, mapSetE, hN, hF, ty_3, ty_4, ty_9, ty_74, ty_78, notIf, isEq, k1, k2, Bool.not_false]
      simp only [runB, finC, finD, Option.isSome_some, Option.isSome_none, ↓reduceIte, Nat.reduceEqDiff, Nat.reduceAdd, Nat.reduceMul, forall_eq_or_imp, forall_eq, implies_true, Nat.reduceBEq, reduceCtorEq, false_implies, List.zip_cons_cons, List.zip_nil_left, List.zip_nil_right, Nat.reduceLeDiff, List.forall_mem_nil, rs_84, ty_3, ty_4, ty_9, ty_74, ty_78, Bool.not_false, Bool.true_and]
noncomputable def cmkC : Contract := mkC (α := Ct) (fun p => True) (fun p => [p.av]) (fun p => []) (fun p => ⟨[.pv (Mk.av ⟨p.vw, p.ht, p.bl⟩)], []⟩)
theorem cmk_at (cvw : Int) (cht : Int) (cbl : List UInt8) (cvs : List Vt) : cmkC [(.agg [.c (.int .i64 cvw), .c (.int .i64 cht), .c (.str cbl), .c (.sl (votes cvs))])] [] = some ⟨[.pv (Mk.av ⟨cvw, cht, cbl⟩)], []⟩ := by
  exact mkC_at (α := Ct) ⟨cvw, cht, cbl, cvs⟩ trivial (by
    rintro c' _ h ho
    have hh := And.intro h ho
    clear h ho
    simp only [List.cons.injEq, AV.c.injEq, AV.agg.injEq, PC.int.injEq, PC.str.injEq, PC.bool.injEq, PC.sl.injEq, OV.c.injEq, OV.own.injEq, OV.mp.injEq, bytes_iff, texts_iff, true_and, and_true, and_self, beq_self_eq_true, Ct.av_iff] at hh
    simp only [hh])

set_option maxRecDepth 100000 in
set_option maxHeartbeats 4000000 in
theorem cmk_sound  : SoundC Tryz.prog 80 cmkC := by
  refine sound_fn Tryz.func80 (by kernel_rfl) rfl rfl ?_
  intro args objs r0 hr
  obtain ⟨⟨a1, a2, a3, a4⟩, _, rfl, rfl, rfl⟩ := mkC_inv hr
  refine ⟨rfl, by show 1 ≤ _; decide, fun E hN hns hF => ?_⟩
  refine vc_sound none0_sound mixed _ _ _ ?_
  have hN := hN.trans nt_80
  unfold Ct.av Mk.av
  dsimp only
  simp only [runA, runB, runC, runD, runE, runF, fieldE, storeE, binE, ↓reduceIte, Nat.reduceLT, Nat.reduceLeDiff, Nat.reduceEqDiff, Nat.reduceAdd, Nat.reduceMul, Nat.reduceSub, reduceCtorEq, putAt, unE, Nat.reduceBEq, convE, buildE, List.replicate, Int.reduceLT, Int.reduceLE, Int.reduceToNat, mkE, mapSetE, hN, hF, ty_3, ty_9, ty_29, ty_31, ty_74, notIf, isEq]
  simp only [runB, finC, finD, Option.isSome_some, Option.isSome_none, ↓reduceIte, Nat.reduceEqDiff, Nat.reduceAdd, Nat.reduceMul, forall_eq_or_imp, forall_eq, implies_true, Nat.reduceBEq, reduceCtorEq, false_implies, List.zip_cons_cons, List.zip_nil_left, List.zip_nil_right, Nat.reduceLeDiff, List.forall_mem_nil, rs_80, ty_3, ty_9, ty_29, ty_31, ty_74]
noncomputable def bmkC : Contract := mkC (α := Blk) (fun p => p.txs.length ≤ 9223372036854775807) (fun p => [p.av]) (fun p => []) (fun p => ⟨[.pv (Mk.av ⟨p.vw, p.ht, nameS p⟩)], []⟩)
theorem bmk_at (bvw : Int) (bht : Int) (bpa : List UInt8) (bjvw : Int) (bjht : Int) (bjbl : List UInt8) (bjvs : List Vt) (btxs : List Txn) (bsig : List UInt8) (g0 : btxs.length ≤ 9223372036854775807) : bmkC [(.agg [.c (.int .i64 bvw), .c (.int .i64 bht), .c (.str bpa), .c (.int .i64 bjvw), .c (.int .i64 bjht), .c (.str bjbl), .c (.sl (votes bjvs)), .c (.sl (trows btxs)), .c (.str bsig)])] [] = some ⟨[.pv (Mk.av ⟨bvw, bht, nameS (⟨bvw, bht, bpa, ⟨bjvw, bjht, bjbl, bjvs⟩, btxs, bsig⟩ : Blk)⟩)], []⟩ := by
  exact mkC_at (α := Blk) ⟨bvw, bht, bpa, ⟨bjvw, bjht, bjbl, bjvs⟩, btxs, bsig⟩ g0 (by
    rintro b' _ h ho
    have hh := And.intro h ho
    clear h ho
    simp only [List.cons.injEq, AV.c.injEq, AV.agg.injEq, PC.int.injEq, PC.str.injEq, PC.bool.injEq, PC.sl.injEq, OV.c.injEq, OV.own.injEq, OV.mp.injEq, bytes_iff, texts_iff, true_and, and_true, and_self, beq_self_eq_true, Blk.av_iff] at hh
    simp only [hh])

set_option maxRecDepth 100000 in
set_option maxHeartbeats 4000000 in
theorem bmk_sound (hΓ : SoundG Tryz.prog Γ) (h1 : Γ 16 = bkNC) : SoundC Tryz.prog 87 bmkC := by
  refine sound_fn Tryz.func87 (by kernel_rfl) rfl rfl ?_
  intro args objs r0 hr
  obtain ⟨⟨vw, ht, pa, ⟨jv, jh, jb, js⟩, txs, sig⟩, hl, rfl, rfl, rfl⟩ := mkC_inv hr
  refine ⟨rfl, by show 1 ≤ _; decide, fun E hN hns hF => ?_⟩
  refine vc_sound hΓ mixed _ _ _ ?_
  have hN := hN.trans nt_87
  have q1 := bkN_at vw ht pa jv jh jb js txs sig hl
  unfold Blk.av Mk.av
  dsimp only
  generalize nameS ⟨vw, ht, pa, ⟨jv, jh, jb, js⟩, txs, sig⟩ = nm at q1 ⊢
  simp only [runA, runB, runC, runD, runE, runF, fieldE, storeE, binE, ↓reduceIte, Nat.reduceLT, Nat.reduceLeDiff, Nat.reduceEqDiff, Nat.reduceAdd, Nat.reduceMul, Nat.reduceSub, reduceCtorEq, putAt, unE, Nat.reduceBEq, convE, buildE, List.replicate, Int.reduceLT, Int.reduceLE, Int.reduceToNat, mkE, mapSetE, hN, hF, ty_3, ty_9, ty_22, ty_31, ty_33, ty_74, notIf, isEq, h1, q1]
  refine drawnP_intro (by kernel_rfl) (by kernel_rfl) ?_
  simp only [runA, runB, runC, runD, runE, runF, fieldE, storeE, binE, ↓reduceIte, Nat.reduceLT, Nat.reduceLeDiff, Nat.reduceEqDiff, Nat.reduceAdd, Nat.reduceMul, Nat.reduceSub, reduceCtorEq, putAt, unE, Nat.reduceBEq, convE, buildE, List.replicate, Int.reduceLT, Int.reduceLE, Int.reduceToNat, mkE, mapSetE, hN, hF, ty_3, ty_9, ty_22, ty_31, ty_33, ty_74, notIf, isEq, h1, q1]
  simp only [runB, finC, finD, Option.isSome_some, Option.isSome_none, ↓reduceIte, Nat.reduceEqDiff, Nat.reduceAdd, Nat.reduceMul, forall_eq_or_imp, forall_eq, implies_true, Nat.reduceBEq, reduceCtorEq, false_implies, List.zip_cons_cons, List.zip_nil_left, List.zip_nil_right, Nat.reduceLeDiff, List.forall_mem_nil, rs_87, ty_3, ty_9, ty_22, ty_31, ty_33, ty_74]
def beg : Gs := ⟨0, ⟨0, 0, []⟩, ⟨0, 0, []⟩, ⟨0, 0, genS⟩, false⟩
def begC : Contract := fun args objs => match args, objs with | [], [] => some ⟨[.pv beg.av], []⟩ | _, _ => none
set_option maxHeartbeats 1000000 in
theorem beg_sound (hΓ : SoundG Tryz.prog Γ) (h1 : Γ 81 = cfirstC) (h2 : Γ 80 = cmkC) : SoundC Tryz.prog 33 begC := by
  refine sound_fn Tryz.func33 (by kernel_rfl) rfl rfl ?_
  intro args objs r hr
  unfold begC at hr
  split at hr
  · cases hr
    refine ⟨rfl, by show 0 ≤ _; decide, fun E hN hns hF => ?_⟩
    refine vc_sound hΓ mixed _ _ _ ?_
    have hN := hN.trans nt_33
    have q1 : cfirstC [] [] = some ⟨[.pv (.agg [.c (.int .i64 0), .c (.int .i64 0), .c (.str genS), .c (.sl [])])], []⟩ := rfl
    have q2 := cmk_at 0 0 genS []
    unfold Mk.av at q2
    rw [votes_nil] at q2
    dsimp only at q2
    unfold Gs.av beg
    dsimp only
    generalize genS = g at q1 q2 ⊢
    simp only [runA, runB, runC, runD, runE, runF, fieldE, storeE, binE, ↓reduceIte, Nat.reduceLT, Nat.reduceLeDiff, Nat.reduceEqDiff, Nat.reduceAdd, Nat.reduceMul, Nat.reduceSub, reduceCtorEq, putAt, unE, Nat.reduceBEq, convE, buildE, List.replicate, Int.reduceLT, Int.reduceLE, Int.reduceToNat, mkE, mapSetE, hN, hF, ty_3, ty_4, ty_9, ty_29, ty_31, ty_74, ty_78, notIf, isEq, h1, h2, q1, q2]
    simp only [runB, finC, finD, Option.isSome_some, Option.isSome_none, ↓reduceIte, Nat.reduceEqDiff, Nat.reduceAdd, Nat.reduceMul, forall_eq_or_imp, forall_eq, implies_true, Nat.reduceBEq, reduceCtorEq, false_implies, List.zip_cons_cons, List.zip_nil_left, List.zip_nil_right, Nat.reduceLeDiff, List.forall_mem_nil, rs_33, ty_3, ty_4, ty_9, ty_29, ty_31, ty_74, ty_78]
  · cases hr
def entS (s : Gs) (v : Int) : Gs := if v ≤ s.vw then s else { s with vw := v, sp := false }
noncomputable def entC : Contract := mkC (α := Gs × Int) (fun p => True) (fun p => [p.1.av, .c (.int .i64 p.2)]) (fun p => []) (fun p => ⟨[.pv (Gs.av (entS p.1 p.2)), .pv (.c (.bool (decide (p.1.vw < p.2))))], []⟩)
theorem ent_at (svw : Int) (svovw : Int) (svoht : Int) (svobl : List UInt8) (scovw : Int) (scoht : Int) (scobl : List UInt8) (slovw : Int) (sloht : Int) (slobl : List UInt8) (ssp : Bool) (v : Int) : entC [(.agg [.c (.int .i64 svw), .c (.int .i64 svovw), .c (.int .i64 svoht), .c (.str svobl), .c (.int .i64 scovw), .c (.int .i64 scoht), .c (.str scobl), .c (.int .i64 slovw), .c (.int .i64 sloht), .c (.str slobl), .c (.bool ssp)]), .c (.int .i64 v)] [] = some ⟨[.pv (Gs.av (entS (⟨svw, ⟨svovw, svoht, svobl⟩, ⟨scovw, scoht, scobl⟩, ⟨slovw, sloht, slobl⟩, ssp⟩ : Gs) v)), .pv (.c (.bool (decide (svw < v))))], []⟩ := by
  exact mkC_at (α := Gs × Int) (⟨svw, ⟨svovw, svoht, svobl⟩, ⟨scovw, scoht, scobl⟩, ⟨slovw, sloht, slobl⟩, ssp⟩, v) trivial (by
    rintro ⟨s', v'⟩ _ h ho
    have hh := And.intro h ho
    clear h ho
    simp only [List.cons.injEq, AV.c.injEq, AV.agg.injEq, PC.int.injEq, PC.str.injEq, PC.bool.injEq, PC.sl.injEq, OV.c.injEq, OV.own.injEq, OV.mp.injEq, bytes_iff, texts_iff, true_and, and_true, and_self, beq_self_eq_true, Gs.av_iff] at hh
    simp only [hh])

set_option maxRecDepth 100000 in
set_option maxHeartbeats 4000000 in
theorem ent_sound  : SoundC Tryz.prog 79 entC := by
  refine sound_fn Tryz.func79 (by kernel_rfl) rfl rfl ?_
  intro args objs r0 hr
  obtain ⟨⟨⟨svw, ⟨v1, v2, v3⟩, ⟨c1, c2, c3⟩, ⟨l1, l2, l3⟩, sp⟩, v⟩, _, rfl, rfl, rfl⟩ := mkC_inv hr
  refine ⟨rfl, by show 2 ≤ _; decide, fun E hN hns hF => ?_⟩
  refine vc_sound none0_sound mixed _ _ _ ?_
  have hN := hN.trans nt_79
  unfold entS Gs.av
  dsimp only
  by_cases h : v ≤ svw
  · have k1 : decide (v ≤ svw) = true := decide_eq_true h
    have k2 : decide (svw < v) = false := decide_eq_false (by omega)
    rw [if_pos h, k2]
    simp only [runA, runB, runC, runD, runE, runF, fieldE, storeE, binE, ↓reduceIte, Nat.reduceLT, Nat.reduceLeDiff, Nat.reduceEqDiff, Nat.reduceAdd, Nat.reduceMul, Nat.reduceSub, reduceCtorEq, putAt, unE, Nat.reduceBEq, convE, buildE, List.replicate, Int.reduceLT, Int.reduceLE, Int.reduceToNat, mkE, mapSetE, hN, hF, ty_3, ty_4, ty_74, ty_78, notIf, isEq, k1]
    simp only [runB, finC, finD, Option.isSome_some, Option.isSome_none, ↓reduceIte, Nat.reduceEqDiff, Nat.reduceAdd, Nat.reduceMul, forall_eq_or_imp, forall_eq, implies_true, Nat.reduceBEq, reduceCtorEq, false_implies, List.zip_cons_cons, List.zip_nil_left, List.zip_nil_right, Nat.reduceLeDiff, List.forall_mem_nil, rs_79, ty_3, ty_4, ty_74, ty_78]
  · have k1 : decide (v ≤ svw) = false := decide_eq_false h
    have k2 : decide (svw < v) = true := decide_eq_true (by omega)
    rw [if_neg h, k2]
    simp only [runA, runB, runC, runD, runE, runF, fieldE, storeE, binE, ↓reduceIte, Nat.reduceLT, Nat.reduceLeDiff, Nat.reduceEqDiff, Nat.reduceAdd, Nat.reduceMul, Nat.reduceSub, reduceCtorEq, putAt, unE, Nat.reduceBEq, convE, buildE, List.replicate, Int.reduceLT, Int.reduceLE, Int.reduceToNat, mkE, mapSetE, hN, hF, ty_3, ty_4, ty_74, ty_78, notIf, isEq, k1]
    simp only [runB, finC, finD, Option.isSome_some, Option.isSome_none, ↓reduceIte, Nat.reduceEqDiff, Nat.reduceAdd, Nat.reduceMul, forall_eq_or_imp, forall_eq, implies_true, Nat.reduceBEq, reduceCtorEq, false_implies, List.zip_cons_cons, List.zip_nil_left, List.zip_nil_right, Nat.reduceLeDiff, List.forall_mem_nil, rs_79, ty_3, ty_4, ty_74, ty_78]

end Go.Proofs.YtenmlgalcjkdbaaGreat.AM
set_option linter.unusedVariables false
set_option linter.unusedSimpArgs false
namespace Go.Proofs.YtenmlgalcjkdbaaGreat.AM
open Go

variable {Γ : FuncId → Contract}


theorem eqg_mk : Tryz.prog.eqGuardType Tryz.prog.depth 74 = false := by kernel_rfl
theorem eq_mk (a b : Mk) : eqE Tryz.prog 10000 74 [.int .i64 a.vw, .int .i64 a.ht, .str a.bl] [.int .i64 b.vw, .int .i64 b.ht, .str b.bl] = some (decide (a = b)) := by
  have h : eqE Tryz.prog 10000 74 [.int .i64 a.vw, .int .i64 a.ht, .str a.bl] [.int .i64 b.vw, .int .i64 b.ht, .str b.bl] = some ((a.vw == b.vw) && ((a.ht == b.ht) && ((a.bl == b.bl) && true))) := by kernel_rfl
  refine h.trans (congrArg some ?_)
  obtain ⟨a1, a2, a3⟩ := a
  obtain ⟨b1, b2, b3⟩ := b
  rw [Bool.eq_iff_iff, decide_eq_true_iff, Mk.mk.injEq, Bool.and_eq_true, Bool.and_eq_true, Bool.and_eq_true, beq_iff_eq, beq_iff_eq, beq_iff_eq]
  exact ⟨fun ⟨x, y, z, _⟩ => ⟨x, y, z⟩, fun ⟨x, y, z⟩ => ⟨x, y, z, rfl⟩⟩
noncomputable def mayE (s : Gs) (o : List Blk) (n : List UInt8) (m : Mk) : Bool := !(mineM s m && !extS o n m.bl)
noncomputable def mayV (s : Gs) (o : List Blk) (b : Blk) : Bool :=
  if (b.vw != s.vw) || (s.sp || hiM s.lo ⟨b.ju.vw, b.ju.ht, b.ju.bl⟩) then false
  else if !(walkS o (nameS b)).2 || (mineM s s.vo && decide (b.ht ≤ s.vo.ht)) then false
  else mayE s o (nameS b) s.vo && (mayE s o (nameS b) s.co && mayE s o (nameS b) s.lo)
noncomputable def mayC (s : Gs) (o : List Blk) (m : Mk) : Bool :=
  if !(atB o m.bl).isSome || ((m.vw != s.vw) || (s.sp || !decide ((⟨(gotB o m.bl).vw, (gotB o m.bl).ht, nameS (gotB o m.bl)⟩ : Mk) = m))) then false
  else if !(walkS o m.bl).2 then false
  else if mineM s s.co && (decide (m.ht ≤ s.co.ht) || !extS o m.bl s.co.bl) then false
  else !mineM s s.vo || (extS o m.bl s.vo.bl || extS o s.vo.bl m.bl)
noncomputable def mvC : Contract := mkC (α := Gs × List Blk × Blk) (fun p => treeOK p.2.1 ∧ p.2.2.txs.length ≤ 9223372036854775807) (fun p => [p.1.av, .ptr 6400000 0, p.2.2.av]) (fun p => [[.mp true (esOf p.2.1)]]) (fun p => ⟨[.pv (.c (.bool (mayV p.1 p.2.1 p.2.2)))], [[.mp true (esOf p.2.1)]]⟩)
theorem mv_at (svw : Int) (svovw : Int) (svoht : Int) (svobl : List UInt8) (scovw : Int) (scoht : Int) (scobl : List UInt8) (slovw : Int) (sloht : Int) (slobl : List UInt8) (ssp : Bool) (o : List Blk) (bvw : Int) (bht : Int) (bpa : List UInt8) (bjvw : Int) (bjht : Int) (bjbl : List UInt8) (bjvs : List Vt) (btxs : List Txn) (bsig : List UInt8) (g0 : treeOK o) (g1 : btxs.length ≤ 9223372036854775807) : mvC [(.agg [.c (.int .i64 svw), .c (.int .i64 svovw), .c (.int .i64 svoht), .c (.str svobl), .c (.int .i64 scovw), .c (.int .i64 scoht), .c (.str scobl), .c (.int .i64 slovw), .c (.int .i64 sloht), .c (.str slobl), .c (.bool ssp)]), .ptr 6400000 0, (.agg [.c (.int .i64 bvw), .c (.int .i64 bht), .c (.str bpa), .c (.int .i64 bjvw), .c (.int .i64 bjht), .c (.str bjbl), .c (.sl (votes bjvs)), .c (.sl (trows btxs)), .c (.str bsig)])] [[.mp true (esOf o)]] = some ⟨[.pv (.c (.bool (mayV (⟨svw, ⟨svovw, svoht, svobl⟩, ⟨scovw, scoht, scobl⟩, ⟨slovw, sloht, slobl⟩, ssp⟩ : Gs) o (⟨bvw, bht, bpa, ⟨bjvw, bjht, bjbl, bjvs⟩, btxs, bsig⟩ : Blk))))], [[.mp true (esOf o)]]⟩ := by
  exact mkC_at (α := Gs × List Blk × Blk) (⟨svw, ⟨svovw, svoht, svobl⟩, ⟨scovw, scoht, scobl⟩, ⟨slovw, sloht, slobl⟩, ssp⟩, o, ⟨bvw, bht, bpa, ⟨bjvw, bjht, bjbl, bjvs⟩, btxs, bsig⟩) ⟨g0, g1⟩ (by
    rintro ⟨s', o', b'⟩ _ h ho
    have hh := And.intro h ho
    clear h ho
    simp only [List.cons.injEq, AV.c.injEq, AV.agg.injEq, PC.int.injEq, PC.str.injEq, PC.bool.injEq, PC.sl.injEq, OV.c.injEq, OV.own.injEq, OV.mp.injEq, bytes_iff, texts_iff, true_and, and_true, and_self, beq_self_eq_true, Gs.av_iff, Blk.av_iff, esOf_iff] at hh
    simp only [hh])

set_option maxRecDepth 100000 in
set_option maxHeartbeats 4000000 in
theorem mv_sound (hΓ : SoundG Tryz.prog Γ) (h1 : Γ 16 = bkNC) (h2 : Γ 80 = cmkC) (h3 : Γ 82 = hiC) (h4 : Γ 83 = chnC) (h5 : Γ 84 = mineC) (h6 : Γ 85 = exdC) : SoundC Tryz.prog 35 mvC := by
  refine sound_fn Tryz.func35 (by kernel_rfl) rfl rfl ?_
  intro args objs r0 hr
  obtain ⟨⟨⟨svw, ⟨v1, v2, v3⟩, ⟨c1, c2, c3⟩, ⟨l1, l2, l3⟩, sp⟩, o, ⟨vw, ht, pa, ⟨jv, jh, jb, js⟩, txs, sig⟩⟩, ⟨ho, hl⟩, rfl, rfl, rfl⟩ := mkC_inv hr
  refine ⟨rfl, by show 3 ≤ _; decide, fun E hN hns hF => ?_⟩
  refine vc_sound hΓ mixed _ _ _ ?_
  have hN := hN.trans nt_35
  have ho : treeOK o := ho
  have q1 := bkN_at vw ht pa jv jh jb js txs sig hl
  have q2 := cmk_at jv jh jb js
  have q3 := hi_at l1 l2 l3 jv jh jb
  have hM : mayV (⟨svw, ⟨v1, v2, v3⟩, ⟨c1, c2, c3⟩, ⟨l1, l2, l3⟩, sp⟩ : Gs) o ⟨vw, ht, pa, ⟨jv, jh, jb, js⟩, txs, sig⟩ = (if (vw != svw) || (sp || hiM ⟨l1, l2, l3⟩ ⟨jv, jh, jb⟩) then false else if !(walkS o (nameS ⟨vw, ht, pa, ⟨jv, jh, jb, js⟩, txs, sig⟩)).2 || (mineM (⟨svw, ⟨v1, v2, v3⟩, ⟨c1, c2, c3⟩, ⟨l1, l2, l3⟩, sp⟩ : Gs) ⟨v1, v2, v3⟩ && decide (ht ≤ v2)) then false else mayE (⟨svw, ⟨v1, v2, v3⟩, ⟨c1, c2, c3⟩, ⟨l1, l2, l3⟩, sp⟩ : Gs) o (nameS ⟨vw, ht, pa, ⟨jv, jh, jb, js⟩, txs, sig⟩) ⟨v1, v2, v3⟩ && (mayE (⟨svw, ⟨v1, v2, v3⟩, ⟨c1, c2, c3⟩, ⟨l1, l2, l3⟩, sp⟩ : Gs) o (nameS ⟨vw, ht, pa, ⟨jv, jh, jb, js⟩, txs, sig⟩) ⟨c1, c2, c3⟩ && mayE (⟨svw, ⟨v1, v2, v3⟩, ⟨c1, c2, c3⟩, ⟨l1, l2, l3⟩, sp⟩ : Gs) o (nameS ⟨vw, ht, pa, ⟨jv, jh, jb, js⟩, txs, sig⟩) ⟨l1, l2, l3⟩)) := rfl
  dsimp only
  rw [hM]
  generalize nameS ⟨vw, ht, pa, ⟨jv, jh, jb, js⟩, txs, sig⟩ = nm at q1 ⊢
  have q4 := chn_at o nm ho
  have q5v := mine_at svw v1 v2 v3 c1 c2 c3 l1 l2 l3 sp v1 v2 v3
  have q5c := mine_at svw v1 v2 v3 c1 c2 c3 l1 l2 l3 sp c1 c2 c3
  have q5l := mine_at svw v1 v2 v3 c1 c2 c3 l1 l2 l3 sp l1 l2 l3
  have q6v := exd_at o nm v3 ho
  have q6c := exd_at o nm c3 ho
  have q6l := exd_at o nm l3 ho
  unfold mayE
  dsimp only
  unfold Mk.av at q2
  dsimp only at q2
  unfold Gs.av Blk.av
  dsimp only
  generalize hiM ⟨l1, l2, l3⟩ ⟨jv, jh, jb⟩ = bh at q3 ⊢
  generalize mineM (⟨svw, ⟨v1, v2, v3⟩, ⟨c1, c2, c3⟩, ⟨l1, l2, l3⟩, sp⟩ : Gs) ⟨v1, v2, v3⟩ = mv at q5v ⊢
  generalize mineM (⟨svw, ⟨v1, v2, v3⟩, ⟨c1, c2, c3⟩, ⟨l1, l2, l3⟩, sp⟩ : Gs) ⟨c1, c2, c3⟩ = mc at q5c ⊢
  generalize mineM (⟨svw, ⟨v1, v2, v3⟩, ⟨c1, c2, c3⟩, ⟨l1, l2, l3⟩, sp⟩ : Gs) ⟨l1, l2, l3⟩ = ml at q5l ⊢
  generalize extS o nm v3 = ev at q6v ⊢
  generalize extS o nm c3 = ec at q6c ⊢
  generalize extS o nm l3 = el at q6l ⊢
  generalize (walkS o nm).2 = wk at q4 ⊢
  generalize brows (walkS o nm).1.reverse = wl at q4
  generalize esOf o = es at q4 q6v q6c q6l ⊢
  have nt1 : (!true) = false := rfl
  have ntf : (!false) = true := rfl
  have d0 : decide ((0 : Int) < 3) = true := rfl
  have d1 : decide ((1 : Int) < 3) = true := rfl
  have d2 : decide ((2 : Int) < 3) = true := rfl
  have d3 : decide ((3 : Int) < 3) = false := rfl
  have j0 : ((0 : Int) < ((3 : Nat) : Int)) = True := by simp
  have j1 : ((1 : Int) < ((3 : Nat) : Int)) = True := by simp
  have j2 : ((2 : Int) < ((3 : Nat) : Int)) = True := by simp
  have e0 : IntKind.i64.wrap ((0 : Int) + 1) = 1 := rfl
  have e1 : IntKind.i64.wrap ((1 : Int) + 1) = 2 := rfl
  have e2 : IntKind.i64.wrap ((2 : Int) + 1) = 3 := rfl
  obtain ⟨A1, hA1⟩ : ∃ A1 : Prop, A1 ↔ (mv && !ev) = false := ⟨_, Iff.rfl⟩
  obtain ⟨A2, hA2⟩ : ∃ A2 : Prop, A2 ↔ (mc && !ec) = false := ⟨_, Iff.rfl⟩
  obtain ⟨A3, hA3⟩ : ∃ A3 : Prop, A3 ↔ (ml && !el) = false := ⟨_, Iff.rfl⟩
  obtain ⟨R, hR⟩ : ∃ R, R = (!(mv && !ev) && (!(mc && !ec) && !(ml && !el))) := ⟨_, rfl⟩
  rw [← hR]
  cases k1 : vw != svw with
  | true =>
    rw [Bool.true_or, if_pos rfl]
    simp only [runA, runB, runC, runD, runE, runF, fieldE, storeE, binE, ↓reduceIte, Nat.reduceLT, Nat.reduceLeDiff, Nat.reduceEqDiff, Nat.reduceAdd, Nat.reduceMul, Nat.reduceSub, reduceCtorEq, putAt, unE, Nat.reduceBEq, convE, buildE, List.replicate, Int.reduceLT, Int.reduceLE, Int.reduceToNat, mkE, mapSetE, hN, hF, ty_3, ty_4, ty_9, ty_22, ty_29, ty_31, ty_33, ty_59, ty_74, ty_78, ty_140, notIf, isEq, h1, q1, h2, q2, h3, q3, h4, q4, h5, q5v, q5c, q5l, h6, q6v, q6c, q6l, k1, nt1, ntf]
    refine drawnP_intro (by kernel_rfl) (by kernel_rfl) ?_
    simp only [runA, runB, runC, runD, runE, runF, fieldE, storeE, binE, ↓reduceIte, Nat.reduceLT, Nat.reduceLeDiff, Nat.reduceEqDiff, Nat.reduceAdd, Nat.reduceMul, Nat.reduceSub, reduceCtorEq, putAt, unE, Nat.reduceBEq, convE, buildE, List.replicate, Int.reduceLT, Int.reduceLE, Int.reduceToNat, mkE, mapSetE, hN, hF, ty_3, ty_4, ty_9, ty_22, ty_29, ty_31, ty_33, ty_59, ty_74, ty_78, ty_140, notIf, isEq, h1, q1, h2, q2, h3, q3, h4, q4, h5, q5v, q5c, q5l, h6, q6v, q6c, q6l, k1, nt1, ntf]
    simp only [runB, finC, finD, Option.isSome_some, Option.isSome_none, ↓reduceIte, Nat.reduceEqDiff, Nat.reduceAdd, Nat.reduceMul, forall_eq_or_imp, forall_eq, implies_true, Nat.reduceBEq, reduceCtorEq, false_implies, List.zip_cons_cons, List.zip_nil_left, List.zip_nil_right, Nat.reduceLeDiff, List.forall_mem_nil, rs_35, ty_3, ty_4, ty_9, ty_22, ty_29, ty_31, ty_33, ty_59, ty_74, ty_78, ty_140]
  | false =>
  cases sp with
  | true =>
    rw [Bool.false_or, Bool.true_or, if_pos rfl]
    simp only [runA, runB, runC, runD, runE, runF, fieldE, storeE, binE, ↓reduceIte, Nat.reduceLT, Nat.reduceLeDiff, Nat.reduceEqDiff, Nat.reduceAdd, Nat.reduceMul, Nat.reduceSub, reduceCtorEq, putAt, unE, Nat.reduceBEq, convE, buildE, List.replicate, Int.reduceLT, Int.reduceLE, Int.reduceToNat, mkE, mapSetE, hN, hF, ty_3, ty_4, ty_9, ty_22, ty_29, ty_31, ty_33, ty_59, ty_74, ty_78, ty_140, notIf, isEq, h1, q1, h2, q2, h3, q3, h4, q4, h5, q5v, q5c, q5l, h6, q6v, q6c, q6l, k1, nt1, ntf]
    refine drawnP_intro (by kernel_rfl) (by kernel_rfl) ?_
    simp only [runA, runB, runC, runD, runE, runF, fieldE, storeE, binE, ↓reduceIte, Nat.reduceLT, Nat.reduceLeDiff, Nat.reduceEqDiff, Nat.reduceAdd, Nat.reduceMul, Nat.reduceSub, reduceCtorEq, putAt, unE, Nat.reduceBEq, convE, buildE, List.replicate, Int.reduceLT, Int.reduceLE, Int.reduceToNat, mkE, mapSetE, hN, hF, ty_3, ty_4, ty_9, ty_22, ty_29, ty_31, ty_33, ty_59, ty_74, ty_78, ty_140, notIf, isEq, h1, q1, h2, q2, h3, q3, h4, q4, h5, q5v, q5c, q5l, h6, q6v, q6c, q6l, k1, nt1, ntf]
    simp only [runB, finC, finD, Option.isSome_some, Option.isSome_none, ↓reduceIte, Nat.reduceEqDiff, Nat.reduceAdd, Nat.reduceMul, forall_eq_or_imp, forall_eq, implies_true, Nat.reduceBEq, reduceCtorEq, false_implies, List.zip_cons_cons, List.zip_nil_left, List.zip_nil_right, Nat.reduceLeDiff, List.forall_mem_nil, rs_35, ty_3, ty_4, ty_9, ty_22, ty_29, ty_31, ty_33, ty_59, ty_74, ty_78, ty_140]
  | false =>
  cases bh with
  | true =>
    rw [Bool.false_or, Bool.false_or, if_pos rfl]
    simp only [runA, runB, runC, runD, runE, runF, fieldE, storeE, binE, ↓reduceIte, Nat.reduceLT, Nat.reduceLeDiff, Nat.reduceEqDiff, Nat.reduceAdd, Nat.reduceMul, Nat.reduceSub, reduceCtorEq, putAt, unE, Nat.reduceBEq, convE, buildE, List.replicate, Int.reduceLT, Int.reduceLE, Int.reduceToNat, mkE, mapSetE, hN, hF, ty_3, ty_4, ty_9, ty_22, ty_29, ty_31, ty_33, ty_59, ty_74, ty_78, ty_140, notIf, isEq, h1, q1, h2, q2, h3, q3, h4, q4, h5, q5v, q5c, q5l, h6, q6v, q6c, q6l, k1, nt1, ntf]
    refine drawnP_intro (by kernel_rfl) (by kernel_rfl) ?_
    simp only [runA, runB, runC, runD, runE, runF, fieldE, storeE, binE, ↓reduceIte, Nat.reduceLT, Nat.reduceLeDiff, Nat.reduceEqDiff, Nat.reduceAdd, Nat.reduceMul, Nat.reduceSub, reduceCtorEq, putAt, unE, Nat.reduceBEq, convE, buildE, List.replicate, Int.reduceLT, Int.reduceLE, Int.reduceToNat, mkE, mapSetE, hN, hF, ty_3, ty_4, ty_9, ty_22, ty_29, ty_31, ty_33, ty_59, ty_74, ty_78, ty_140, notIf, isEq, h1, q1, h2, q2, h3, q3, h4, q4, h5, q5v, q5c, q5l, h6, q6v, q6c, q6l, k1, nt1, ntf]
    simp only [runB, finC, finD, Option.isSome_some, Option.isSome_none, ↓reduceIte, Nat.reduceEqDiff, Nat.reduceAdd, Nat.reduceMul, forall_eq_or_imp, forall_eq, implies_true, Nat.reduceBEq, reduceCtorEq, false_implies, List.zip_cons_cons, List.zip_nil_left, List.zip_nil_right, Nat.reduceLeDiff, List.forall_mem_nil, rs_35, ty_3, ty_4, ty_9, ty_22, ty_29, ty_31, ty_33, ty_59, ty_74, ty_78, ty_140]
  | false =>
  rw [Bool.false_or, Bool.false_or, if_neg (by simp)]
  cases wk with
  | false =>
    rw [show (!false || (mv && decide (ht ≤ v2))) = true from rfl, if_pos rfl]
    simp only [runA, runB, runC, runD, runE, runF, fieldE, storeE, binE, ↓reduceIte, Nat.reduceLT, Nat.reduceLeDiff, Nat.reduceEqDiff, Nat.reduceAdd, Nat.reduceMul, Nat.reduceSub, reduceCtorEq, putAt, unE, Nat.reduceBEq, convE, buildE, List.replicate, Int.reduceLT, Int.reduceLE, Int.reduceToNat, mkE, mapSetE, hN, hF, ty_3, ty_4, ty_9, ty_22, ty_29, ty_31, ty_33, ty_59, ty_74, ty_78, ty_140, notIf, isEq, h1, q1, h2, q2, h3, q3, h4, q4, h5, q5v, q5c, q5l, h6, q6v, q6c, q6l, k1, nt1, ntf]
    refine drawnP_intro (by kernel_rfl) (by kernel_rfl) ?_
    simp only [runA, runB, runC, runD, runE, runF, fieldE, storeE, binE, ↓reduceIte, Nat.reduceLT, Nat.reduceLeDiff, Nat.reduceEqDiff, Nat.reduceAdd, Nat.reduceMul, Nat.reduceSub, reduceCtorEq, putAt, unE, Nat.reduceBEq, convE, buildE, List.replicate, Int.reduceLT, Int.reduceLE, Int.reduceToNat, mkE, mapSetE, hN, hF, ty_3, ty_4, ty_9, ty_22, ty_29, ty_31, ty_33, ty_59, ty_74, ty_78, ty_140, notIf, isEq, h1, q1, h2, q2, h3, q3, h4, q4, h5, q5v, q5c, q5l, h6, q6v, q6c, q6l, k1, nt1, ntf]
    simp only [runB, finC, finD, Option.isSome_some, Option.isSome_none, ↓reduceIte, Nat.reduceEqDiff, Nat.reduceAdd, Nat.reduceMul, forall_eq_or_imp, forall_eq, implies_true, Nat.reduceBEq, reduceCtorEq, false_implies, List.zip_cons_cons, List.zip_nil_left, List.zip_nil_right, Nat.reduceLeDiff, List.forall_mem_nil, rs_35, ty_3, ty_4, ty_9, ty_22, ty_29, ty_31, ty_33, ty_59, ty_74, ty_78, ty_140]
  | true =>
  rw [show (!true) = false from rfl, Bool.false_or]
  cases k3 : decide (ht ≤ v2) with
  | true =>
    cases hm : mv with
    | true =>
      rw [show (true && true) = true from rfl, if_pos rfl]
      simp only [runA, runB, runC, runD, runE, runF, fieldE, storeE, binE, ↓reduceIte, Nat.reduceLT, Nat.reduceLeDiff, Nat.reduceEqDiff, Nat.reduceAdd, Nat.reduceMul, Nat.reduceSub, reduceCtorEq, putAt, unE, Nat.reduceBEq, convE, buildE, List.replicate, Int.reduceLT, Int.reduceLE, Int.reduceToNat, mkE, mapSetE, hN, hF, ty_3, ty_4, ty_9, ty_22, ty_29, ty_31, ty_33, ty_59, ty_74, ty_78, ty_140, notIf, isEq, h1, q1, h2, q2, h3, q3, h4, q4, h5, q5v, q5c, q5l, h6, q6v, q6c, q6l, k1, nt1, ntf, k3, hm]
      refine drawnP_intro (by kernel_rfl) (by kernel_rfl) ?_
      simp only [runA, runB, runC, runD, runE, runF, fieldE, storeE, binE, ↓reduceIte, Nat.reduceLT, Nat.reduceLeDiff, Nat.reduceEqDiff, Nat.reduceAdd, Nat.reduceMul, Nat.reduceSub, reduceCtorEq, putAt, unE, Nat.reduceBEq, convE, buildE, List.replicate, Int.reduceLT, Int.reduceLE, Int.reduceToNat, mkE, mapSetE, hN, hF, ty_3, ty_4, ty_9, ty_22, ty_29, ty_31, ty_33, ty_59, ty_74, ty_78, ty_140, notIf, isEq, h1, q1, h2, q2, h3, q3, h4, q4, h5, q5v, q5c, q5l, h6, q6v, q6c, q6l, k1, nt1, ntf, k3, hm]
      simp only [runB, finC, finD, Option.isSome_some, Option.isSome_none, ↓reduceIte, Nat.reduceEqDiff, Nat.reduceAdd, Nat.reduceMul, forall_eq_or_imp, forall_eq, implies_true, Nat.reduceBEq, reduceCtorEq, false_implies, List.zip_cons_cons, List.zip_nil_left, List.zip_nil_right, Nat.reduceLeDiff, List.forall_mem_nil, rs_35, ty_3, ty_4, ty_9, ty_22, ty_29, ty_31, ty_33, ty_59, ty_74, ty_78, ty_140]
    | false =>
      rw [show (false && true) = false from rfl, if_neg (by simp)]
      simp only [runA, runB, runC, runD, runE, runF, fieldE, storeE, binE, ↓reduceIte, Nat.reduceLT, Nat.reduceLeDiff, Nat.reduceEqDiff, Nat.reduceAdd, Nat.reduceMul, Nat.reduceSub, reduceCtorEq, putAt, unE, Nat.reduceBEq, convE, buildE, List.replicate, Int.reduceLT, Int.reduceLE, Int.reduceToNat, mkE, mapSetE, hN, hF, ty_3, ty_4, ty_9, ty_22, ty_29, ty_31, ty_33, ty_59, ty_74, ty_78, ty_140, notIf, isEq, h1, q1, h2, q2, h3, q3, h4, q4, h5, q5v, q5c, q5l, h6, q6v, q6c, q6l, k1, nt1, ntf, k3, hm]
      refine drawnP_intro (by kernel_rfl) (by kernel_rfl) ?_
      simp only [runA, runB, runC, runD, runE, runF, fieldE, storeE, binE, ↓reduceIte, Nat.reduceLT, Nat.reduceLeDiff, Nat.reduceEqDiff, Nat.reduceAdd, Nat.reduceMul, Nat.reduceSub, reduceCtorEq, putAt, unE, Nat.reduceBEq, convE, buildE, List.replicate, Int.reduceLT, Int.reduceLE, Int.reduceToNat, mkE, mapSetE, hN, hF, ty_3, ty_4, ty_9, ty_22, ty_29, ty_31, ty_33, ty_59, ty_74, ty_78, ty_140, notIf, isEq, h1, q1, h2, q2, h3, q3, h4, q4, h5, q5v, q5c, q5l, h6, q6v, q6c, q6l, k1, nt1, ntf, k3, hm]
      refine AWP.loop (fun k st => (k = 3 ∧ st = ⟨[(1, .ptr 6400000 0), (3, .ptr 192 0), (7, .c (.str nm)), (59, .agg [.c (.int .i64 v1), .c (.int .i64 v2), .c (.str v3), .c (.int .i64 c1), .c (.int .i64 c2), .c (.str c3), .c (.int .i64 l1), .c (.int .i64 l2), .c (.str l3)]), (60, .c (.int .i64 0))], [(192, .obj [.c (.int .i64 svw), .c (.int .i64 v1), .c (.int .i64 v2), .c (.str v3), .c (.int .i64 c1), .c (.int .i64 c2), .c (.str c3), .c (.int .i64 l1), .c (.int .i64 l2), .c (.str l3), .c (.bool false)] false), (6400000, .obj [.mp 6400001] false), (6400001, .mp true es)]⟩) ∨ (k = 2 ∧ A1 ∧ st = ⟨[(1, .ptr 6400000 0), (3, .ptr 192 0), (7, .c (.str nm)), (59, .agg [.c (.int .i64 v1), .c (.int .i64 v2), .c (.str v3), .c (.int .i64 c1), .c (.int .i64 c2), .c (.str c3), .c (.int .i64 l1), .c (.int .i64 l2), .c (.str l3)]), (60, .c (.int .i64 1))], [(192, .obj [.c (.int .i64 svw), .c (.int .i64 v1), .c (.int .i64 v2), .c (.str v3), .c (.int .i64 c1), .c (.int .i64 c2), .c (.str c3), .c (.int .i64 l1), .c (.int .i64 l2), .c (.str l3), .c (.bool false)] false), (6400000, .obj [.mp 6400001] false), (6400001, .mp true es)]⟩) ∨ (k = 1 ∧ A1 ∧ A2 ∧ st = ⟨[(1, .ptr 6400000 0), (3, .ptr 192 0), (7, .c (.str nm)), (59, .agg [.c (.int .i64 v1), .c (.int .i64 v2), .c (.str v3), .c (.int .i64 c1), .c (.int .i64 c2), .c (.str c3), .c (.int .i64 l1), .c (.int .i64 l2), .c (.str l3)]), (60, .c (.int .i64 2))], [(192, .obj [.c (.int .i64 svw), .c (.int .i64 v1), .c (.int .i64 v2), .c (.str v3), .c (.int .i64 c1), .c (.int .i64 c2), .c (.str c3), .c (.int .i64 l1), .c (.int .i64 l2), .c (.str l3), .c (.bool false)] false), (6400000, .obj [.mp 6400001] false), (6400001, .mp true es)]⟩) ∨ (k = 0 ∧ A1 ∧ A2 ∧ A3 ∧ st = ⟨[(1, .ptr 6400000 0), (3, .ptr 192 0), (7, .c (.str nm)), (59, .agg [.c (.int .i64 v1), .c (.int .i64 v2), .c (.str v3), .c (.int .i64 c1), .c (.int .i64 c2), .c (.str c3), .c (.int .i64 l1), .c (.int .i64 l2), .c (.str l3)]), (60, .c (.int .i64 3))], [(192, .obj [.c (.int .i64 svw), .c (.int .i64 v1), .c (.int .i64 v2), .c (.str v3), .c (.int .i64 c1), .c (.int .i64 c2), .c (.str c3), .c (.int .i64 l1), .c (.int .i64 l2), .c (.str l3), .c (.bool false)] false), (6400000, .obj [.mp 6400001] false), (6400001, .mp true es)]⟩)) ⟨3, _, ?w, .inl ⟨rfl, rfl⟩⟩ ?r
      case w =>
        rw [hns]
        simp only [runB, finC, finD, AS.get, AS.mem, false_implies, implies_true, ↓reduceIte, Nat.reduceEqDiff, Option.isSome_some, Option.isSome_none, forall_eq_or_imp, forall_eq, reduceCtorEq, Nat.reduceAdd, Nat.reduceMul, List.zip_cons_cons, List.zip_nil_left, List.zip_nil_right, List.forall_mem_nil]
        first | done | simp
      case r =>
        rintro k st (⟨rfl, rfl⟩ | ⟨rfl, w1, rfl⟩ | ⟨rfl, w1, w2, rfl⟩ | ⟨rfl, w1, w2, w3, rfl⟩)
        · refine vc_sound hΓ mixed _ _ _ ?_
          cases hx : mv with
          | false =>
            simp only [runA, runB, runC, runD, runE, runF, fieldE, storeE, binE, ↓reduceIte, Nat.reduceLT, Nat.reduceLeDiff, Nat.reduceEqDiff, Nat.reduceAdd, Nat.reduceMul, Nat.reduceSub, reduceCtorEq, putAt, unE, Nat.reduceBEq, convE, buildE, List.replicate, Int.reduceLT, Int.reduceLE, Int.reduceToNat, mkE, mapSetE, hN, hF, ty_3, ty_4, ty_9, ty_22, ty_29, ty_31, ty_33, ty_59, ty_74, ty_78, ty_140, notIf, isEq, h1, q1, h2, q2, h3, q3, h4, q4, h5, q5v, q5c, q5l, h6, q6v, q6c, q6l, d0, e0, j0, nt1, ntf, hx]
            refine ⟨2, _, by omega, ?_, .inr (.inl ⟨rfl, hA1.2 (by rw [hx]; rfl), rfl⟩)⟩
            rw [hns]
            simp only [runB, finC, finD, AS.get, AS.mem, false_implies, implies_true, ↓reduceIte, Nat.reduceEqDiff, Option.isSome_some, Option.isSome_none, forall_eq_or_imp, forall_eq, reduceCtorEq, Nat.reduceAdd, Nat.reduceMul, List.zip_cons_cons, List.zip_nil_left, List.zip_nil_right, List.forall_mem_nil]
            first | done | simp
          | true =>
            cases hy : ev with
            | true =>
              simp only [runA, runB, runC, runD, runE, runF, fieldE, storeE, binE, ↓reduceIte, Nat.reduceLT, Nat.reduceLeDiff, Nat.reduceEqDiff, Nat.reduceAdd, Nat.reduceMul, Nat.reduceSub, reduceCtorEq, putAt, unE, Nat.reduceBEq, convE, buildE, List.replicate, Int.reduceLT, Int.reduceLE, Int.reduceToNat, mkE, mapSetE, hN, hF, ty_3, ty_4, ty_9, ty_22, ty_29, ty_31, ty_33, ty_59, ty_74, ty_78, ty_140, notIf, isEq, h1, q1, h2, q2, h3, q3, h4, q4, h5, q5v, q5c, q5l, h6, q6v, q6c, q6l, d0, e0, j0, nt1, ntf, hx, hy]
              refine ⟨2, _, by omega, ?_, .inr (.inl ⟨rfl, hA1.2 (by rw [hx, hy]; rfl), rfl⟩)⟩
              rw [hns]
              simp only [runB, finC, finD, AS.get, AS.mem, false_implies, implies_true, ↓reduceIte, Nat.reduceEqDiff, Option.isSome_some, Option.isSome_none, forall_eq_or_imp, forall_eq, reduceCtorEq, Nat.reduceAdd, Nat.reduceMul, List.zip_cons_cons, List.zip_nil_left, List.zip_nil_right, List.forall_mem_nil]
              first | done | simp
            | false =>
              have hRf : R = false := by rw [hR, hx, hy]; simp
              rw [hRf]
              simp only [runA, runB, runC, runD, runE, runF, fieldE, storeE, binE, ↓reduceIte, Nat.reduceLT, Nat.reduceLeDiff, Nat.reduceEqDiff, Nat.reduceAdd, Nat.reduceMul, Nat.reduceSub, reduceCtorEq, putAt, unE, Nat.reduceBEq, convE, buildE, List.replicate, Int.reduceLT, Int.reduceLE, Int.reduceToNat, mkE, mapSetE, hN, hF, ty_3, ty_4, ty_9, ty_22, ty_29, ty_31, ty_33, ty_59, ty_74, ty_78, ty_140, notIf, isEq, h1, q1, h2, q2, h3, q3, h4, q4, h5, q5v, q5c, q5l, h6, q6v, q6c, q6l, d0, e0, j0, nt1, ntf, hx, hy]
              simp only [runB, finC, finD, Option.isSome_some, Option.isSome_none, ↓reduceIte, Nat.reduceEqDiff, Nat.reduceAdd, Nat.reduceMul, forall_eq_or_imp, forall_eq, implies_true, Nat.reduceBEq, reduceCtorEq, false_implies, List.zip_cons_cons, List.zip_nil_left, List.zip_nil_right, Nat.reduceLeDiff, List.forall_mem_nil, rs_35, ty_3, ty_4, ty_9, ty_22, ty_29, ty_31, ty_33, ty_59, ty_74, ty_78, ty_140]
        · refine vc_sound hΓ mixed _ _ _ ?_
          cases hx : mc with
          | false =>
            simp only [runA, runB, runC, runD, runE, runF, fieldE, storeE, binE, ↓reduceIte, Nat.reduceLT, Nat.reduceLeDiff, Nat.reduceEqDiff, Nat.reduceAdd, Nat.reduceMul, Nat.reduceSub, reduceCtorEq, putAt, unE, Nat.reduceBEq, convE, buildE, List.replicate, Int.reduceLT, Int.reduceLE, Int.reduceToNat, mkE, mapSetE, hN, hF, ty_3, ty_4, ty_9, ty_22, ty_29, ty_31, ty_33, ty_59, ty_74, ty_78, ty_140, notIf, isEq, h1, q1, h2, q2, h3, q3, h4, q4, h5, q5v, q5c, q5l, h6, q6v, q6c, q6l, d1, e1, j1, nt1, ntf, hx]
            refine ⟨1, _, by omega, ?_, .inr (.inr (.inl ⟨rfl, w1, hA2.2 (by rw [hx]; rfl), rfl⟩))⟩
            rw [hns]
            simp only [runB, finC, finD, AS.get, AS.mem, false_implies, implies_true, ↓reduceIte, Nat.reduceEqDiff, Option.isSome_some, Option.isSome_none, forall_eq_or_imp, forall_eq, reduceCtorEq, Nat.reduceAdd, Nat.reduceMul, List.zip_cons_cons, List.zip_nil_left, List.zip_nil_right, List.forall_mem_nil]
            first | done | simp
          | true =>
            cases hy : ec with
            | true =>
              simp only [runA, runB, runC, runD, runE, runF, fieldE, storeE, binE, ↓reduceIte, Nat.reduceLT, Nat.reduceLeDiff, Nat.reduceEqDiff, Nat.reduceAdd, Nat.reduceMul, Nat.reduceSub, reduceCtorEq, putAt, unE, Nat.reduceBEq, convE, buildE, List.replicate, Int.reduceLT, Int.reduceLE, Int.reduceToNat, mkE, mapSetE, hN, hF, ty_3, ty_4, ty_9, ty_22, ty_29, ty_31, ty_33, ty_59, ty_74, ty_78, ty_140, notIf, isEq, h1, q1, h2, q2, h3, q3, h4, q4, h5, q5v, q5c, q5l, h6, q6v, q6c, q6l, d1, e1, j1, nt1, ntf, hx, hy]
              refine ⟨1, _, by omega, ?_, .inr (.inr (.inl ⟨rfl, w1, hA2.2 (by rw [hx, hy]; rfl), rfl⟩))⟩
              rw [hns]
              simp only [runB, finC, finD, AS.get, AS.mem, false_implies, implies_true, ↓reduceIte, Nat.reduceEqDiff, Option.isSome_some, Option.isSome_none, forall_eq_or_imp, forall_eq, reduceCtorEq, Nat.reduceAdd, Nat.reduceMul, List.zip_cons_cons, List.zip_nil_left, List.zip_nil_right, List.forall_mem_nil]
              first | done | simp
            | false =>
              have hRf : R = false := by rw [hR, hx, hy]; simp
              rw [hRf]
              simp only [runA, runB, runC, runD, runE, runF, fieldE, storeE, binE, ↓reduceIte, Nat.reduceLT, Nat.reduceLeDiff, Nat.reduceEqDiff, Nat.reduceAdd, Nat.reduceMul, Nat.reduceSub, reduceCtorEq, putAt, unE, Nat.reduceBEq, convE, buildE, List.replicate, Int.reduceLT, Int.reduceLE, Int.reduceToNat, mkE, mapSetE, hN, hF, ty_3, ty_4, ty_9, ty_22, ty_29, ty_31, ty_33, ty_59, ty_74, ty_78, ty_140, notIf, isEq, h1, q1, h2, q2, h3, q3, h4, q4, h5, q5v, q5c, q5l, h6, q6v, q6c, q6l, d1, e1, j1, nt1, ntf, hx, hy]
              simp only [runB, finC, finD, Option.isSome_some, Option.isSome_none, ↓reduceIte, Nat.reduceEqDiff, Nat.reduceAdd, Nat.reduceMul, forall_eq_or_imp, forall_eq, implies_true, Nat.reduceBEq, reduceCtorEq, false_implies, List.zip_cons_cons, List.zip_nil_left, List.zip_nil_right, Nat.reduceLeDiff, List.forall_mem_nil, rs_35, ty_3, ty_4, ty_9, ty_22, ty_29, ty_31, ty_33, ty_59, ty_74, ty_78, ty_140]
        · refine vc_sound hΓ mixed _ _ _ ?_
          cases hx : ml with
          | false =>
            simp only [runA, runB, runC, runD, runE, runF, fieldE, storeE, binE, ↓reduceIte, Nat.reduceLT, Nat.reduceLeDiff, Nat.reduceEqDiff, Nat.reduceAdd, Nat.reduceMul, Nat.reduceSub, reduceCtorEq, putAt, unE, Nat.reduceBEq, convE, buildE, List.replicate, Int.reduceLT, Int.reduceLE, Int.reduceToNat, mkE, mapSetE, hN, hF, ty_3, ty_4, ty_9, ty_22, ty_29, ty_31, ty_33, ty_59, ty_74, ty_78, ty_140, notIf, isEq, h1, q1, h2, q2, h3, q3, h4, q4, h5, q5v, q5c, q5l, h6, q6v, q6c, q6l, d2, e2, j2, nt1, ntf, hx]
            refine ⟨0, _, by omega, ?_, .inr (.inr (.inr ⟨rfl, w1, w2, hA3.2 (by rw [hx]; rfl), rfl⟩))⟩
            rw [hns]
            simp only [runB, finC, finD, AS.get, AS.mem, false_implies, implies_true, ↓reduceIte, Nat.reduceEqDiff, Option.isSome_some, Option.isSome_none, forall_eq_or_imp, forall_eq, reduceCtorEq, Nat.reduceAdd, Nat.reduceMul, List.zip_cons_cons, List.zip_nil_left, List.zip_nil_right, List.forall_mem_nil]
            first | done | simp
          | true =>
            cases hy : el with
            | true =>
              simp only [runA, runB, runC, runD, runE, runF, fieldE, storeE, binE, ↓reduceIte, Nat.reduceLT, Nat.reduceLeDiff, Nat.reduceEqDiff, Nat.reduceAdd, Nat.reduceMul, Nat.reduceSub, reduceCtorEq, putAt, unE, Nat.reduceBEq, convE, buildE, List.replicate, Int.reduceLT, Int.reduceLE, Int.reduceToNat, mkE, mapSetE, hN, hF, ty_3, ty_4, ty_9, ty_22, ty_29, ty_31, ty_33, ty_59, ty_74, ty_78, ty_140, notIf, isEq, h1, q1, h2, q2, h3, q3, h4, q4, h5, q5v, q5c, q5l, h6, q6v, q6c, q6l, d2, e2, j2, nt1, ntf, hx, hy]
              refine ⟨0, _, by omega, ?_, .inr (.inr (.inr ⟨rfl, w1, w2, hA3.2 (by rw [hx, hy]; rfl), rfl⟩))⟩
              rw [hns]
              simp only [runB, finC, finD, AS.get, AS.mem, false_implies, implies_true, ↓reduceIte, Nat.reduceEqDiff, Option.isSome_some, Option.isSome_none, forall_eq_or_imp, forall_eq, reduceCtorEq, Nat.reduceAdd, Nat.reduceMul, List.zip_cons_cons, List.zip_nil_left, List.zip_nil_right, List.forall_mem_nil]
              first | done | simp
            | false =>
              have hRf : R = false := by rw [hR, hx, hy]; simp
              rw [hRf]
              simp only [runA, runB, runC, runD, runE, runF, fieldE, storeE, binE, ↓reduceIte, Nat.reduceLT, Nat.reduceLeDiff, Nat.reduceEqDiff, Nat.reduceAdd, Nat.reduceMul, Nat.reduceSub, reduceCtorEq, putAt, unE, Nat.reduceBEq, convE, buildE, List.replicate, Int.reduceLT, Int.reduceLE, Int.reduceToNat, mkE, mapSetE, hN, hF, ty_3, ty_4, ty_9, ty_22, ty_29, ty_31, ty_33, ty_59, ty_74, ty_78, ty_140, notIf, isEq, h1, q1, h2, q2, h3, q3, h4, q4, h5, q5v, q5c, q5l, h6, q6v, q6c, q6l, d2, e2, j2, nt1, ntf, hx, hy]
              simp only [runB, finC, finD, Option.isSome_some, Option.isSome_none, ↓reduceIte, Nat.reduceEqDiff, Nat.reduceAdd, Nat.reduceMul, forall_eq_or_imp, forall_eq, implies_true, Nat.reduceBEq, reduceCtorEq, false_implies, List.zip_cons_cons, List.zip_nil_left, List.zip_nil_right, Nat.reduceLeDiff, List.forall_mem_nil, rs_35, ty_3, ty_4, ty_9, ty_22, ty_29, ty_31, ty_33, ty_59, ty_74, ty_78, ty_140]
        · refine vc_sound hΓ mixed _ _ _ ?_
          have hRt : R = true := by rw [hR, hA1.1 w1, hA2.1 w2, hA3.1 w3]; rfl
          rw [hRt]
          simp only [runA, runB, runC, runD, runE, runF, fieldE, storeE, binE, ↓reduceIte, Nat.reduceLT, Nat.reduceLeDiff, Nat.reduceEqDiff, Nat.reduceAdd, Nat.reduceMul, Nat.reduceSub, reduceCtorEq, putAt, unE, Nat.reduceBEq, convE, buildE, List.replicate, Int.reduceLT, Int.reduceLE, Int.reduceToNat, mkE, mapSetE, hN, hF, ty_3, ty_4, ty_9, ty_22, ty_29, ty_31, ty_33, ty_59, ty_74, ty_78, ty_140, notIf, isEq, h1, q1, h2, q2, h3, q3, h4, q4, h5, q5v, q5c, q5l, h6, q6v, q6c, q6l, d3]
          simp only [runB, finC, finD, Option.isSome_some, Option.isSome_none, ↓reduceIte, Nat.reduceEqDiff, Nat.reduceAdd, Nat.reduceMul, forall_eq_or_imp, forall_eq, implies_true, Nat.reduceBEq, reduceCtorEq, false_implies, List.zip_cons_cons, List.zip_nil_left, List.zip_nil_right, Nat.reduceLeDiff, List.forall_mem_nil, rs_35, ty_3, ty_4, ty_9, ty_22, ty_29, ty_31, ty_33, ty_59, ty_74, ty_78, ty_140]
  | false =>
    rw [Bool.and_false, if_neg (by simp)]
    cases hm : mv with
    | true =>
      simp only [runA, runB, runC, runD, runE, runF, fieldE, storeE, binE, ↓reduceIte, Nat.reduceLT, Nat.reduceLeDiff, Nat.reduceEqDiff, Nat.reduceAdd, Nat.reduceMul, Nat.reduceSub, reduceCtorEq, putAt, unE, Nat.reduceBEq, convE, buildE, List.replicate, Int.reduceLT, Int.reduceLE, Int.reduceToNat, mkE, mapSetE, hN, hF, ty_3, ty_4, ty_9, ty_22, ty_29, ty_31, ty_33, ty_59, ty_74, ty_78, ty_140, notIf, isEq, h1, q1, h2, q2, h3, q3, h4, q4, h5, q5v, q5c, q5l, h6, q6v, q6c, q6l, k1, nt1, ntf, k3, hm]
      refine drawnP_intro (by kernel_rfl) (by kernel_rfl) ?_
      simp only [runA, runB, runC, runD, runE, runF, fieldE, storeE, binE, ↓reduceIte, Nat.reduceLT, Nat.reduceLeDiff, Nat.reduceEqDiff, Nat.reduceAdd, Nat.reduceMul, Nat.reduceSub, reduceCtorEq, putAt, unE, Nat.reduceBEq, convE, buildE, List.replicate, Int.reduceLT, Int.reduceLE, Int.reduceToNat, mkE, mapSetE, hN, hF, ty_3, ty_4, ty_9, ty_22, ty_29, ty_31, ty_33, ty_59, ty_74, ty_78, ty_140, notIf, isEq, h1, q1, h2, q2, h3, q3, h4, q4, h5, q5v, q5c, q5l, h6, q6v, q6c, q6l, k1, nt1, ntf, k3, hm]
      refine AWP.loop (fun k st => (k = 3 ∧ st = ⟨[(1, .ptr 6400000 0), (3, .ptr 192 0), (7, .c (.str nm)), (59, .agg [.c (.int .i64 v1), .c (.int .i64 v2), .c (.str v3), .c (.int .i64 c1), .c (.int .i64 c2), .c (.str c3), .c (.int .i64 l1), .c (.int .i64 l2), .c (.str l3)]), (60, .c (.int .i64 0))], [(192, .obj [.c (.int .i64 svw), .c (.int .i64 v1), .c (.int .i64 v2), .c (.str v3), .c (.int .i64 c1), .c (.int .i64 c2), .c (.str c3), .c (.int .i64 l1), .c (.int .i64 l2), .c (.str l3), .c (.bool false)] false), (6400000, .obj [.mp 6400001] false), (6400001, .mp true es)]⟩) ∨ (k = 2 ∧ A1 ∧ st = ⟨[(1, .ptr 6400000 0), (3, .ptr 192 0), (7, .c (.str nm)), (59, .agg [.c (.int .i64 v1), .c (.int .i64 v2), .c (.str v3), .c (.int .i64 c1), .c (.int .i64 c2), .c (.str c3), .c (.int .i64 l1), .c (.int .i64 l2), .c (.str l3)]), (60, .c (.int .i64 1))], [(192, .obj [.c (.int .i64 svw), .c (.int .i64 v1), .c (.int .i64 v2), .c (.str v3), .c (.int .i64 c1), .c (.int .i64 c2), .c (.str c3), .c (.int .i64 l1), .c (.int .i64 l2), .c (.str l3), .c (.bool false)] false), (6400000, .obj [.mp 6400001] false), (6400001, .mp true es)]⟩) ∨ (k = 1 ∧ A1 ∧ A2 ∧ st = ⟨[(1, .ptr 6400000 0), (3, .ptr 192 0), (7, .c (.str nm)), (59, .agg [.c (.int .i64 v1), .c (.int .i64 v2), .c (.str v3), .c (.int .i64 c1), .c (.int .i64 c2), .c (.str c3), .c (.int .i64 l1), .c (.int .i64 l2), .c (.str l3)]), (60, .c (.int .i64 2))], [(192, .obj [.c (.int .i64 svw), .c (.int .i64 v1), .c (.int .i64 v2), .c (.str v3), .c (.int .i64 c1), .c (.int .i64 c2), .c (.str c3), .c (.int .i64 l1), .c (.int .i64 l2), .c (.str l3), .c (.bool false)] false), (6400000, .obj [.mp 6400001] false), (6400001, .mp true es)]⟩) ∨ (k = 0 ∧ A1 ∧ A2 ∧ A3 ∧ st = ⟨[(1, .ptr 6400000 0), (3, .ptr 192 0), (7, .c (.str nm)), (59, .agg [.c (.int .i64 v1), .c (.int .i64 v2), .c (.str v3), .c (.int .i64 c1), .c (.int .i64 c2), .c (.str c3), .c (.int .i64 l1), .c (.int .i64 l2), .c (.str l3)]), (60, .c (.int .i64 3))], [(192, .obj [.c (.int .i64 svw), .c (.int .i64 v1), .c (.int .i64 v2), .c (.str v3), .c (.int .i64 c1), .c (.int .i64 c2), .c (.str c3), .c (.int .i64 l1), .c (.int .i64 l2), .c (.str l3), .c (.bool false)] false), (6400000, .obj [.mp 6400001] false), (6400001, .mp true es)]⟩)) ⟨3, _, ?w, .inl ⟨rfl, rfl⟩⟩ ?r
      case w =>
        rw [hns]
        simp only [runB, finC, finD, AS.get, AS.mem, false_implies, implies_true, ↓reduceIte, Nat.reduceEqDiff, Option.isSome_some, Option.isSome_none, forall_eq_or_imp, forall_eq, reduceCtorEq, Nat.reduceAdd, Nat.reduceMul, List.zip_cons_cons, List.zip_nil_left, List.zip_nil_right, List.forall_mem_nil]
        first | done | simp
      case r =>
        rintro k st (⟨rfl, rfl⟩ | ⟨rfl, w1, rfl⟩ | ⟨rfl, w1, w2, rfl⟩ | ⟨rfl, w1, w2, w3, rfl⟩)
        · refine vc_sound hΓ mixed _ _ _ ?_
          cases hx : mv with
          | false =>
            simp only [runA, runB, runC, runD, runE, runF, fieldE, storeE, binE, ↓reduceIte, Nat.reduceLT, Nat.reduceLeDiff, Nat.reduceEqDiff, Nat.reduceAdd, Nat.reduceMul, Nat.reduceSub, reduceCtorEq, putAt, unE, Nat.reduceBEq, convE, buildE, List.replicate, Int.reduceLT, Int.reduceLE, Int.reduceToNat, mkE, mapSetE, hN, hF, ty_3, ty_4, ty_9, ty_22, ty_29, ty_31, ty_33, ty_59, ty_74, ty_78, ty_140, notIf, isEq, h1, q1, h2, q2, h3, q3, h4, q4, h5, q5v, q5c, q5l, h6, q6v, q6c, q6l, d0, e0, j0, nt1, ntf, hx]
            refine ⟨2, _, by omega, ?_, .inr (.inl ⟨rfl, hA1.2 (by rw [hx]; rfl), rfl⟩)⟩
            rw [hns]
            simp only [runB, finC, finD, AS.get, AS.mem, false_implies, implies_true, ↓reduceIte, Nat.reduceEqDiff, Option.isSome_some, Option.isSome_none, forall_eq_or_imp, forall_eq, reduceCtorEq, Nat.reduceAdd, Nat.reduceMul, List.zip_cons_cons, List.zip_nil_left, List.zip_nil_right, List.forall_mem_nil]
            first | done | simp
          | true =>
            cases hy : ev with
            | true =>
              simp only [runA, runB, runC, runD, runE, runF, fieldE, storeE, binE, ↓reduceIte, Nat.reduceLT, Nat.reduceLeDiff, Nat.reduceEqDiff, Nat.reduceAdd, Nat.reduceMul, Nat.reduceSub, reduceCtorEq, putAt, unE, Nat.reduceBEq, convE, buildE, List.replicate, Int.reduceLT, Int.reduceLE, Int.reduceToNat, mkE, mapSetE, hN, hF, ty_3, ty_4, ty_9, ty_22, ty_29, ty_31, ty_33, ty_59, ty_74, ty_78, ty_140, notIf, isEq, h1, q1, h2, q2, h3, q3, h4, q4, h5, q5v, q5c, q5l, h6, q6v, q6c, q6l, d0, e0, j0, nt1, ntf, hx, hy]
              refine ⟨2, _, by omega, ?_, .inr (.inl ⟨rfl, hA1.2 (by rw [hx, hy]; rfl), rfl⟩)⟩
              rw [hns]
              simp only [runB, finC, finD, AS.get, AS.mem, false_implies, implies_true, ↓reduceIte, Nat.reduceEqDiff, Option.isSome_some, Option.isSome_none, forall_eq_or_imp, forall_eq, reduceCtorEq, Nat.reduceAdd, Nat.reduceMul, List.zip_cons_cons, List.zip_nil_left, List.zip_nil_right, List.forall_mem_nil]
              first | done | simp
            | false =>
              have hRf : R = false := by rw [hR, hx, hy]; simp
              rw [hRf]
              simp only [runA, runB, runC, runD, runE, runF, fieldE, storeE, binE, ↓reduceIte, Nat.reduceLT, Nat.reduceLeDiff, Nat.reduceEqDiff, Nat.reduceAdd, Nat.reduceMul, Nat.reduceSub, reduceCtorEq, putAt, unE, Nat.reduceBEq, convE, buildE, List.replicate, Int.reduceLT, Int.reduceLE, Int.reduceToNat, mkE, mapSetE, hN, hF, ty_3, ty_4, ty_9, ty_22, ty_29, ty_31, ty_33, ty_59, ty_74, ty_78, ty_140, notIf, isEq, h1, q1, h2, q2, h3, q3, h4, q4, h5, q5v, q5c, q5l, h6, q6v, q6c, q6l, d0, e0, j0, nt1, ntf, hx, hy]
              simp only [runB, finC, finD, Option.isSome_some, Option.isSome_none, ↓reduceIte, Nat.reduceEqDiff, Nat.reduceAdd, Nat.reduceMul, forall_eq_or_imp, forall_eq, implies_true, Nat.reduceBEq, reduceCtorEq, false_implies, List.zip_cons_cons, List.zip_nil_left, List.zip_nil_right, Nat.reduceLeDiff, List.forall_mem_nil, rs_35, ty_3, ty_4, ty_9, ty_22, ty_29, ty_31, ty_33, ty_59, ty_74, ty_78, ty_140]
        · refine vc_sound hΓ mixed _ _ _ ?_
          cases hx : mc with
          | false =>
            simp only [runA, runB, runC, runD, runE, runF, fieldE, storeE, binE, ↓reduceIte, Nat.reduceLT, Nat.reduceLeDiff, Nat.reduceEqDiff, Nat.reduceAdd, Nat.reduceMul, Nat.reduceSub, reduceCtorEq, putAt, unE, Nat.reduceBEq, convE, buildE, List.replicate, Int.reduceLT, Int.reduceLE, Int.reduceToNat, mkE, mapSetE, hN, hF, ty_3, ty_4, ty_9, ty_22, ty_29, ty_31, ty_33, ty_59, ty_74, ty_78, ty_140, notIf, isEq, h1, q1, h2, q2, h3, q3, h4, q4, h5, q5v, q5c, q5l, h6, q6v, q6c, q6l, d1, e1, j1, nt1, ntf, hx]
            refine ⟨1, _, by omega, ?_, .inr (.inr (.inl ⟨rfl, w1, hA2.2 (by rw [hx]; rfl), rfl⟩))⟩
            rw [hns]
            simp only [runB, finC, finD, AS.get, AS.mem, false_implies, implies_true, ↓reduceIte, Nat.reduceEqDiff, Option.isSome_some, Option.isSome_none, forall_eq_or_imp, forall_eq, reduceCtorEq, Nat.reduceAdd, Nat.reduceMul, List.zip_cons_cons, List.zip_nil_left, List.zip_nil_right, List.forall_mem_nil]
            first | done | simp
          | true =>
            cases hy : ec with
            | true =>
              simp only [runA, runB, runC, runD, runE, runF, fieldE, storeE, binE, ↓reduceIte, Nat.reduceLT, Nat.reduceLeDiff, Nat.reduceEqDiff, Nat.reduceAdd, Nat.reduceMul, Nat.reduceSub, reduceCtorEq, putAt, unE, Nat.reduceBEq, convE, buildE, List.replicate, Int.reduceLT, Int.reduceLE, Int.reduceToNat, mkE, mapSetE, hN, hF, ty_3, ty_4, ty_9, ty_22, ty_29, ty_31, ty_33, ty_59, ty_74, ty_78, ty_140, notIf, isEq, h1, q1, h2, q2, h3, q3, h4, q4, h5, q5v, q5c, q5l, h6, q6v, q6c, q6l, d1, e1, j1, nt1, ntf, hx, hy]
              refine ⟨1, _, by omega, ?_, .inr (.inr (.inl ⟨rfl, w1, hA2.2 (by rw [hx, hy]; rfl), rfl⟩))⟩
              rw [hns]
              simp only [runB, finC, finD, AS.get, AS.mem, false_implies, implies_true, ↓reduceIte, Nat.reduceEqDiff, Option.isSome_some, Option.isSome_none, forall_eq_or_imp, forall_eq, reduceCtorEq, Nat.reduceAdd, Nat.reduceMul, List.zip_cons_cons, List.zip_nil_left, List.zip_nil_right, List.forall_mem_nil]
              first | done | simp
            | false =>
              have hRf : R = false := by rw [hR, hx, hy]; simp
              rw [hRf]
              simp only [runA, runB, runC, runD, runE, runF, fieldE, storeE, binE, ↓reduceIte, Nat.reduceLT, Nat.reduceLeDiff, Nat.reduceEqDiff, Nat.reduceAdd, Nat.reduceMul, Nat.reduceSub, reduceCtorEq, putAt, unE, Nat.reduceBEq, convE, buildE, List.replicate, Int.reduceLT, Int.reduceLE, Int.reduceToNat, mkE, mapSetE, hN, hF, ty_3, ty_4, ty_9, ty_22, ty_29, ty_31, ty_33, ty_59, ty_74, ty_78, ty_140, notIf, isEq, h1, q1, h2, q2, h3, q3, h4, q4, h5, q5v, q5c, q5l, h6, q6v, q6c, q6l, d1, e1, j1, nt1, ntf, hx, hy]
              simp only [runB, finC, finD, Option.isSome_some, Option.isSome_none, ↓reduceIte, Nat.reduceEqDiff, Nat.reduceAdd, Nat.reduceMul, forall_eq_or_imp, forall_eq, implies_true, Nat.reduceBEq, reduceCtorEq, false_implies, List.zip_cons_cons, List.zip_nil_left, List.zip_nil_right, Nat.reduceLeDiff, List.forall_mem_nil, rs_35, ty_3, ty_4, ty_9, ty_22, ty_29, ty_31, ty_33, ty_59, ty_74, ty_78, ty_140]
        · refine vc_sound hΓ mixed _ _ _ ?_
          cases hx : ml with
          | false =>
            simp only [runA, runB, runC, runD, runE, runF, fieldE, storeE, binE, ↓reduceIte, Nat.reduceLT, Nat.reduceLeDiff, Nat.reduceEqDiff, Nat.reduceAdd, Nat.reduceMul, Nat.reduceSub, reduceCtorEq, putAt, unE, Nat.reduceBEq, convE, buildE, List.replicate, Int.reduceLT, Int.reduceLE, Int.reduceToNat, mkE, mapSetE, hN, hF, ty_3, ty_4, ty_9, ty_22, ty_29, ty_31, ty_33, ty_59, ty_74, ty_78, ty_140, notIf, isEq, h1, q1, h2, q2, h3, q3, h4, q4, h5, q5v, q5c, q5l, h6, q6v, q6c, q6l, d2, e2, j2, nt1, ntf, hx]
            refine ⟨0, _, by omega, ?_, .inr (.inr (.inr ⟨rfl, w1, w2, hA3.2 (by rw [hx]; rfl), rfl⟩))⟩
            rw [hns]
            simp only [runB, finC, finD, AS.get, AS.mem, false_implies, implies_true, ↓reduceIte, Nat.reduceEqDiff, Option.isSome_some, Option.isSome_none, forall_eq_or_imp, forall_eq, reduceCtorEq, Nat.reduceAdd, Nat.reduceMul, List.zip_cons_cons, List.zip_nil_left, List.zip_nil_right, List.forall_mem_nil]
            first | done | simp
          | true =>
            cases hy : el with
            | true =>
              simp only [runA, runB, runC, runD, runE, runF, fieldE, storeE, binE, ↓reduceIte, Nat.reduceLT, Nat.reduceLeDiff, Nat.reduceEqDiff, Nat.reduceAdd, Nat.reduceMul, Nat.reduceSub, reduceCtorEq, putAt, unE, Nat.reduceBEq, convE, buildE, List.replicate, Int.reduceLT, Int.reduceLE, Int.reduceToNat, mkE, mapSetE, hN, hF, ty_3, ty_4, ty_9, ty_22, ty_29, ty_31, ty_33, ty_59, ty_74, ty_78, ty_140, notIf, isEq, h1, q1, h2, q2, h3, q3, h4, q4, h5, q5v, q5c, q5l, h6, q6v, q6c, q6l, d2, e2, j2, nt1, ntf, hx, hy]
              refine ⟨0, _, by omega, ?_, .inr (.inr (.inr ⟨rfl, w1, w2, hA3.2 (by rw [hx, hy]; rfl), rfl⟩))⟩
              rw [hns]
              simp only [runB, finC, finD, AS.get, AS.mem, false_implies, implies_true, ↓reduceIte, Nat.reduceEqDiff, Option.isSome_some, Option.isSome_none, forall_eq_or_imp, forall_eq, reduceCtorEq, Nat.reduceAdd, Nat.reduceMul, List.zip_cons_cons, List.zip_nil_left, List.zip_nil_right, List.forall_mem_nil]
              first | done | simp
            | false =>
              have hRf : R = false := by rw [hR, hx, hy]; simp
              rw [hRf]
              simp only [runA, runB, runC, runD, runE, runF, fieldE, storeE, binE, ↓reduceIte, Nat.reduceLT, Nat.reduceLeDiff, Nat.reduceEqDiff, Nat.reduceAdd, Nat.reduceMul, Nat.reduceSub, reduceCtorEq, putAt, unE, Nat.reduceBEq, convE, buildE, List.replicate, Int.reduceLT, Int.reduceLE, Int.reduceToNat, mkE, mapSetE, hN, hF, ty_3, ty_4, ty_9, ty_22, ty_29, ty_31, ty_33, ty_59, ty_74, ty_78, ty_140, notIf, isEq, h1, q1, h2, q2, h3, q3, h4, q4, h5, q5v, q5c, q5l, h6, q6v, q6c, q6l, d2, e2, j2, nt1, ntf, hx, hy]
              simp only [runB, finC, finD, Option.isSome_some, Option.isSome_none, ↓reduceIte, Nat.reduceEqDiff, Nat.reduceAdd, Nat.reduceMul, forall_eq_or_imp, forall_eq, implies_true, Nat.reduceBEq, reduceCtorEq, false_implies, List.zip_cons_cons, List.zip_nil_left, List.zip_nil_right, Nat.reduceLeDiff, List.forall_mem_nil, rs_35, ty_3, ty_4, ty_9, ty_22, ty_29, ty_31, ty_33, ty_59, ty_74, ty_78, ty_140]
        · refine vc_sound hΓ mixed _ _ _ ?_
          have hRt : R = true := by rw [hR, hA1.1 w1, hA2.1 w2, hA3.1 w3]; rfl
          rw [hRt]
          simp only [runA, runB, runC, runD, runE, runF, fieldE, storeE, binE, ↓reduceIte, Nat.reduceLT, Nat.reduceLeDiff, Nat.reduceEqDiff, Nat.reduceAdd, Nat.reduceMul, Nat.reduceSub, reduceCtorEq, putAt, unE, Nat.reduceBEq, convE, buildE, List.replicate, Int.reduceLT, Int.reduceLE, Int.reduceToNat, mkE, mapSetE, hN, hF, ty_3, ty_4, ty_9, ty_22, ty_29, ty_31, ty_33, ty_59, ty_74, ty_78, ty_140, notIf, isEq, h1, q1, h2, q2, h3, q3, h4, q4, h5, q5v, q5c, q5l, h6, q6v, q6c, q6l, d3]
          simp only [runB, finC, finD, Option.isSome_some, Option.isSome_none, ↓reduceIte, Nat.reduceEqDiff, Nat.reduceAdd, Nat.reduceMul, forall_eq_or_imp, forall_eq, implies_true, Nat.reduceBEq, reduceCtorEq, false_implies, List.zip_cons_cons, List.zip_nil_left, List.zip_nil_right, Nat.reduceLeDiff, List.forall_mem_nil, rs_35, ty_3, ty_4, ty_9, ty_22, ty_29, ty_31, ty_33, ty_59, ty_74, ty_78, ty_140]
    | false =>
      simp only [runA, runB, runC, runD, runE, runF, fieldE, storeE, binE, ↓reduceIte, Nat.reduceLT, Nat.reduceLeDiff, Nat.reduceEqDiff, Nat.reduceAdd, Nat.reduceMul, Nat.reduceSub, reduceCtorEq, putAt, unE, Nat.reduceBEq, convE, buildE, List.replicate, Int.reduceLT, Int.reduceLE, Int.reduceToNat, mkE, mapSetE, hN, hF, ty_3, ty_4, ty_9, ty_22, ty_29, ty_31, ty_33, ty_59, ty_74, ty_78, ty_140, notIf, isEq, h1, q1, h2, q2, h3, q3, h4, q4, h5, q5v, q5c, q5l, h6, q6v, q6c, q6l, k1, nt1, ntf, k3, hm]
      refine drawnP_intro (by kernel_rfl) (by kernel_rfl) ?_
      simp only [runA, runB, runC, runD, runE, runF, fieldE, storeE, binE, ↓reduceIte, Nat.reduceLT, Nat.reduceLeDiff, Nat.reduceEqDiff, Nat.reduceAdd, Nat.reduceMul, Nat.reduceSub, reduceCtorEq, putAt, unE, Nat.reduceBEq, convE, buildE, List.replicate, Int.reduceLT, Int.reduceLE, Int.reduceToNat, mkE, mapSetE, hN, hF, ty_3, ty_4, ty_9, ty_22, ty_29, ty_31, ty_33, ty_59, ty_74, ty_78, ty_140, notIf, isEq, h1, q1, h2, q2, h3, q3, h4, q4, h5, q5v, q5c, q5l, h6, q6v, q6c, q6l, k1, nt1, ntf, k3, hm]
      refine AWP.loop (fun k st => (k = 3 ∧ st = ⟨[(1, .ptr 6400000 0), (3, .ptr 192 0), (7, .c (.str nm)), (59, .agg [.c (.int .i64 v1), .c (.int .i64 v2), .c (.str v3), .c (.int .i64 c1), .c (.int .i64 c2), .c (.str c3), .c (.int .i64 l1), .c (.int .i64 l2), .c (.str l3)]), (60, .c (.int .i64 0))], [(192, .obj [.c (.int .i64 svw), .c (.int .i64 v1), .c (.int .i64 v2), .c (.str v3), .c (.int .i64 c1), .c (.int .i64 c2), .c (.str c3), .c (.int .i64 l1), .c (.int .i64 l2), .c (.str l3), .c (.bool false)] false), (6400000, .obj [.mp 6400001] false), (6400001, .mp true es)]⟩) ∨ (k = 2 ∧ A1 ∧ st = ⟨[(1, .ptr 6400000 0), (3, .ptr 192 0), (7, .c (.str nm)), (59, .agg [.c (.int .i64 v1), .c (.int .i64 v2), .c (.str v3), .c (.int .i64 c1), .c (.int .i64 c2), .c (.str c3), .c (.int .i64 l1), .c (.int .i64 l2), .c (.str l3)]), (60, .c (.int .i64 1))], [(192, .obj [.c (.int .i64 svw), .c (.int .i64 v1), .c (.int .i64 v2), .c (.str v3), .c (.int .i64 c1), .c (.int .i64 c2), .c (.str c3), .c (.int .i64 l1), .c (.int .i64 l2), .c (.str l3), .c (.bool false)] false), (6400000, .obj [.mp 6400001] false), (6400001, .mp true es)]⟩) ∨ (k = 1 ∧ A1 ∧ A2 ∧ st = ⟨[(1, .ptr 6400000 0), (3, .ptr 192 0), (7, .c (.str nm)), (59, .agg [.c (.int .i64 v1), .c (.int .i64 v2), .c (.str v3), .c (.int .i64 c1), .c (.int .i64 c2), .c (.str c3), .c (.int .i64 l1), .c (.int .i64 l2), .c (.str l3)]), (60, .c (.int .i64 2))], [(192, .obj [.c (.int .i64 svw), .c (.int .i64 v1), .c (.int .i64 v2), .c (.str v3), .c (.int .i64 c1), .c (.int .i64 c2), .c (.str c3), .c (.int .i64 l1), .c (.int .i64 l2), .c (.str l3), .c (.bool false)] false), (6400000, .obj [.mp 6400001] false), (6400001, .mp true es)]⟩) ∨ (k = 0 ∧ A1 ∧ A2 ∧ A3 ∧ st = ⟨[(1, .ptr 6400000 0), (3, .ptr 192 0), (7, .c (.str nm)), (59, .agg [.c (.int .i64 v1), .c (.int .i64 v2), .c (.str v3), .c (.int .i64 c1), .c (.int .i64 c2), .c (.str c3), .c (.int .i64 l1), .c (.int .i64 l2), .c (.str l3)]), (60, .c (.int .i64 3))], [(192, .obj [.c (.int .i64 svw), .c (.int .i64 v1), .c (.int .i64 v2), .c (.str v3), .c (.int .i64 c1), .c (.int .i64 c2), .c (.str c3), .c (.int .i64 l1), .c (.int .i64 l2), .c (.str l3), .c (.bool false)] false), (6400000, .obj [.mp 6400001] false), (6400001, .mp true es)]⟩)) ⟨3, _, ?w, .inl ⟨rfl, rfl⟩⟩ ?r
      case w =>
        rw [hns]
        simp only [runB, finC, finD, AS.get, AS.mem, false_implies, implies_true, ↓reduceIte, Nat.reduceEqDiff, Option.isSome_some, Option.isSome_none, forall_eq_or_imp, forall_eq, reduceCtorEq, Nat.reduceAdd, Nat.reduceMul, List.zip_cons_cons, List.zip_nil_left, List.zip_nil_right, List.forall_mem_nil]
        first | done | simp
      case r =>
        rintro k st (⟨rfl, rfl⟩ | ⟨rfl, w1, rfl⟩ | ⟨rfl, w1, w2, rfl⟩ | ⟨rfl, w1, w2, w3, rfl⟩)
        · refine vc_sound hΓ mixed _ _ _ ?_
          cases hx : mv with
          | false =>
            simp only [runA, runB, runC, runD, runE, runF, fieldE, storeE, binE, ↓reduceIte, Nat.reduceLT, Nat.reduceLeDiff, Nat.reduceEqDiff, Nat.reduceAdd, Nat.reduceMul, Nat.reduceSub, reduceCtorEq, putAt, unE, Nat.reduceBEq, convE, buildE, List.replicate, Int.reduceLT, Int.reduceLE, Int.reduceToNat, mkE, mapSetE, hN, hF, ty_3, ty_4, ty_9, ty_22, ty_29, ty_31, ty_33, ty_59, ty_74, ty_78, ty_140, notIf, isEq, h1, q1, h2, q2, h3, q3, h4, q4, h5, q5v, q5c, q5l, h6, q6v, q6c, q6l, d0, e0, j0, nt1, ntf, hx]
            refine ⟨2, _, by omega, ?_, .inr (.inl ⟨rfl, hA1.2 (by rw [hx]; rfl), rfl⟩)⟩
            rw [hns]
            simp only [runB, finC, finD, AS.get, AS.mem, false_implies, implies_true, ↓reduceIte, Nat.reduceEqDiff, Option.isSome_some, Option.isSome_none, forall_eq_or_imp, forall_eq, reduceCtorEq, Nat.reduceAdd, Nat.reduceMul, List.zip_cons_cons, List.zip_nil_left, List.zip_nil_right, List.forall_mem_nil]
            first | done | simp
          | true =>
            cases hy : ev with
            | true =>
              simp only [runA, runB, runC, runD, runE, runF, fieldE, storeE, binE, ↓reduceIte, Nat.reduceLT, Nat.reduceLeDiff, Nat.reduceEqDiff, Nat.reduceAdd, Nat.reduceMul, Nat.reduceSub, reduceCtorEq, putAt, unE, Nat.reduceBEq, convE, buildE, List.replicate, Int.reduceLT, Int.reduceLE, Int.reduceToNat, mkE, mapSetE, hN, hF, ty_3, ty_4, ty_9, ty_22, ty_29, ty_31, ty_33, ty_59, ty_74, ty_78, ty_140, notIf, isEq, h1, q1, h2, q2, h3, q3, h4, q4, h5, q5v, q5c, q5l, h6, q6v, q6c, q6l, d0, e0, j0, nt1, ntf, hx, hy]
              refine ⟨2, _, by omega, ?_, .inr (.inl ⟨rfl, hA1.2 (by rw [hx, hy]; rfl), rfl⟩)⟩
              rw [hns]
              simp only [runB, finC, finD, AS.get, AS.mem, false_implies, implies_true, ↓reduceIte, Nat.reduceEqDiff, Option.isSome_some, Option.isSome_none, forall_eq_or_imp, forall_eq, reduceCtorEq, Nat.reduceAdd, Nat.reduceMul, List.zip_cons_cons, List.zip_nil_left, List.zip_nil_right, List.forall_mem_nil]
              first | done | simp
            | false =>
              have hRf : R = false := by rw [hR, hx, hy]; simp
              rw [hRf]
              simp only [runA, runB, runC, runD, runE, runF, fieldE, storeE, binE, ↓reduceIte, Nat.reduceLT, Nat.reduceLeDiff, Nat.reduceEqDiff, Nat.reduceAdd, Nat.reduceMul, Nat.reduceSub, reduceCtorEq, putAt, unE, Nat.reduceBEq, convE, buildE, List.replicate, Int.reduceLT, Int.reduceLE, Int.reduceToNat, mkE, mapSetE, hN, hF, ty_3, ty_4, ty_9, ty_22, ty_29, ty_31, ty_33, ty_59, ty_74, ty_78, ty_140, notIf, isEq, h1, q1, h2, q2, h3, q3, h4, q4, h5, q5v, q5c, q5l, h6, q6v, q6c, q6l, d0, e0, j0, nt1, ntf, hx, hy]
              simp only [runB, finC, finD, Option.isSome_some, Option.isSome_none, ↓reduceIte, Nat.reduceEqDiff, Nat.reduceAdd, Nat.reduceMul, forall_eq_or_imp, forall_eq, implies_true, Nat.reduceBEq, reduceCtorEq, false_implies, List.zip_cons_cons, List.zip_nil_left, List.zip_nil_right, Nat.reduceLeDiff, List.forall_mem_nil, rs_35, ty_3, ty_4, ty_9, ty_22, ty_29, ty_31, ty_33, ty_59, ty_74, ty_78, ty_140]
        · refine vc_sound hΓ mixed _ _ _ ?_
          cases hx : mc with
          | false =>
            simp only [runA, runB, runC, runD, runE, runF, fieldE, storeE, binE, ↓reduceIte, Nat.reduceLT, Nat.reduceLeDiff, Nat.reduceEqDiff, Nat.reduceAdd, Nat.reduceMul, Nat.reduceSub, reduceCtorEq, putAt, unE, Nat.reduceBEq, convE, buildE, List.replicate, Int.reduceLT, Int.reduceLE, Int.reduceToNat, mkE, mapSetE, hN, hF, ty_3, ty_4, ty_9, ty_22, ty_29, ty_31, ty_33, ty_59, ty_74, ty_78, ty_140, notIf, isEq, h1, q1, h2, q2, h3, q3, h4, q4, h5, q5v, q5c, q5l, h6, q6v, q6c, q6l, d1, e1, j1, nt1, ntf, hx]
            refine ⟨1, _, by omega, ?_, .inr (.inr (.inl ⟨rfl, w1, hA2.2 (by rw [hx]; rfl), rfl⟩))⟩
            rw [hns]
            simp only [runB, finC, finD, AS.get, AS.mem, false_implies, implies_true, ↓reduceIte, Nat.reduceEqDiff, Option.isSome_some, Option.isSome_none, forall_eq_or_imp, forall_eq, reduceCtorEq, Nat.reduceAdd, Nat.reduceMul, List.zip_cons_cons, List.zip_nil_left, List.zip_nil_right, List.forall_mem_nil]
            first | done | simp
          | true =>
            cases hy : ec with
            | true =>
              simp only [runA, runB, runC, runD, runE, runF, fieldE, storeE, binE, ↓reduceIte, Nat.reduceLT, Nat.reduceLeDiff, Nat.reduceEqDiff, Nat.reduceAdd, Nat.reduceMul, Nat.reduceSub, reduceCtorEq, putAt, unE, Nat.reduceBEq, convE, buildE, List.replicate, Int.reduceLT, Int.reduceLE, Int.reduceToNat, mkE, mapSetE, hN, hF, ty_3, ty_4, ty_9, ty_22, ty_29, ty_31, ty_33, ty_59, ty_74, ty_78, ty_140, notIf, isEq, h1, q1, h2, q2, h3, q3, h4, q4, h5, q5v, q5c, q5l, h6, q6v, q6c, q6l, d1, e1, j1, nt1, ntf, hx, hy]
              refine ⟨1, _, by omega, ?_, .inr (.inr (.inl ⟨rfl, w1, hA2.2 (by rw [hx, hy]; rfl), rfl⟩))⟩
              rw [hns]
              simp only [runB, finC, finD, AS.get, AS.mem, false_implies, implies_true, ↓reduceIte, Nat.reduceEqDiff, Option.isSome_some, Option.isSome_none, forall_eq_or_imp, forall_eq, reduceCtorEq, Nat.reduceAdd, Nat.reduceMul, List.zip_cons_cons, List.zip_nil_left, List.zip_nil_right, List.forall_mem_nil]
              first | done | simp
            | false =>
              have hRf : R = false := by rw [hR, hx, hy]; simp
              rw [hRf]
              simp only [runA, runB, runC, runD, runE, runF, fieldE, storeE, binE, ↓reduceIte, Nat.reduceLT, Nat.reduceLeDiff, Nat.reduceEqDiff, Nat.reduceAdd, Nat.reduceMul, Nat.reduceSub, reduceCtorEq, putAt, unE, Nat.reduceBEq, convE, buildE, List.replicate, Int.reduceLT, Int.reduceLE, Int.reduceToNat, mkE, mapSetE, hN, hF, ty_3, ty_4, ty_9, ty_22, ty_29, ty_31, ty_33, ty_59, ty_74, ty_78, ty_140, notIf, isEq, h1, q1, h2, q2, h3, q3, h4, q4, h5, q5v, q5c, q5l, h6, q6v, q6c, q6l, d1, e1, j1, nt1, ntf, hx, hy]
              simp only [runB, finC, finD, Option.isSome_some, Option.isSome_none, ↓reduceIte, Nat.reduceEqDiff, Nat.reduceAdd, Nat.reduceMul, forall_eq_or_imp, forall_eq, implies_true, Nat.reduceBEq, reduceCtorEq, false_implies, List.zip_cons_cons, List.zip_nil_left, List.zip_nil_right, Nat.reduceLeDiff, List.forall_mem_nil, rs_35, ty_3, ty_4, ty_9, ty_22, ty_29, ty_31, ty_33, ty_59, ty_74, ty_78, ty_140]
        · refine vc_sound hΓ mixed _ _ _ ?_
          cases hx : ml with
          | false =>
            simp only [runA, runB, runC, runD, runE, runF, fieldE, storeE, binE, ↓reduceIte, Nat.reduceLT, Nat.reduceLeDiff, Nat.reduceEqDiff, Nat.reduceAdd, Nat.reduceMul, Nat.reduceSub, reduceCtorEq, putAt, unE, Nat.reduceBEq, convE, buildE, List.replicate, Int.reduceLT, Int.reduceLE, Int.reduceToNat, mkE, mapSetE, hN, hF, ty_3, ty_4, ty_9, ty_22, ty_29, ty_31, ty_33, ty_59, ty_74, ty_78, ty_140, notIf, isEq, h1, q1, h2, q2, h3, q3, h4, q4, h5, q5v, q5c, q5l, h6, q6v, q6c, q6l, d2, e2, j2, nt1, ntf, hx]
            refine ⟨0, _, by omega, ?_, .inr (.inr (.inr ⟨rfl, w1, w2, hA3.2 (by rw [hx]; rfl), rfl⟩))⟩
            rw [hns]
            simp only [runB, finC, finD, AS.get, AS.mem, false_implies, implies_true, ↓reduceIte, Nat.reduceEqDiff, Option.isSome_some, Option.isSome_none, forall_eq_or_imp, forall_eq, reduceCtorEq, Nat.reduceAdd, Nat.reduceMul, List.zip_cons_cons, List.zip_nil_left, List.zip_nil_right, List.forall_mem_nil]
            first | done | simp
          | true =>
            cases hy : el with
            | true =>
              simp only [runA, runB, runC, runD, runE, runF, fieldE, storeE, binE, ↓reduceIte, Nat.reduceLT, Nat.reduceLeDiff, Nat.reduceEqDiff, Nat.reduceAdd, Nat.reduceMul, Nat.reduceSub, reduceCtorEq, putAt, unE, Nat.reduceBEq, convE, buildE, List.replicate, Int.reduceLT, Int.reduceLE, Int.reduceToNat, mkE, mapSetE, hN, hF, ty_3, ty_4, ty_9, ty_22, ty_29, ty_31, ty_33, ty_59, ty_74, ty_78, ty_140, notIf, isEq, h1, q1, h2, q2, h3, q3, h4, q4, h5, q5v, q5c, q5l, h6, q6v, q6c, q6l, d2, e2, j2, nt1, ntf, hx, hy]
              refine ⟨0, _, by omega, ?_, .inr (.inr (.inr ⟨rfl, w1, w2, hA3.2 (by rw [hx, hy]; rfl), rfl⟩))⟩
              rw [hns]
              simp only [runB, finC, finD, AS.get, AS.mem, false_implies, implies_true, ↓reduceIte, Nat.reduceEqDiff, Option.isSome_some, Option.isSome_none, forall_eq_or_imp, forall_eq, reduceCtorEq, Nat.reduceAdd, Nat.reduceMul, List.zip_cons_cons, List.zip_nil_left, List.zip_nil_right, List.forall_mem_nil]
              first | done | simp
            | false =>
              have hRf : R = false := by rw [hR, hx, hy]; simp
              rw [hRf]
              simp only [runA, runB, runC, runD, runE, runF, fieldE, storeE, binE, ↓reduceIte, Nat.reduceLT, Nat.reduceLeDiff, Nat.reduceEqDiff, Nat.reduceAdd, Nat.reduceMul, Nat.reduceSub, reduceCtorEq, putAt, unE, Nat.reduceBEq, convE, buildE, List.replicate, Int.reduceLT, Int.reduceLE, Int.reduceToNat, mkE, mapSetE, hN, hF, ty_3, ty_4, ty_9, ty_22, ty_29, ty_31, ty_33, ty_59, ty_74, ty_78, ty_140, notIf, isEq, h1, q1, h2, q2, h3, q3, h4, q4, h5, q5v, q5c, q5l, h6, q6v, q6c, q6l, d2, e2, j2, nt1, ntf, hx, hy]
              simp only [runB, finC, finD, Option.isSome_some, Option.isSome_none, ↓reduceIte, Nat.reduceEqDiff, Nat.reduceAdd, Nat.reduceMul, forall_eq_or_imp, forall_eq, implies_true, Nat.reduceBEq, reduceCtorEq, false_implies, List.zip_cons_cons, List.zip_nil_left, List.zip_nil_right, Nat.reduceLeDiff, List.forall_mem_nil, rs_35, ty_3, ty_4, ty_9, ty_22, ty_29, ty_31, ty_33, ty_59, ty_74, ty_78, ty_140]
        · refine vc_sound hΓ mixed _ _ _ ?_
          have hRt : R = true := by rw [hR, hA1.1 w1, hA2.1 w2, hA3.1 w3]; rfl
          rw [hRt]
          simp only [runA, runB, runC, runD, runE, runF, fieldE, storeE, binE, ↓reduceIte, Nat.reduceLT, Nat.reduceLeDiff, Nat.reduceEqDiff, Nat.reduceAdd, Nat.reduceMul, Nat.reduceSub, reduceCtorEq, putAt, unE, Nat.reduceBEq, convE, buildE, List.replicate, Int.reduceLT, Int.reduceLE, Int.reduceToNat, mkE, mapSetE, hN, hF, ty_3, ty_4, ty_9, ty_22, ty_29, ty_31, ty_33, ty_59, ty_74, ty_78, ty_140, notIf, isEq, h1, q1, h2, q2, h3, q3, h4, q4, h5, q5v, q5c, q5l, h6, q6v, q6c, q6l, d3]
          simp only [runB, finC, finD, Option.isSome_some, Option.isSome_none, ↓reduceIte, Nat.reduceEqDiff, Nat.reduceAdd, Nat.reduceMul, forall_eq_or_imp, forall_eq, implies_true, Nat.reduceBEq, reduceCtorEq, false_implies, List.zip_cons_cons, List.zip_nil_left, List.zip_nil_right, Nat.reduceLeDiff, List.forall_mem_nil, rs_35, ty_3, ty_4, ty_9, ty_22, ty_29, ty_31, ty_33, ty_59, ty_74, ty_78, ty_140]

end Go.Proofs.YtenmlgalcjkdbaaGreat.AM
set_option linter.unusedVariables false
set_option linter.unusedSimpArgs false
namespace Go.Proofs.YtenmlgalcjkdbaaGreat.AM
open Go

variable {Γ : FuncId → Contract}


theorem bmk_p (b : Blk) (h : b.txs.length ≤ 9223372036854775807) : bmkC [.agg [.c (.int .i64 b.vw), .c (.int .i64 b.ht), .c (.str b.pa), .c (.int .i64 b.ju.vw), .c (.int .i64 b.ju.ht), .c (.str b.ju.bl), .c (.sl (votes b.ju.vs)), .c (.sl (trows b.txs)), .c (.str b.sig)]] [] = some ⟨[.pv (.agg [.c (.int .i64 b.vw), .c (.int .i64 b.ht), .c (.str (nameS b))])], []⟩ := bmk_at b.vw b.ht b.pa b.ju.vw b.ju.ht b.ju.bl b.ju.vs b.txs b.sig h
theorem getT_g (o : List Blk) (s : List UInt8) (h : treeOK o) : getTC [.ptr 6400000 0, .c (.str s)] [[.mp true (esOf o)]] = some ⟨[.pv (.agg [.c (.int .i64 (gotB o s).vw), .c (.int .i64 (gotB o s).ht), .c (.str (gotB o s).pa), .c (.int .i64 (gotB o s).ju.vw), .c (.int .i64 (gotB o s).ju.ht), .c (.str (gotB o s).ju.bl), .c (.sl (votes (gotB o s).ju.vs)), .c (.sl (trows (gotB o s).txs)), .c (.str (gotB o s).sig)]), .pv (.c (.bool (atB o s).isSome))], [[.mp true (esOf o)]]⟩ := getT_at o s h
noncomputable def mcC : Contract := mkC (α := Gs × List Blk × Mk) (fun p => treeOK p.2.1) (fun p => [p.1.av, .ptr 6400000 0, p.2.2.av]) (fun p => [[.mp true (esOf p.2.1)]]) (fun p => ⟨[.pv (.c (.bool (mayC p.1 p.2.1 p.2.2)))], [[.mp true (esOf p.2.1)]]⟩)
theorem mc_at (svw : Int) (svovw : Int) (svoht : Int) (svobl : List UInt8) (scovw : Int) (scoht : Int) (scobl : List UInt8) (slovw : Int) (sloht : Int) (slobl : List UInt8) (ssp : Bool) (o : List Blk) (mvw : Int) (mht : Int) (mbl : List UInt8) (g0 : treeOK o) : mcC [(.agg [.c (.int .i64 svw), .c (.int .i64 svovw), .c (.int .i64 svoht), .c (.str svobl), .c (.int .i64 scovw), .c (.int .i64 scoht), .c (.str scobl), .c (.int .i64 slovw), .c (.int .i64 sloht), .c (.str slobl), .c (.bool ssp)]), .ptr 6400000 0, (.agg [.c (.int .i64 mvw), .c (.int .i64 mht), .c (.str mbl)])] [[.mp true (esOf o)]] = some ⟨[.pv (.c (.bool (mayC (⟨svw, ⟨svovw, svoht, svobl⟩, ⟨scovw, scoht, scobl⟩, ⟨slovw, sloht, slobl⟩, ssp⟩ : Gs) o (⟨mvw, mht, mbl⟩ : Mk))))], [[.mp true (esOf o)]]⟩ := by
  exact mkC_at (α := Gs × List Blk × Mk) (⟨svw, ⟨svovw, svoht, svobl⟩, ⟨scovw, scoht, scobl⟩, ⟨slovw, sloht, slobl⟩, ssp⟩, o, ⟨mvw, mht, mbl⟩) g0 (by
    rintro ⟨s', o', m'⟩ _ h ho
    have hh := And.intro h ho
    clear h ho
    simp only [List.cons.injEq, AV.c.injEq, AV.agg.injEq, PC.int.injEq, PC.str.injEq, PC.bool.injEq, PC.sl.injEq, OV.c.injEq, OV.own.injEq, OV.mp.injEq, bytes_iff, texts_iff, true_and, and_true, and_self, beq_self_eq_true, Gs.av_iff, Mk.av_iff, esOf_iff] at hh
    simp only [hh])

set_option maxRecDepth 100000 in
set_option maxHeartbeats 4000000 in
theorem mc_sound (hΓ : SoundG Tryz.prog Γ) (h1 : Γ 86 = getTC) (h2 : Γ 87 = bmkC) (h3 : Γ 83 = chnC) (h4 : Γ 84 = mineC) (h5 : Γ 85 = exdC) : SoundC Tryz.prog 37 mcC := by
  refine sound_fn Tryz.func37 (by kernel_rfl) rfl rfl ?_
  intro args objs r0 hr
  obtain ⟨⟨⟨svw, ⟨v1, v2, v3⟩, ⟨c1, c2, c3⟩, ⟨l1, l2, l3⟩, sp⟩, o, ⟨m1, m2, m3⟩⟩, ho, rfl, rfl, rfl⟩ := mkC_inv hr
  refine ⟨rfl, by show 3 ≤ _; decide, fun E hN hns hF => ?_⟩
  refine vc_sound hΓ mixed _ _ _ ?_
  have hN := hN.trans nt_37
  have ho : treeOK o := ho
  have hM : mayC (⟨svw, ⟨v1, v2, v3⟩, ⟨c1, c2, c3⟩, ⟨l1, l2, l3⟩, sp⟩ : Gs) o ⟨m1, m2, m3⟩ = (if !(atB o m3).isSome || ((m1 != svw) || (sp || !decide ((⟨(gotB o m3).vw, (gotB o m3).ht, nameS (gotB o m3)⟩ : Mk) = ⟨m1, m2, m3⟩))) then false else if !(walkS o m3).2 then false else if mineM (⟨svw, ⟨v1, v2, v3⟩, ⟨c1, c2, c3⟩, ⟨l1, l2, l3⟩, sp⟩ : Gs) ⟨c1, c2, c3⟩ && (decide (m2 ≤ c2) || !extS o m3 c3) then false else !mineM (⟨svw, ⟨v1, v2, v3⟩, ⟨c1, c2, c3⟩, ⟨l1, l2, l3⟩, sp⟩ : Gs) ⟨v1, v2, v3⟩ || (extS o m3 v3 || extS o v3 m3)) := rfl
  have q1 := getT_g o m3 ho
  have hsm := got_sm ho m3
  have q3 := chn_at o m3 ho
  have q4v := mine_at svw v1 v2 v3 c1 c2 c3 l1 l2 l3 sp v1 v2 v3
  have q4c := mine_at svw v1 v2 v3 c1 c2 c3 l1 l2 l3 sp c1 c2 c3
  have q5a := exd_at o m3 c3 ho
  have q5b := exd_at o m3 v3 ho
  have q5c := exd_at o v3 m3 ho
  have q2 := bmk_p (gotB o m3) (by have := hsm.1; omega)
  have qe := eq_mk ⟨(gotB o m3).vw, (gotB o m3).ht, nameS (gotB o m3)⟩ ⟨m1, m2, m3⟩
  dsimp only at qe
  dsimp only
  rw [hM]
  unfold Gs.av Mk.av
  dsimp only
  generalize decide ((⟨(gotB o m3).vw, (gotB o m3).ht, nameS (gotB o m3)⟩ : Mk) = ⟨m1, m2, m3⟩) = be at qe ⊢
  generalize nameS (gotB o m3) = nb at q2 qe
  generalize gotB o m3 = y at q1 q2 qe
  generalize (atB o m3).isSome = ia at q1 ⊢
  generalize mineM (⟨svw, ⟨v1, v2, v3⟩, ⟨c1, c2, c3⟩, ⟨l1, l2, l3⟩, sp⟩ : Gs) ⟨v1, v2, v3⟩ = mv at q4v ⊢
  generalize mineM (⟨svw, ⟨v1, v2, v3⟩, ⟨c1, c2, c3⟩, ⟨l1, l2, l3⟩, sp⟩ : Gs) ⟨c1, c2, c3⟩ = mc at q4c ⊢
  generalize extS o m3 c3 = ea at q5a ⊢
  generalize extS o m3 v3 = eb at q5b ⊢
  generalize extS o v3 m3 = ec at q5c ⊢
  generalize (walkS o m3).2 = wk at q3 ⊢
  generalize brows (walkS o m3).1.reverse = wl at q3
  generalize esOf o = es at q1 q3 q5a q5b q5c ⊢
  have nt1 : (!true) = false := rfl
  have ntf : (!false) = true := rfl
  obtain ⟨R, hR⟩ : ∃ R, R = (if !ia || ((m1 != svw) || (sp || !be)) then false else if !wk then false else if mc && (decide (m2 ≤ c2) || !ea) then false else !mv || (eb || ec)) := ⟨_, rfl⟩
  rw [← hR]
  cases ia with
  | false =>
    have hr : R = false := by rw [hR]; simp []
    rw [hr]
    simp only [runA, runB, runC, runD, runE, runF, fieldE, storeE, binE, ↓reduceIte, Nat.reduceLT, Nat.reduceLeDiff, Nat.reduceEqDiff, Nat.reduceAdd, Nat.reduceMul, Nat.reduceSub, reduceCtorEq, putAt, unE, Nat.reduceBEq, convE, buildE, List.replicate, Int.reduceLT, Int.reduceLE, Int.reduceToNat, mkE, mapSetE, hN, hF, ty_3, ty_4, ty_9, ty_22, ty_31, ty_33, ty_59, ty_74, ty_78, notIf, isEq, h1, q1, h2, q2, h3, q3, eqg_mk, qe, h4, q4v, q4c, h5, q5a, q5b, q5c, nt1, ntf]
    refine drawnP_intro (by kernel_rfl) (by kernel_rfl) ?_
    simp only [runA, runB, runC, runD, runE, runF, fieldE, storeE, binE, ↓reduceIte, Nat.reduceLT, Nat.reduceLeDiff, Nat.reduceEqDiff, Nat.reduceAdd, Nat.reduceMul, Nat.reduceSub, reduceCtorEq, putAt, unE, Nat.reduceBEq, convE, buildE, List.replicate, Int.reduceLT, Int.reduceLE, Int.reduceToNat, mkE, mapSetE, hN, hF, ty_3, ty_4, ty_9, ty_22, ty_31, ty_33, ty_59, ty_74, ty_78, notIf, isEq, h1, q1, h2, q2, h3, q3, eqg_mk, qe, h4, q4v, q4c, h5, q5a, q5b, q5c, nt1, ntf]
    simp only [runB, finC, finD, Option.isSome_some, Option.isSome_none, ↓reduceIte, Nat.reduceEqDiff, Nat.reduceAdd, Nat.reduceMul, forall_eq_or_imp, forall_eq, implies_true, Nat.reduceBEq, reduceCtorEq, false_implies, List.zip_cons_cons, List.zip_nil_left, List.zip_nil_right, Nat.reduceLeDiff, List.forall_mem_nil, rs_37, ty_3, ty_4, ty_9, ty_22, ty_31, ty_33, ty_59, ty_74, ty_78]
  | true =>
  cases k1 : m1 != svw with
  | true =>
    have hr : R = false := by rw [hR]; simp [k1]
    rw [hr]
    simp only [runA, runB, runC, runD, runE, runF, fieldE, storeE, binE, ↓reduceIte, Nat.reduceLT, Nat.reduceLeDiff, Nat.reduceEqDiff, Nat.reduceAdd, Nat.reduceMul, Nat.reduceSub, reduceCtorEq, putAt, unE, Nat.reduceBEq, convE, buildE, List.replicate, Int.reduceLT, Int.reduceLE, Int.reduceToNat, mkE, mapSetE, hN, hF, ty_3, ty_4, ty_9, ty_22, ty_31, ty_33, ty_59, ty_74, ty_78, notIf, isEq, h1, q1, h2, q2, h3, q3, eqg_mk, qe, h4, q4v, q4c, h5, q5a, q5b, q5c, nt1, ntf, k1]
    refine drawnP_intro (by kernel_rfl) (by kernel_rfl) ?_
    simp only [runA, runB, runC, runD, runE, runF, fieldE, storeE, binE, ↓reduceIte, Nat.reduceLT, Nat.reduceLeDiff, Nat.reduceEqDiff, Nat.reduceAdd, Nat.reduceMul, Nat.reduceSub, reduceCtorEq, putAt, unE, Nat.reduceBEq, convE, buildE, List.replicate, Int.reduceLT, Int.reduceLE, Int.reduceToNat, mkE, mapSetE, hN, hF, ty_3, ty_4, ty_9, ty_22, ty_31, ty_33, ty_59, ty_74, ty_78, notIf, isEq, h1, q1, h2, q2, h3, q3, eqg_mk, qe, h4, q4v, q4c, h5, q5a, q5b, q5c, nt1, ntf, k1]
    simp only [runB, finC, finD, Option.isSome_some, Option.isSome_none, ↓reduceIte, Nat.reduceEqDiff, Nat.reduceAdd, Nat.reduceMul, forall_eq_or_imp, forall_eq, implies_true, Nat.reduceBEq, reduceCtorEq, false_implies, List.zip_cons_cons, List.zip_nil_left, List.zip_nil_right, Nat.reduceLeDiff, List.forall_mem_nil, rs_37, ty_3, ty_4, ty_9, ty_22, ty_31, ty_33, ty_59, ty_74, ty_78]
  | false =>
  cases sp with
  | true =>
    have hr : R = false := by rw [hR]; simp [k1]
    rw [hr]
    simp only [runA, runB, runC, runD, runE, runF, fieldE, storeE, binE, ↓reduceIte, Nat.reduceLT, Nat.reduceLeDiff, Nat.reduceEqDiff, Nat.reduceAdd, Nat.reduceMul, Nat.reduceSub, reduceCtorEq, putAt, unE, Nat.reduceBEq, convE, buildE, List.replicate, Int.reduceLT, Int.reduceLE, Int.reduceToNat, mkE, mapSetE, hN, hF, ty_3, ty_4, ty_9, ty_22, ty_31, ty_33, ty_59, ty_74, ty_78, notIf, isEq, h1, q1, h2, q2, h3, q3, eqg_mk, qe, h4, q4v, q4c, h5, q5a, q5b, q5c, nt1, ntf, k1]
    refine drawnP_intro (by kernel_rfl) (by kernel_rfl) ?_
    simp only [runA, runB, runC, runD, runE, runF, fieldE, storeE, binE, ↓reduceIte, Nat.reduceLT, Nat.reduceLeDiff, Nat.reduceEqDiff, Nat.reduceAdd, Nat.reduceMul, Nat.reduceSub, reduceCtorEq, putAt, unE, Nat.reduceBEq, convE, buildE, List.replicate, Int.reduceLT, Int.reduceLE, Int.reduceToNat, mkE, mapSetE, hN, hF, ty_3, ty_4, ty_9, ty_22, ty_31, ty_33, ty_59, ty_74, ty_78, notIf, isEq, h1, q1, h2, q2, h3, q3, eqg_mk, qe, h4, q4v, q4c, h5, q5a, q5b, q5c, nt1, ntf, k1]
    simp only [runB, finC, finD, Option.isSome_some, Option.isSome_none, ↓reduceIte, Nat.reduceEqDiff, Nat.reduceAdd, Nat.reduceMul, forall_eq_or_imp, forall_eq, implies_true, Nat.reduceBEq, reduceCtorEq, false_implies, List.zip_cons_cons, List.zip_nil_left, List.zip_nil_right, Nat.reduceLeDiff, List.forall_mem_nil, rs_37, ty_3, ty_4, ty_9, ty_22, ty_31, ty_33, ty_59, ty_74, ty_78]
  | false =>
  cases be with
  | false =>
    have hr : R = false := by rw [hR]; simp [k1]
    rw [hr]
    simp only [runA, runB, runC, runD, runE, runF, fieldE, storeE, binE, ↓reduceIte, Nat.reduceLT, Nat.reduceLeDiff, Nat.reduceEqDiff, Nat.reduceAdd, Nat.reduceMul, Nat.reduceSub, reduceCtorEq, putAt, unE, Nat.reduceBEq, convE, buildE, List.replicate, Int.reduceLT, Int.reduceLE, Int.reduceToNat, mkE, mapSetE, hN, hF, ty_3, ty_4, ty_9, ty_22, ty_31, ty_33, ty_59, ty_74, ty_78, notIf, isEq, h1, q1, h2, q2, h3, q3, eqg_mk, qe, h4, q4v, q4c, h5, q5a, q5b, q5c, nt1, ntf, k1]
    refine drawnP_intro (by kernel_rfl) (by kernel_rfl) ?_
    simp only [runA, runB, runC, runD, runE, runF, fieldE, storeE, binE, ↓reduceIte, Nat.reduceLT, Nat.reduceLeDiff, Nat.reduceEqDiff, Nat.reduceAdd, Nat.reduceMul, Nat.reduceSub, reduceCtorEq, putAt, unE, Nat.reduceBEq, convE, buildE, List.replicate, Int.reduceLT, Int.reduceLE, Int.reduceToNat, mkE, mapSetE, hN, hF, ty_3, ty_4, ty_9, ty_22, ty_31, ty_33, ty_59, ty_74, ty_78, notIf, isEq, h1, q1, h2, q2, h3, q3, eqg_mk, qe, h4, q4v, q4c, h5, q5a, q5b, q5c, nt1, ntf, k1]
    simp only [runB, finC, finD, Option.isSome_some, Option.isSome_none, ↓reduceIte, Nat.reduceEqDiff, Nat.reduceAdd, Nat.reduceMul, forall_eq_or_imp, forall_eq, implies_true, Nat.reduceBEq, reduceCtorEq, false_implies, List.zip_cons_cons, List.zip_nil_left, List.zip_nil_right, Nat.reduceLeDiff, List.forall_mem_nil, rs_37, ty_3, ty_4, ty_9, ty_22, ty_31, ty_33, ty_59, ty_74, ty_78]
  | true =>
  cases wk with
  | false =>
    have hr : R = false := by rw [hR]; simp [k1]
    rw [hr]
    simp only [runA, runB, runC, runD, runE, runF, fieldE, storeE, binE, ↓reduceIte, Nat.reduceLT, Nat.reduceLeDiff, Nat.reduceEqDiff, Nat.reduceAdd, Nat.reduceMul, Nat.reduceSub, reduceCtorEq, putAt, unE, Nat.reduceBEq, convE, buildE, List.replicate, Int.reduceLT, Int.reduceLE, Int.reduceToNat, mkE, mapSetE, hN, hF, ty_3, ty_4, ty_9, ty_22, ty_31, ty_33, ty_59, ty_74, ty_78, notIf, isEq, h1, q1, h2, q2, h3, q3, eqg_mk, qe, h4, q4v, q4c, h5, q5a, q5b, q5c, nt1, ntf, k1]
    refine drawnP_intro (by kernel_rfl) (by kernel_rfl) ?_
    simp only [runA, runB, runC, runD, runE, runF, fieldE, storeE, binE, ↓reduceIte, Nat.reduceLT, Nat.reduceLeDiff, Nat.reduceEqDiff, Nat.reduceAdd, Nat.reduceMul, Nat.reduceSub, reduceCtorEq, putAt, unE, Nat.reduceBEq, convE, buildE, List.replicate, Int.reduceLT, Int.reduceLE, Int.reduceToNat, mkE, mapSetE, hN, hF, ty_3, ty_4, ty_9, ty_22, ty_31, ty_33, ty_59, ty_74, ty_78, notIf, isEq, h1, q1, h2, q2, h3, q3, eqg_mk, qe, h4, q4v, q4c, h5, q5a, q5b, q5c, nt1, ntf, k1]
    simp only [runB, finC, finD, Option.isSome_some, Option.isSome_none, ↓reduceIte, Nat.reduceEqDiff, Nat.reduceAdd, Nat.reduceMul, forall_eq_or_imp, forall_eq, implies_true, Nat.reduceBEq, reduceCtorEq, false_implies, List.zip_cons_cons, List.zip_nil_left, List.zip_nil_right, Nat.reduceLeDiff, List.forall_mem_nil, rs_37, ty_3, ty_4, ty_9, ty_22, ty_31, ty_33, ty_59, ty_74, ty_78]
  | true =>
  cases mc with
  | false =>
    cases mv with
    | false =>
      have hr : R = true := by rw [hR]; simp [k1]
      rw [hr]
      simp only [runA, runB, runC, runD, runE, runF, fieldE, storeE, binE, ↓reduceIte, Nat.reduceLT, Nat.reduceLeDiff, Nat.reduceEqDiff, Nat.reduceAdd, Nat.reduceMul, Nat.reduceSub, reduceCtorEq, putAt, unE, Nat.reduceBEq, convE, buildE, List.replicate, Int.reduceLT, Int.reduceLE, Int.reduceToNat, mkE, mapSetE, hN, hF, ty_3, ty_4, ty_9, ty_22, ty_31, ty_33, ty_59, ty_74, ty_78, notIf, isEq, h1, q1, h2, q2, h3, q3, eqg_mk, qe, h4, q4v, q4c, h5, q5a, q5b, q5c, nt1, ntf, k1]
      refine drawnP_intro (by kernel_rfl) (by kernel_rfl) ?_
      simp only [runA, runB, runC, runD, runE, runF, fieldE, storeE, binE, ↓reduceIte, Nat.reduceLT, Nat.reduceLeDiff, Nat.reduceEqDiff, Nat.reduceAdd, Nat.reduceMul, Nat.reduceSub, reduceCtorEq, putAt, unE, Nat.reduceBEq, convE, buildE, List.replicate, Int.reduceLT, Int.reduceLE, Int.reduceToNat, mkE, mapSetE, hN, hF, ty_3, ty_4, ty_9, ty_22, ty_31, ty_33, ty_59, ty_74, ty_78, notIf, isEq, h1, q1, h2, q2, h3, q3, eqg_mk, qe, h4, q4v, q4c, h5, q5a, q5b, q5c, nt1, ntf, k1]
      simp only [runB, finC, finD, Option.isSome_some, Option.isSome_none, ↓reduceIte, Nat.reduceEqDiff, Nat.reduceAdd, Nat.reduceMul, forall_eq_or_imp, forall_eq, implies_true, Nat.reduceBEq, reduceCtorEq, false_implies, List.zip_cons_cons, List.zip_nil_left, List.zip_nil_right, Nat.reduceLeDiff, List.forall_mem_nil, rs_37, ty_3, ty_4, ty_9, ty_22, ty_31, ty_33, ty_59, ty_74, ty_78]
    | true =>
      cases eb with
      | true =>
        have hr : R = true := by rw [hR]; simp [k1]
        rw [hr]
        simp only [runA, runB, runC, runD, runE, runF, fieldE, storeE, binE, ↓reduceIte, Nat.reduceLT, Nat.reduceLeDiff, Nat.reduceEqDiff, Nat.reduceAdd, Nat.reduceMul, Nat.reduceSub, reduceCtorEq, putAt, unE, Nat.reduceBEq, convE, buildE, List.replicate, Int.reduceLT, Int.reduceLE, Int.reduceToNat, mkE, mapSetE, hN, hF, ty_3, ty_4, ty_9, ty_22, ty_31, ty_33, ty_59, ty_74, ty_78, notIf, isEq, h1, q1, h2, q2, h3, q3, eqg_mk, qe, h4, q4v, q4c, h5, q5a, q5b, q5c, nt1, ntf, k1]
        refine drawnP_intro (by kernel_rfl) (by kernel_rfl) ?_
        simp only [runA, runB, runC, runD, runE, runF, fieldE, storeE, binE, ↓reduceIte, Nat.reduceLT, Nat.reduceLeDiff, Nat.reduceEqDiff, Nat.reduceAdd, Nat.reduceMul, Nat.reduceSub, reduceCtorEq, putAt, unE, Nat.reduceBEq, convE, buildE, List.replicate, Int.reduceLT, Int.reduceLE, Int.reduceToNat, mkE, mapSetE, hN, hF, ty_3, ty_4, ty_9, ty_22, ty_31, ty_33, ty_59, ty_74, ty_78, notIf, isEq, h1, q1, h2, q2, h3, q3, eqg_mk, qe, h4, q4v, q4c, h5, q5a, q5b, q5c, nt1, ntf, k1]
        simp only [runB, finC, finD, Option.isSome_some, Option.isSome_none, ↓reduceIte, Nat.reduceEqDiff, Nat.reduceAdd, Nat.reduceMul, forall_eq_or_imp, forall_eq, implies_true, Nat.reduceBEq, reduceCtorEq, false_implies, List.zip_cons_cons, List.zip_nil_left, List.zip_nil_right, Nat.reduceLeDiff, List.forall_mem_nil, rs_37, ty_3, ty_4, ty_9, ty_22, ty_31, ty_33, ty_59, ty_74, ty_78]
      | false =>
        have hr : R = ec := by rw [hR]; simp [k1]
        rw [hr]
        simp only [runA, runB, runC, runD, runE, runF, fieldE, storeE, binE, ↓reduceIte, Nat.reduceLT, Nat.reduceLeDiff, Nat.reduceEqDiff, Nat.reduceAdd, Nat.reduceMul, Nat.reduceSub, reduceCtorEq, putAt, unE, Nat.reduceBEq, convE, buildE, List.replicate, Int.reduceLT, Int.reduceLE, Int.reduceToNat, mkE, mapSetE, hN, hF, ty_3, ty_4, ty_9, ty_22, ty_31, ty_33, ty_59, ty_74, ty_78, notIf, isEq, h1, q1, h2, q2, h3, q3, eqg_mk, qe, h4, q4v, q4c, h5, q5a, q5b, q5c, nt1, ntf, k1]
        refine drawnP_intro (by kernel_rfl) (by kernel_rfl) ?_
        simp only [runA, runB, runC, runD, runE, runF, fieldE, storeE, binE, ↓reduceIte, Nat.reduceLT, Nat.reduceLeDiff, Nat.reduceEqDiff, Nat.reduceAdd, Nat.reduceMul, Nat.reduceSub, reduceCtorEq, putAt, unE, Nat.reduceBEq, convE, buildE, List.replicate, Int.reduceLT, Int.reduceLE, Int.reduceToNat, mkE, mapSetE, hN, hF, ty_3, ty_4, ty_9, ty_22, ty_31, ty_33, ty_59, ty_74, ty_78, notIf, isEq, h1, q1, h2, q2, h3, q3, eqg_mk, qe, h4, q4v, q4c, h5, q5a, q5b, q5c, nt1, ntf, k1]
        simp only [runB, finC, finD, Option.isSome_some, Option.isSome_none, ↓reduceIte, Nat.reduceEqDiff, Nat.reduceAdd, Nat.reduceMul, forall_eq_or_imp, forall_eq, implies_true, Nat.reduceBEq, reduceCtorEq, false_implies, List.zip_cons_cons, List.zip_nil_left, List.zip_nil_right, Nat.reduceLeDiff, List.forall_mem_nil, rs_37, ty_3, ty_4, ty_9, ty_22, ty_31, ty_33, ty_59, ty_74, ty_78]
  | true =>
  cases k2 : decide (m2 ≤ c2) with
  | true =>
    have hr : R = false := by rw [hR]; simp [k1, k2]
    rw [hr]
    simp only [runA, runB, runC, runD, runE, runF, fieldE, storeE, binE, ↓reduceIte, Nat.reduceLT, Nat.reduceLeDiff, Nat.reduceEqDiff, Nat.reduceAdd, Nat.reduceMul, Nat.reduceSub, reduceCtorEq, putAt, unE, Nat.reduceBEq, convE, buildE, List.replicate, Int.reduceLT, Int.reduceLE, Int.reduceToNat, mkE, mapSetE, hN, hF, ty_3, ty_4, ty_9, ty_22, ty_31, ty_33, ty_59, ty_74, ty_78, notIf, isEq, h1, q1, h2, q2, h3, q3, eqg_mk, qe, h4, q4v, q4c, h5, q5a, q5b, q5c, nt1, ntf, k1, k2]
    refine drawnP_intro (by kernel_rfl) (by kernel_rfl) ?_
    simp only [runA, runB, runC, runD, runE, runF, fieldE, storeE, binE, ↓reduceIte, Nat.reduceLT, Nat.reduceLeDiff, Nat.reduceEqDiff, Nat.reduceAdd, Nat.reduceMul, Nat.reduceSub, reduceCtorEq, putAt, unE, Nat.reduceBEq, convE, buildE, List.replicate, Int.reduceLT, Int.reduceLE, Int.reduceToNat, mkE, mapSetE, hN, hF, ty_3, ty_4, ty_9, ty_22, ty_31, ty_33, ty_59, ty_74, ty_78, notIf, isEq, h1, q1, h2, q2, h3, q3, eqg_mk, qe, h4, q4v, q4c, h5, q5a, q5b, q5c, nt1, ntf, k1, k2]
    simp only [runB, finC, finD, Option.isSome_some, Option.isSome_none, ↓reduceIte, Nat.reduceEqDiff, Nat.reduceAdd, Nat.reduceMul, forall_eq_or_imp, forall_eq, implies_true, Nat.reduceBEq, reduceCtorEq, false_implies, List.zip_cons_cons, List.zip_nil_left, List.zip_nil_right, Nat.reduceLeDiff, List.forall_mem_nil, rs_37, ty_3, ty_4, ty_9, ty_22, ty_31, ty_33, ty_59, ty_74, ty_78]
  | false =>
  cases ea with
  | false =>
    have hr : R = false := by rw [hR]; simp [k1, k2]
    rw [hr]
    simp only [runA, runB, runC, runD, runE, runF, fieldE, storeE, binE, ↓reduceIte, Nat.reduceLT, Nat.reduceLeDiff, Nat.reduceEqDiff, Nat.reduceAdd, Nat.reduceMul, Nat.reduceSub, reduceCtorEq, putAt, unE, Nat.reduceBEq, convE, buildE, List.replicate, Int.reduceLT, Int.reduceLE, Int.reduceToNat, mkE, mapSetE, hN, hF, ty_3, ty_4, ty_9, ty_22, ty_31, ty_33, ty_59, ty_74, ty_78, notIf, isEq, h1, q1, h2, q2, h3, q3, eqg_mk, qe, h4, q4v, q4c, h5, q5a, q5b, q5c, nt1, ntf, k1, k2]
    refine drawnP_intro (by kernel_rfl) (by kernel_rfl) ?_
    simp only [runA, runB, runC, runD, runE, runF, fieldE, storeE, binE, ↓reduceIte, Nat.reduceLT, Nat.reduceLeDiff, Nat.reduceEqDiff, Nat.reduceAdd, Nat.reduceMul, Nat.reduceSub, reduceCtorEq, putAt, unE, Nat.reduceBEq, convE, buildE, List.replicate, Int.reduceLT, Int.reduceLE, Int.reduceToNat, mkE, mapSetE, hN, hF, ty_3, ty_4, ty_9, ty_22, ty_31, ty_33, ty_59, ty_74, ty_78, notIf, isEq, h1, q1, h2, q2, h3, q3, eqg_mk, qe, h4, q4v, q4c, h5, q5a, q5b, q5c, nt1, ntf, k1, k2]
    simp only [runB, finC, finD, Option.isSome_some, Option.isSome_none, ↓reduceIte, Nat.reduceEqDiff, Nat.reduceAdd, Nat.reduceMul, forall_eq_or_imp, forall_eq, implies_true, Nat.reduceBEq, reduceCtorEq, false_implies, List.zip_cons_cons, List.zip_nil_left, List.zip_nil_right, Nat.reduceLeDiff, List.forall_mem_nil, rs_37, ty_3, ty_4, ty_9, ty_22, ty_31, ty_33, ty_59, ty_74, ty_78]
  | true =>
    cases mv with
    | false =>
      have hr : R = true := by rw [hR]; simp [k1, k2]
      rw [hr]
      simp only [runA, runB, runC, runD, runE, runF, fieldE, storeE, binE, ↓reduceIte, Nat.reduceLT, Nat.reduceLeDiff, Nat.reduceEqDiff, Nat.reduceAdd, Nat.reduceMul, Nat.reduceSub, reduceCtorEq, putAt, unE, Nat.reduceBEq, convE, buildE, List.replicate, Int.reduceLT, Int.reduceLE, Int.reduceToNat, mkE, mapSetE, hN, hF, ty_3, ty_4, ty_9, ty_22, ty_31, ty_33, ty_59, ty_74, ty_78, notIf, isEq, h1, q1, h2, q2, h3, q3, eqg_mk, qe, h4, q4v, q4c, h5, q5a, q5b, q5c, nt1, ntf, k1, k2]
      refine drawnP_intro (by kernel_rfl) (by kernel_rfl) ?_
      simp only [runA, runB, runC, runD, runE, runF, fieldE, storeE, binE, ↓reduceIte, Nat.reduceLT, Nat.reduceLeDiff, Nat.reduceEqDiff, Nat.reduceAdd, Nat.reduceMul, Nat.reduceSub, reduceCtorEq, putAt, unE, Nat.reduceBEq, convE, buildE, List.replicate, Int.reduceLT, Int.reduceLE, Int.reduceToNat, mkE, mapSetE, hN, hF, ty_3, ty_4, ty_9, ty_22, ty_31, ty_33, ty_59, ty_74, ty_78, notIf, isEq, h1, q1, h2, q2, h3, q3, eqg_mk, qe, h4, q4v, q4c, h5, q5a, q5b, q5c, nt1, ntf, k1, k2]
      simp only [runB, finC, finD, Option.isSome_some, Option.isSome_none, ↓reduceIte, Nat.reduceEqDiff, Nat.reduceAdd, Nat.reduceMul, forall_eq_or_imp, forall_eq, implies_true, Nat.reduceBEq, reduceCtorEq, false_implies, List.zip_cons_cons, List.zip_nil_left, List.zip_nil_right, Nat.reduceLeDiff, List.forall_mem_nil, rs_37, ty_3, ty_4, ty_9, ty_22, ty_31, ty_33, ty_59, ty_74, ty_78]
    | true =>
      cases eb with
      | true =>
        have hr : R = true := by rw [hR]; simp [k1, k2]
        rw [hr]
        simp only [runA, runB, runC, runD, runE, runF, fieldE, storeE, binE, ↓reduceIte, Nat.reduceLT, Nat.reduceLeDiff, Nat.reduceEqDiff, Nat.reduceAdd, Nat.reduceMul, Nat.reduceSub, reduceCtorEq, putAt, unE, Nat.reduceBEq, convE, buildE, List.replicate, Int.reduceLT, Int.reduceLE, Int.reduceToNat, mkE, mapSetE, hN, hF, ty_3, ty_4, ty_9, ty_22, ty_31, ty_33, ty_59, ty_74, ty_78, notIf, isEq, h1, q1, h2, q2, h3, q3, eqg_mk, qe, h4, q4v, q4c, h5, q5a, q5b, q5c, nt1, ntf, k1, k2]
        refine drawnP_intro (by kernel_rfl) (by kernel_rfl) ?_
        simp only [runA, runB, runC, runD, runE, runF, fieldE, storeE, binE, ↓reduceIte, Nat.reduceLT, Nat.reduceLeDiff, Nat.reduceEqDiff, Nat.reduceAdd, Nat.reduceMul, Nat.reduceSub, reduceCtorEq, putAt, unE, Nat.reduceBEq, convE, buildE, List.replicate, Int.reduceLT, Int.reduceLE, Int.reduceToNat, mkE, mapSetE, hN, hF, ty_3, ty_4, ty_9, ty_22, ty_31, ty_33, ty_59, ty_74, ty_78, notIf, isEq, h1, q1, h2, q2, h3, q3, eqg_mk, qe, h4, q4v, q4c, h5, q5a, q5b, q5c, nt1, ntf, k1, k2]
        simp only [runB, finC, finD, Option.isSome_some, Option.isSome_none, ↓reduceIte, Nat.reduceEqDiff, Nat.reduceAdd, Nat.reduceMul, forall_eq_or_imp, forall_eq, implies_true, Nat.reduceBEq, reduceCtorEq, false_implies, List.zip_cons_cons, List.zip_nil_left, List.zip_nil_right, Nat.reduceLeDiff, List.forall_mem_nil, rs_37, ty_3, ty_4, ty_9, ty_22, ty_31, ty_33, ty_59, ty_74, ty_78]
      | false =>
        have hr : R = ec := by rw [hR]; simp [k1, k2]
        rw [hr]
        simp only [runA, runB, runC, runD, runE, runF, fieldE, storeE, binE, ↓reduceIte, Nat.reduceLT, Nat.reduceLeDiff, Nat.reduceEqDiff, Nat.reduceAdd, Nat.reduceMul, Nat.reduceSub, reduceCtorEq, putAt, unE, Nat.reduceBEq, convE, buildE, List.replicate, Int.reduceLT, Int.reduceLE, Int.reduceToNat, mkE, mapSetE, hN, hF, ty_3, ty_4, ty_9, ty_22, ty_31, ty_33, ty_59, ty_74, ty_78, notIf, isEq, h1, q1, h2, q2, h3, q3, eqg_mk, qe, h4, q4v, q4c, h5, q5a, q5b, q5c, nt1, ntf, k1, k2]
        refine drawnP_intro (by kernel_rfl) (by kernel_rfl) ?_
        simp only [runA, runB, runC, runD, runE, runF, fieldE, storeE, binE, ↓reduceIte, Nat.reduceLT, Nat.reduceLeDiff, Nat.reduceEqDiff, Nat.reduceAdd, Nat.reduceMul, Nat.reduceSub, reduceCtorEq, putAt, unE, Nat.reduceBEq, convE, buildE, List.replicate, Int.reduceLT, Int.reduceLE, Int.reduceToNat, mkE, mapSetE, hN, hF, ty_3, ty_4, ty_9, ty_22, ty_31, ty_33, ty_59, ty_74, ty_78, notIf, isEq, h1, q1, h2, q2, h3, q3, eqg_mk, qe, h4, q4v, q4c, h5, q5a, q5b, q5c, nt1, ntf, k1, k2]
        simp only [runB, finC, finD, Option.isSome_some, Option.isSome_none, ↓reduceIte, Nat.reduceEqDiff, Nat.reduceAdd, Nat.reduceMul, forall_eq_or_imp, forall_eq, implies_true, Nat.reduceBEq, reduceCtorEq, false_implies, List.zip_cons_cons, List.zip_nil_left, List.zip_nil_right, Nat.reduceLeDiff, List.forall_mem_nil, rs_37, ty_3, ty_4, ty_9, ty_22, ty_31, ty_33, ty_59, ty_74, ty_78]

end Go.Proofs.YtenmlgalcjkdbaaGreat.AM
