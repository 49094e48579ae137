/-
  QC: Ge1 Ge2 Ge7 Ge8.
-/
import Derived.Test.YtcfijanfcgnnhaaQB
set_option linter.unusedVariables false
set_option linter.unusedSimpArgs false
namespace Go.Proofs.Ytcfijanfcgnnhaa.AM
open Go

variable {Γ : FuncId → Contract}


structure Gs where
  vw : Int
  vo : Mk
  co : Mk
  lo : Mk
  sp : Bool
def Gs.av (s : Gs) : AV := .agg [.c (.int .i64 s.vw), .c (.int .i64 s.vo.vw), .c (.int .i64 s.vo.ht), .c (.str s.vo.bl), .c (.int .i64 s.co.vw), .c (.int .i64 s.co.ht), .c (.str s.co.bl), .c (.int .i64 s.lo.vw), .c (.int .i64 s.lo.ht), .c (.str s.lo.bl), .c (.bool s.sp)]
theorem Gs.av_inj {a b : Gs} (h : a.av = b.av) : a = b := by
  obtain ⟨a0, ⟨a1, a2, a3⟩, ⟨a4, a5, a6⟩, ⟨a7, a8, a9⟩, aa⟩ := a
  obtain ⟨b0, ⟨b1, b2, b3⟩, ⟨b4, b5, b6⟩, ⟨b7, b8, b9⟩, ba⟩ := b
  simp only [Gs.av, AV.agg.injEq, List.cons.injEq, AV.c.injEq, PC.str.injEq, PC.int.injEq, PC.bool.injEq, true_and, and_true] at h
  obtain ⟨rfl, rfl, rfl, rfl, rfl, rfl, rfl, rfl, rfl, rfl, rfl⟩ := h
  rfl
theorem Gs.av_iff {a b : Gs} : a.av = b.av ↔ a = b := ⟨Gs.av_inj, fun h => by rw [h]⟩
def cmpI (a b : Int) : Int := if a < b then -1 else if b < a then 1 else 0
def orI (a b : Int) : Int := if a = 0 then b else a
def hiM (a b : Mk) : Bool := decide (b.vw < a.vw) || ((a.vw == b.vw) && decide (b.ht < a.ht))
theorem cmpI_lt {a b : Int} (h : a < b) : cmpI a b = -1 := if_pos h
theorem cmpI_eq {a b : Int} (h : a = b) : cmpI a b = 0 := by unfold cmpI; rw [if_neg (by omega), if_neg (by omega)]
theorem cmpI_gt {a b : Int} (h : b < a) : cmpI a b = 1 := by unfold cmpI; rw [if_neg (by omega), if_pos h]
theorem hi_or (a b : Mk) : decide (orI (cmpI a.vw b.vw) (cmpI a.ht b.ht) > 0) = hiM a b := by
  unfold hiM
  rcases Int.lt_trichotomy a.vw b.vw with h | h | h
  · rw [cmpI_lt h, decide_eq_false (show ¬ b.vw < a.vw by omega), show (a.vw == b.vw) = false from beq_eq_false_iff_ne.2 (by omega)]
    rfl
  · rw [cmpI_eq h, decide_eq_false (show ¬ b.vw < a.vw by omega), show (a.vw == b.vw) = true from beq_iff_eq.2 h]
    rcases Int.lt_trichotomy a.ht b.ht with k | k | k
    · rw [cmpI_lt k, decide_eq_false (show ¬ b.ht < a.ht by omega)]
      rfl
    · rw [cmpI_eq k, decide_eq_false (show ¬ b.ht < a.ht by omega)]
      rfl
    · rw [cmpI_gt k, decide_eq_true k]
      rfl
  · rw [cmpI_gt h, decide_eq_true h]
    rfl
noncomputable def nanC : Contract := mkC (α := Int) (fun p => True) (fun p => [.c (.int .i64 p)]) (fun p => []) (fun p => ⟨[.pv (.c (.bool false))], []⟩)
theorem nan_at (x : Int) : nanC [.c (.int .i64 x)] [] = some ⟨[.pv (.c (.bool false))], []⟩ := by
  exact mkC_at (α := Int) x trivial (by
    rintro x' _ h ho
    have hh := And.intro h ho
    clear h ho
    simp only [List.cons.injEq, AV.c.injEq, AV.agg.injEq, PC.int.injEq, PC.str.injEq, PC.bool.injEq, PC.sl.injEq, OV.c.injEq, OV.own.injEq, OV.mp.injEq, bytes_iff, texts_iff, true_and, and_true, and_self, beq_self_eq_true] at hh
    simp only [hh])

set_option maxRecDepth 100000 in
set_option maxHeartbeats 4000000 in
theorem nan_sound  : SoundC Try.prog 99 nanC := by
  refine sound_fn Try.func99 (by kernel_rfl) rfl rfl ?_
  intro args objs r0 hr
  obtain ⟨x, _, rfl, rfl, rfl⟩ := mkC_inv hr
  refine ⟨rfl, by show 1 ≤ _; decide, fun E hN hns hF => ?_⟩
  refine vc_sound none0_sound mixed _ _ _ ?_
  have hN := hN.trans nt_99
  have g0 : (x != x) = false := by simp
  simp only [runA, runB, runC, runD, runE, runF, fieldE, storeE, binE, ↓reduceIte, Nat.reduceLT, Nat.reduceLeDiff, Nat.reduceEqDiff, Nat.reduceAdd, Nat.reduceMul, Nat.reduceSub, reduceCtorEq, putAt, unE, Nat.reduceBEq, convE, buildE, List.replicate, Int.reduceLT, Int.reduceLE, Int.reduceToNat, mkE, mapSetE, hN, hF, ty_3, ty_4, notIf, isEq, g0]
  simp only [runB, finC, finD, Option.isSome_some, Option.isSome_none, ↓reduceIte, Nat.reduceEqDiff, Nat.reduceAdd, Nat.reduceMul, forall_eq_or_imp, forall_eq, implies_true, Nat.reduceBEq, reduceCtorEq, false_implies, List.zip_cons_cons, List.zip_nil_left, List.zip_nil_right, Nat.reduceLeDiff, List.forall_mem_nil, rs_99, ty_3, ty_4]
noncomputable def cmpC : Contract := mkC (α := Int × Int) (fun p => True) (fun p => [.c (.int .i64 p.1), .c (.int .i64 p.2)]) (fun p => []) (fun p => ⟨[.pv (.c (.int .i64 (cmpI p.1 p.2)))], []⟩)
theorem cmp_at (x : Int) (y : Int) : cmpC [.c (.int .i64 x), .c (.int .i64 y)] [] = some ⟨[.pv (.c (.int .i64 (cmpI x y)))], []⟩ := by
  exact mkC_at (α := Int × Int) (x, y) trivial (by
    rintro ⟨x', y'⟩ _ h ho
    have hh := And.intro h ho
    clear h ho
    simp only [List.cons.injEq, AV.c.injEq, AV.agg.injEq, PC.int.injEq, PC.str.injEq, PC.bool.injEq, PC.sl.injEq, OV.c.injEq, OV.own.injEq, OV.mp.injEq, bytes_iff, texts_iff, true_and, and_true, and_self, beq_self_eq_true] at hh
    simp only [hh])

set_option maxRecDepth 100000 in
set_option maxHeartbeats 4000000 in
theorem cmp_sound (hΓ : SoundG Try.prog Γ) (h1 : Γ 99 = nanC) : SoundC Try.prog 84 cmpC := by
  refine sound_fn Try.func84 (by kernel_rfl) rfl rfl ?_
  intro args objs r0 hr
  obtain ⟨⟨x, y⟩, _, rfl, rfl, rfl⟩ := mkC_inv hr
  refine ⟨rfl, by show 2 ≤ _; decide, fun E hN hns hF => ?_⟩
  refine vc_sound hΓ mixed _ _ _ ?_
  have hN := hN.trans nt_84
  have q1 := nan_at x
  have q2 := nan_at y
  dsimp only
  unfold cmpI
  rcases Int.lt_trichotomy x y with h | h | h
  · have k1 : decide (x < y) = true := decide_eq_true h
    rw [if_pos h]
    simp only [runA, runB, runC, runD, runE, runF, fieldE, storeE, binE, ↓reduceIte, Nat.reduceLT, Nat.reduceLeDiff, Nat.reduceEqDiff, Nat.reduceAdd, Nat.reduceMul, Nat.reduceSub, reduceCtorEq, putAt, unE, Nat.reduceBEq, convE, buildE, List.replicate, Int.reduceLT, Int.reduceLE, Int.reduceToNat, mkE, mapSetE, hN, hF, ty_3, notIf, isEq, h1, q1, q2, k1]
    simp only [runB, finC, finD, Option.isSome_some, Option.isSome_none, ↓reduceIte, Nat.reduceEqDiff, Nat.reduceAdd, Nat.reduceMul, forall_eq_or_imp, forall_eq, implies_true, Nat.reduceBEq, reduceCtorEq, false_implies, List.zip_cons_cons, List.zip_nil_left, List.zip_nil_right, Nat.reduceLeDiff, List.forall_mem_nil, rs_84, ty_3]
  · have k1 : decide (x < y) = false := decide_eq_false (by omega)
    have k2 : decide (x > y) = false := decide_eq_false (by omega)
    rw [if_neg (by omega), if_neg (by omega)]
    simp only [runA, runB, runC, runD, runE, runF, fieldE, storeE, binE, ↓reduceIte, Nat.reduceLT, Nat.reduceLeDiff, Nat.reduceEqDiff, Nat.reduceAdd, Nat.reduceMul, Nat.reduceSub, reduceCtorEq, putAt, unE, Nat.reduceBEq, convE, buildE, List.replicate, Int.reduceLT, Int.reduceLE, Int.reduceToNat, mkE, mapSetE, hN, hF, ty_3, notIf, isEq, h1, q1, q2, k1, k2]
    simp only [runB, finC, finD, Option.isSome_some, Option.isSome_none, ↓reduceIte, Nat.reduceEqDiff, Nat.reduceAdd, Nat.reduceMul, forall_eq_or_imp, forall_eq, implies_true, Nat.reduceBEq, reduceCtorEq, false_implies, List.zip_cons_cons, List.zip_nil_left, List.zip_nil_right, Nat.reduceLeDiff, List.forall_mem_nil, rs_84, ty_3]
  · have k1 : decide (x < y) = false := decide_eq_false (by omega)
    have k2 : decide (x > y) = true := decide_eq_true (by omega)
    rw [if_neg (by omega), if_pos h]
    simp only [runA, runB, runC, runD, runE, runF, fieldE, storeE, binE, ↓reduceIte, Nat.reduceLT, Nat.reduceLeDiff, Nat.reduceEqDiff, Nat.reduceAdd, Nat.reduceMul, Nat.reduceSub, reduceCtorEq, putAt, unE, Nat.reduceBEq, convE, buildE, List.replicate, Int.reduceLT, Int.reduceLE, Int.reduceToNat, mkE, mapSetE, hN, hF, ty_3, notIf, isEq, h1, q1, q2, k1, k2]
    simp only [runB, finC, finD, Option.isSome_some, Option.isSome_none, ↓reduceIte, Nat.reduceEqDiff, Nat.reduceAdd, Nat.reduceMul, forall_eq_or_imp, forall_eq, implies_true, Nat.reduceBEq, reduceCtorEq, false_implies, List.zip_cons_cons, List.zip_nil_left, List.zip_nil_right, Nat.reduceLeDiff, List.forall_mem_nil, rs_84, ty_3]
noncomputable def or2C : Contract := mkC (α := Int × Int) (fun p => True) (fun p => [.c (.sl [[.int .i64 p.1], [.int .i64 p.2]])]) (fun p => []) (fun p => ⟨[.pv (.c (.int .i64 (orI p.1 p.2)))], []⟩)
theorem or2_at (x : Int) (y : Int) : or2C [.c (.sl [[.int .i64 x], [.int .i64 y]])] [] = some ⟨[.pv (.c (.int .i64 (orI x y)))], []⟩ := by
  exact mkC_at (α := Int × Int) (x, y) trivial (by
    rintro ⟨x', y'⟩ _ h ho
    have hh := And.intro h ho
    clear h ho
    simp only [List.cons.injEq, AV.c.injEq, AV.agg.injEq, PC.int.injEq, PC.str.injEq, PC.bool.injEq, PC.sl.injEq, OV.c.injEq, OV.own.injEq, OV.mp.injEq, bytes_iff, texts_iff, true_and, and_true, and_self, beq_self_eq_true] at hh
    simp only [hh])

set_option maxRecDepth 100000 in
set_option maxHeartbeats 4000000 in
theorem or2_sound  : SoundC Try.prog 83 or2C := by
  refine sound_fn Try.func83 (by kernel_rfl) rfl rfl ?_
  intro args objs r0 hr
  obtain ⟨⟨x, y⟩, _, rfl, rfl, rfl⟩ := mkC_inv hr
  refine ⟨rfl, by show 1 ≤ _; decide, fun E hN hns hF => ?_⟩
  refine vc_sound none0_sound mixed _ _ _ ?_
  have hN := hN.trans nt_83
  dsimp only
  have e1 : IntKind.i64.wrap ((0 : Int) + 1) = 1 := rfl
  have e2 : IntKind.i64.wrap ((1 : Int) + 1) = 2 := rfl
  have d0 : decide ((0 : Int) < 2) = true := rfl
  have d1 : decide ((1 : Int) < 2) = true := rfl
  have d2 : decide ((2 : Int) < 2) = false := rfl
  simp only [runA, runB, runC, runD, runE, runF, fieldE, storeE, binE, ↓reduceIte, Nat.reduceLT, Nat.reduceLeDiff, Nat.reduceEqDiff, Nat.reduceAdd, Nat.reduceMul, Nat.reduceSub, reduceCtorEq, putAt, unE, Nat.reduceBEq, convE, buildE, List.replicate, Int.reduceLT, Int.reduceLE, Int.reduceToNat, mkE, mapSetE, hN, hF, ty_3, ty_60, notIf, isEq, List.length_cons, List.length_nil]
  refine AWP.loop (fun k st => (k = 2 ∧ st = ⟨[(0, .c (.sl [[.int .i64 x], [.int .i64 y]])), (6, .c (.sl [[.int .i64 x], [.int .i64 y]])), (7, .c (.int .i64 2)), (3, .c (.int .i64 0)), (8, .c (.int .i64 0))], []⟩) ∨ (k = 1 ∧ x = 0 ∧ st = ⟨[(0, .c (.sl [[.int .i64 x], [.int .i64 y]])), (6, .c (.sl [[.int .i64 x], [.int .i64 y]])), (7, .c (.int .i64 2)), (3, .c (.int .i64 0)), (8, .c (.int .i64 1))], []⟩) ∨ (k = 0 ∧ x = 0 ∧ y = 0 ∧ st = ⟨[(0, .c (.sl [[.int .i64 x], [.int .i64 y]])), (6, .c (.sl [[.int .i64 x], [.int .i64 y]])), (7, .c (.int .i64 2)), (3, .c (.int .i64 0)), (8, .c (.int .i64 2))], []⟩)) ⟨2, _, ?w, .inl ⟨rfl, rfl⟩⟩ ?r
  case w =>
    rw [hns]
    simp only [runB, finC, finD, AS.get, AS.mem, false_implies, implies_true, ↓reduceIte, Nat.reduceEqDiff, Option.isSome_some, Option.isSome_none, forall_eq_or_imp, forall_eq, reduceCtorEq, Nat.reduceAdd, Nat.reduceMul, List.zip_cons_cons, List.zip_nil_left, List.zip_nil_right, List.forall_mem_nil]
    first | done | simp
  case r =>
    rintro k st (⟨rfl, rfl⟩ | ⟨rfl, rfl, rfl⟩ | ⟨rfl, rfl, rfl, rfl⟩)
    · refine vc_sound none0_sound mixed _ _ _ ?_
      by_cases h : x = 0
      · subst h
        have g0 : ((0 : Int) != 0) = false := rfl
        simp only [runA, runB, runC, runD, runE, runF, fieldE, storeE, binE, ↓reduceIte, Nat.reduceLT, Nat.reduceLeDiff, Nat.reduceEqDiff, Nat.reduceAdd, Nat.reduceMul, Nat.reduceSub, reduceCtorEq, putAt, unE, Nat.reduceBEq, convE, buildE, List.replicate, Int.reduceLT, Int.reduceLE, Int.reduceToNat, mkE, mapSetE, hN, hF, ty_3, ty_60, notIf, isEq, List.length_cons, List.length_nil, d0, e1, g0, Nat.zero_add]
        refine ⟨1, _, by omega, ?_, .inr (.inl ⟨rfl, rfl⟩)⟩
        rw [hns]
        simp only [runB, finC, finD, AS.get, AS.mem, false_implies, implies_true, ↓reduceIte, Nat.reduceEqDiff, Option.isSome_some, Option.isSome_none, forall_eq_or_imp, forall_eq, reduceCtorEq, Nat.reduceAdd, Nat.reduceMul, List.zip_cons_cons, List.zip_nil_left, List.zip_nil_right, List.forall_mem_nil]
        first | done | simp
      · have g0 : (x != 0) = true := by simp [h]
        have hr : orI x y = x := if_neg h
        rw [hr]
        simp only [runA, runB, runC, runD, runE, runF, fieldE, storeE, binE, ↓reduceIte, Nat.reduceLT, Nat.reduceLeDiff, Nat.reduceEqDiff, Nat.reduceAdd, Nat.reduceMul, Nat.reduceSub, reduceCtorEq, putAt, unE, Nat.reduceBEq, convE, buildE, List.replicate, Int.reduceLT, Int.reduceLE, Int.reduceToNat, mkE, mapSetE, hN, hF, ty_3, ty_60, notIf, isEq, List.length_cons, List.length_nil, d0, e1, g0, Nat.zero_add]
        simp only [runB, finC, finD, Option.isSome_some, Option.isSome_none, ↓reduceIte, Nat.reduceEqDiff, Nat.reduceAdd, Nat.reduceMul, forall_eq_or_imp, forall_eq, implies_true, Nat.reduceBEq, reduceCtorEq, false_implies, List.zip_cons_cons, List.zip_nil_left, List.zip_nil_right, Nat.reduceLeDiff, List.forall_mem_nil, rs_83, ty_3, ty_60]
    · refine vc_sound none0_sound mixed _ _ _ ?_
      have hr : orI 0 y = y := rfl
      rw [hr]
      by_cases h : y = 0
      · subst h
        have g0 : ((0 : Int) != 0) = false := rfl
        simp only [runA, runB, runC, runD, runE, runF, fieldE, storeE, binE, ↓reduceIte, Nat.reduceLT, Nat.reduceLeDiff, Nat.reduceEqDiff, Nat.reduceAdd, Nat.reduceMul, Nat.reduceSub, reduceCtorEq, putAt, unE, Nat.reduceBEq, convE, buildE, List.replicate, Int.reduceLT, Int.reduceLE, Int.reduceToNat, mkE, mapSetE, hN, hF, ty_3, ty_60, notIf, isEq, List.length_cons, List.length_nil, d1, e2, g0, Nat.zero_add]
        refine ⟨0, _, by omega, ?_, .inr (.inr ⟨rfl, rfl⟩)⟩
        rw [hns]
        simp only [runB, finC, finD, AS.get, AS.mem, false_implies, implies_true, ↓reduceIte, Nat.reduceEqDiff, Option.isSome_some, Option.isSome_none, forall_eq_or_imp, forall_eq, reduceCtorEq, Nat.reduceAdd, Nat.reduceMul, List.zip_cons_cons, List.zip_nil_left, List.zip_nil_right, List.forall_mem_nil]
        first | done | simp
      · have g0 : (y != 0) = true := by simp [h]
        simp only [runA, runB, runC, runD, runE, runF, fieldE, storeE, binE, ↓reduceIte, Nat.reduceLT, Nat.reduceLeDiff, Nat.reduceEqDiff, Nat.reduceAdd, Nat.reduceMul, Nat.reduceSub, reduceCtorEq, putAt, unE, Nat.reduceBEq, convE, buildE, List.replicate, Int.reduceLT, Int.reduceLE, Int.reduceToNat, mkE, mapSetE, hN, hF, ty_3, ty_60, notIf, isEq, List.length_cons, List.length_nil, d1, e2, g0, Nat.zero_add]
        simp only [runB, finC, finD, Option.isSome_some, Option.isSome_none, ↓reduceIte, Nat.reduceEqDiff, Nat.reduceAdd, Nat.reduceMul, forall_eq_or_imp, forall_eq, implies_true, Nat.reduceBEq, reduceCtorEq, false_implies, List.zip_cons_cons, List.zip_nil_left, List.zip_nil_right, Nat.reduceLeDiff, List.forall_mem_nil, rs_83, ty_3, ty_60]
    · refine vc_sound none0_sound mixed _ _ _ ?_
      have hr : orI 0 0 = 0 := rfl
      rw [hr]
      simp only [runA, runB, runC, runD, runE, runF, fieldE, storeE, binE, ↓reduceIte, Nat.reduceLT, Nat.reduceLeDiff, Nat.reduceEqDiff, Nat.reduceAdd, Nat.reduceMul, Nat.reduceSub, reduceCtorEq, putAt, unE, Nat.reduceBEq, convE, buildE, List.replicate, Int.reduceLT, Int.reduceLE, Int.reduceToNat, mkE, mapSetE, hN, hF, ty_3, ty_60, notIf, isEq, List.length_cons, List.length_nil, d2]
      simp only [runB, finC, finD, Option.isSome_some, Option.isSome_none, ↓reduceIte, Nat.reduceEqDiff, Nat.reduceAdd, Nat.reduceMul, forall_eq_or_imp, forall_eq, implies_true, Nat.reduceBEq, reduceCtorEq, false_implies, List.zip_cons_cons, List.zip_nil_left, List.zip_nil_right, Nat.reduceLeDiff, List.forall_mem_nil, rs_83, ty_3, ty_60]


variable {Γ : FuncId → Contract}

noncomputable def hiC : Contract := mkC (α := Mk × Mk) (fun p => True) (fun p => [p.1.av, p.2.av]) (fun p => []) (fun p => ⟨[.pv (.c (.bool (hiM p.1 p.2)))], []⟩)
theorem hi_at (avw : Int) (aht : Int) (abl : List UInt8) (bvw : Int) (bht : Int) (bbl : List UInt8) : hiC [(.agg [.c (.int .i64 avw), .c (.int .i64 aht), .c (.str abl)]), (.agg [.c (.int .i64 bvw), .c (.int .i64 bht), .c (.str bbl)])] [] = some ⟨[.pv (.c (.bool (hiM (⟨avw, aht, abl⟩ : Mk) (⟨bvw, bht, bbl⟩ : Mk))))], []⟩ := by
  exact mkC_at (α := Mk × Mk) (⟨avw, aht, abl⟩, ⟨bvw, bht, bbl⟩) trivial (by
    rintro ⟨a', b'⟩ _ h ho
    have hh := And.intro h ho
    clear h ho
    simp only [List.cons.injEq, AV.c.injEq, AV.agg.injEq, PC.int.injEq, PC.str.injEq, PC.bool.injEq, PC.sl.injEq, OV.c.injEq, OV.own.injEq, OV.mp.injEq, bytes_iff, texts_iff, true_and, and_true, and_self, beq_self_eq_true, Mk.av_iff] at hh
    simp only [hh])

set_option maxRecDepth 100000 in
set_option maxHeartbeats 4000000 in
theorem hi_sound (hΓ : SoundG Try.prog Γ) (h1 : Γ 84 = cmpC) (h2 : Γ 83 = or2C) : SoundC Try.prog 63 hiC := by
  refine sound_fn Try.func63 (by kernel_rfl) rfl rfl ?_
  intro args objs r0 hr
  obtain ⟨⟨⟨a1, a2, a3⟩, ⟨b1, b2, b3⟩⟩, _, rfl, rfl, rfl⟩ := mkC_inv hr
  refine ⟨rfl, by show 2 ≤ _; decide, fun E hN hns hF => ?_⟩
  refine vc_sound hΓ mixed _ _ _ ?_
  have hN := hN.trans nt_63
  have q1 := cmp_at a1 b1
  have q2 := cmp_at a2 b2
  have q3 := or2_at (cmpI a1 b1) (cmpI a2 b2)
  have hh := hi_or ⟨a1, a2, a3⟩ ⟨b1, b2, b3⟩
  dsimp only at hh
  unfold Mk.av
  dsimp only
  simp only [runA, runB, runC, runD, runE, runF, fieldE, storeE, binE, ↓reduceIte, Nat.reduceLT, Nat.reduceLeDiff, Nat.reduceEqDiff, Nat.reduceAdd, Nat.reduceMul, Nat.reduceSub, reduceCtorEq, putAt, unE, Nat.reduceBEq, convE, buildE, List.replicate, Int.reduceLT, Int.reduceLE, Int.reduceToNat, mkE, mapSetE, hN, hF, ty_3, ty_4, ty_9, ty_51, ty_60, notIf, isEq, h1, h2, q1, q2, q3, hh]
  refine drawnP_intro (by kernel_rfl) (by kernel_rfl) ?_
  simp only [runA, runB, runC, runD, runE, runF, fieldE, storeE, binE, ↓reduceIte, Nat.reduceLT, Nat.reduceLeDiff, Nat.reduceEqDiff, Nat.reduceAdd, Nat.reduceMul, Nat.reduceSub, reduceCtorEq, putAt, unE, Nat.reduceBEq, convE, buildE, List.replicate, Int.reduceLT, Int.reduceLE, Int.reduceToNat, mkE, mapSetE, hN, hF, ty_3, ty_4, ty_9, ty_51, ty_60, notIf, isEq, h1, h2, q1, q2, q3, hh]
  simp only [runB, finC, finD, Option.isSome_some, Option.isSome_none, ↓reduceIte, Nat.reduceEqDiff, Nat.reduceAdd, Nat.reduceMul, forall_eq_or_imp, forall_eq, implies_true, Nat.reduceBEq, reduceCtorEq, false_implies, List.zip_cons_cons, List.zip_nil_left, List.zip_nil_right, Nat.reduceLeDiff, List.forall_mem_nil, rs_63, ty_3, ty_4, ty_9, ty_51, ty_60]
noncomputable def rhiC : Contract := mkC (α := Mk × Mk) (fun p => True) (fun p => [p.1.av, p.2.av]) (fun p => []) (fun p => ⟨[.pv (.c (.bool (hiM p.1 p.2)))], []⟩)
theorem rhi_at (avw : Int) (aht : Int) (abl : List UInt8) (bvw : Int) (bht : Int) (bbl : List UInt8) : rhiC [(.agg [.c (.int .i64 avw), .c (.int .i64 aht), .c (.str abl)]), (.agg [.c (.int .i64 bvw), .c (.int .i64 bht), .c (.str bbl)])] [] = some ⟨[.pv (.c (.bool (hiM (⟨avw, aht, abl⟩ : Mk) (⟨bvw, bht, bbl⟩ : Mk))))], []⟩ := by
  exact mkC_at (α := Mk × Mk) (⟨avw, aht, abl⟩, ⟨bvw, bht, bbl⟩) trivial (by
    rintro ⟨a', b'⟩ _ h ho
    have hh := And.intro h ho
    clear h ho
    simp only [List.cons.injEq, AV.c.injEq, AV.agg.injEq, PC.int.injEq, PC.str.injEq, PC.bool.injEq, PC.sl.injEq, OV.c.injEq, OV.own.injEq, OV.mp.injEq, bytes_iff, texts_iff, true_and, and_true, and_self, beq_self_eq_true, Mk.av_iff] at hh
    simp only [hh])

set_option maxRecDepth 100000 in
set_option maxHeartbeats 4000000 in
theorem rhi_sound  : SoundC Try.prog 32 rhiC := by
  refine sound_fn Try.func32 (by kernel_rfl) rfl rfl ?_
  intro args objs r0 hr
  obtain ⟨⟨⟨a1, a2, a3⟩, ⟨b1, b2, b3⟩⟩, _, rfl, rfl, rfl⟩ := mkC_inv hr
  refine ⟨rfl, by show 2 ≤ _; decide, fun E hN hns hF => ?_⟩
  refine vc_sound none0_sound mixed _ _ _ ?_
  have hN := hN.trans nt_32
  have hh : hiM ⟨a1, a2, a3⟩ ⟨b1, b2, b3⟩ = (decide (a1 > b1) || ((a1 == b1) && decide (a2 > b2))) := rfl
  unfold Mk.av
  dsimp only
  rw [hh]
  cases k1 : decide (a1 > b1) with
  | true =>
    simp only [runA, runB, runC, runD, runE, runF, fieldE, storeE, binE, ↓reduceIte, Nat.reduceLT, Nat.reduceLeDiff, Nat.reduceEqDiff, Nat.reduceAdd, Nat.reduceMul, Nat.reduceSub, reduceCtorEq, putAt, unE, Nat.reduceBEq, convE, buildE, List.replicate, Int.reduceLT, Int.reduceLE, Int.reduceToNat, mkE, mapSetE, hN, hF, ty_3, ty_4, ty_9, ty_51, notIf, isEq, k1]
    simp only [runB, finC, finD, Option.isSome_some, Option.isSome_none, ↓reduceIte, Nat.reduceEqDiff, Nat.reduceAdd, Nat.reduceMul, forall_eq_or_imp, forall_eq, implies_true, Nat.reduceBEq, reduceCtorEq, false_implies, List.zip_cons_cons, List.zip_nil_left, List.zip_nil_right, Nat.reduceLeDiff, List.forall_mem_nil, rs_32, ty_3, ty_4, ty_9, ty_51, Bool.true_or]
  | false =>
    cases k2 : a1 == b1 with
    | false =>
      simp only [runA, runB, runC, runD, runE, runF, fieldE, storeE, binE, ↓reduceIte, Nat.reduceLT, Nat.reduceLeDiff, Nat.reduceEqDiff, Nat.reduceAdd, Nat.reduceMul, Nat.reduceSub, reduceCtorEq, putAt, unE, Nat.reduceBEq, convE, buildE, List.replicate, Int.reduceLT, Int.reduceLE, Int.reduceToNat, mkE, mapSetE, hN, hF, ty_3, ty_4, ty_9, ty_51, notIf, isEq, k1, k2]
      simp only [runB, finC, finD, Option.isSome_some, Option.isSome_none, ↓reduceIte, Nat.reduceEqDiff, Nat.reduceAdd, Nat.reduceMul, forall_eq_or_imp, forall_eq, implies_true, Nat.reduceBEq, reduceCtorEq, false_implies, List.zip_cons_cons, List.zip_nil_left, List.zip_nil_right, Nat.reduceLeDiff, List.forall_mem_nil, rs_32, ty_3, ty_4, ty_9, ty_51, Bool.false_or, Bool.false_and]
    | true =>
      simp only [runA, runB, runC, runD, runE, runF, fieldE, storeE, binE, ↓reduceIte, Nat.reduceLT, Nat.reduceLeDiff, Nat.reduceEqDiff, Nat.reduceAdd, Nat.reduceMul, Nat.reduceSub, reduceCtorEq, putAt, unE, Nat.reduceBEq, convE, buildE, List.replicate, Int.reduceLT, Int.reduceLE, Int.reduceToNat, mkE, mapSetE, hN, hF, ty_3, ty_4, ty_9, ty_51, notIf, isEq, k1, k2]
      simp only [runB, finC, finD, Option.isSome_some, Option.isSome_none, ↓reduceIte, Nat.reduceEqDiff, Nat.reduceAdd, Nat.reduceMul, forall_eq_or_imp, forall_eq, implies_true, Nat.reduceBEq, reduceCtorEq, false_implies, List.zip_cons_cons, List.zip_nil_left, List.zip_nil_right, Nat.reduceLeDiff, List.forall_mem_nil, rs_32, ty_3, ty_4, ty_9, ty_51, Bool.false_or, Bool.true_and]
noncomputable def cmkC : Contract := mkC (α := Ct) (fun p => True) (fun p => [p.av]) (fun p => []) (fun p => ⟨[.pv (Mk.av ⟨p.vw, p.ht, p.bl⟩)], []⟩)
theorem cmk_at (cvw : Int) (cht : Int) (cbl : List UInt8) (cvs : List Vt) : cmkC [(.agg [.c (.int .i64 cvw), .c (.int .i64 cht), .c (.str cbl), .c (.sl (votes cvs))])] [] = some ⟨[.pv (Mk.av ⟨cvw, cht, cbl⟩)], []⟩ := by
  exact mkC_at (α := Ct) ⟨cvw, cht, cbl, cvs⟩ trivial (by
    rintro c' _ h ho
    have hh := And.intro h ho
    clear h ho
    simp only [List.cons.injEq, AV.c.injEq, AV.agg.injEq, PC.int.injEq, PC.str.injEq, PC.bool.injEq, PC.sl.injEq, OV.c.injEq, OV.own.injEq, OV.mp.injEq, bytes_iff, texts_iff, true_and, and_true, and_self, beq_self_eq_true, Ct.av_iff] at hh
    simp only [hh])

set_option maxRecDepth 100000 in
set_option maxHeartbeats 4000000 in
theorem cmk_sound  : SoundC Try.prog 61 cmkC := by
  refine sound_fn Try.func61 (by kernel_rfl) rfl rfl ?_
  intro args objs r0 hr
  obtain ⟨⟨a1, a2, a3, a4⟩, _, rfl, rfl, rfl⟩ := mkC_inv hr
  refine ⟨rfl, by show 1 ≤ _; decide, fun E hN hns hF => ?_⟩
  refine vc_sound none0_sound mixed _ _ _ ?_
  have hN := hN.trans nt_61
  unfold Ct.av Mk.av
  dsimp only
  simp only [runA, runB, runC, runD, runE, runF, fieldE, storeE, binE, ↓reduceIte, Nat.reduceLT, Nat.reduceLeDiff, Nat.reduceEqDiff, Nat.reduceAdd, Nat.reduceMul, Nat.reduceSub, reduceCtorEq, putAt, unE, Nat.reduceBEq, convE, buildE, List.replicate, Int.reduceLT, Int.reduceLE, Int.reduceToNat, mkE, mapSetE, hN, hF, ty_3, ty_9, ty_51, ty_79, ty_81, notIf, isEq]
  simp only [runB, finC, finD, Option.isSome_some, Option.isSome_none, ↓reduceIte, Nat.reduceEqDiff, Nat.reduceAdd, Nat.reduceMul, forall_eq_or_imp, forall_eq, implies_true, Nat.reduceBEq, reduceCtorEq, false_implies, List.zip_cons_cons, List.zip_nil_left, List.zip_nil_right, Nat.reduceLeDiff, List.forall_mem_nil, rs_61, ty_3, ty_9, ty_51, ty_79, ty_81]
def beg : Gs := ⟨0, ⟨0, 0, []⟩, ⟨0, 0, []⟩, ⟨0, 0, genS⟩, false⟩
def begC : Contract := fun args objs => match args, objs with | [], [] => some ⟨[.pv beg.av], []⟩ | _, _ => none
set_option maxHeartbeats 1000000 in
theorem beg_sound (hΓ : SoundG Try.prog Γ) (h1 : Γ 62 = cfirstC) (h2 : Γ 61 = cmkC) : SoundC Try.prog 30 begC := by
  refine sound_fn Try.func30 (by kernel_rfl) rfl rfl ?_
  intro args objs r hr
  unfold begC at hr
  split at hr
  · cases hr
    refine ⟨rfl, by show 0 ≤ _; decide, fun E hN hns hF => ?_⟩
    refine vc_sound hΓ mixed _ _ _ ?_
    have hN := hN.trans nt_30
    have q1 : cfirstC [] [] = some ⟨[.pv (.agg [.c (.int .i64 0), .c (.int .i64 0), .c (.str genS), .c (.sl [])])], []⟩ := rfl
    have q2 := cmk_at 0 0 genS []
    unfold Mk.av at q2
    rw [votes_nil] at q2
    dsimp only at q2
    unfold Gs.av beg
    dsimp only
    generalize genS = g at q1 q2 ⊢
    simp only [runA, runB, runC, runD, runE, runF, fieldE, storeE, binE, ↓reduceIte, Nat.reduceLT, Nat.reduceLeDiff, Nat.reduceEqDiff, Nat.reduceAdd, Nat.reduceMul, Nat.reduceSub, reduceCtorEq, putAt, unE, Nat.reduceBEq, convE, buildE, List.replicate, Int.reduceLT, Int.reduceLE, Int.reduceToNat, mkE, mapSetE, hN, hF, ty_3, ty_4, ty_9, ty_51, ty_62, ty_79, ty_81, notIf, isEq, h1, h2, q1, q2]
    simp only [runB, finC, finD, Option.isSome_some, Option.isSome_none, ↓reduceIte, Nat.reduceEqDiff, Nat.reduceAdd, Nat.reduceMul, forall_eq_or_imp, forall_eq, implies_true, Nat.reduceBEq, reduceCtorEq, false_implies, List.zip_cons_cons, List.zip_nil_left, List.zip_nil_right, Nat.reduceLeDiff, List.forall_mem_nil, rs_30, ty_3, ty_4, ty_9, ty_51, ty_62, ty_79, ty_81]
  · cases hr
def entS (s : Gs) (v : Int) : Gs := if v ≤ s.vw then s else { s with vw := v, sp := false }
noncomputable def entC : Contract := mkC (α := Gs × Int) (fun p => True) (fun p => [p.1.av, .c (.int .i64 p.2)]) (fun p => []) (fun p => ⟨[.pv (Gs.av (entS p.1 p.2)), .pv (.c (.bool (decide (p.1.vw < p.2))))], []⟩)
theorem ent_at (svw : Int) (svovw : Int) (svoht : Int) (svobl : List UInt8) (scovw : Int) (scoht : Int) (scobl : List UInt8) (slovw : Int) (sloht : Int) (slobl : List UInt8) (ssp : Bool) (v : Int) : entC [(.agg [.c (.int .i64 svw), .c (.int .i64 svovw), .c (.int .i64 svoht), .c (.str svobl), .c (.int .i64 scovw), .c (.int .i64 scoht), .c (.str scobl), .c (.int .i64 slovw), .c (.int .i64 sloht), .c (.str slobl), .c (.bool ssp)]), .c (.int .i64 v)] [] = some ⟨[.pv (Gs.av (entS (⟨svw, ⟨svovw, svoht, svobl⟩, ⟨scovw, scoht, scobl⟩, ⟨slovw, sloht, slobl⟩, ssp⟩ : Gs) v)), .pv (.c (.bool (decide (svw < v))))], []⟩ := by
  exact mkC_at (α := Gs × Int) (⟨svw, ⟨svovw, svoht, svobl⟩, ⟨scovw, scoht, scobl⟩, ⟨slovw, sloht, slobl⟩, ssp⟩, v) trivial (by
    rintro ⟨s', v'⟩ _ h ho
    have hh := And.intro h ho
    clear h ho
    simp only [List.cons.injEq, AV.c.injEq, AV.agg.injEq, PC.int.injEq, PC.str.injEq, PC.bool.injEq, PC.sl.injEq, OV.c.injEq, OV.own.injEq, OV.mp.injEq, bytes_iff, texts_iff, true_and, and_true, and_self, beq_self_eq_true, Gs.av_iff] at hh
    simp only [hh])

set_option maxRecDepth 100000 in
set_option maxHeartbeats 4000000 in
theorem ent_sound  : SoundC Try.prog 33 entC := by
  refine sound_fn Try.func33 (by kernel_rfl) rfl rfl ?_
  intro args objs r0 hr
  obtain ⟨⟨⟨svw, ⟨v1, v2, v3⟩, ⟨c1, c2, c3⟩, ⟨l1, l2, l3⟩, sp⟩, v⟩, _, rfl, rfl, rfl⟩ := mkC_inv hr
  refine ⟨rfl, by show 2 ≤ _; decide, fun E hN hns hF => ?_⟩
  refine vc_sound none0_sound mixed _ _ _ ?_
  have hN := hN.trans nt_33
  unfold entS Gs.av
  dsimp only
  by_cases h : v ≤ svw
  · have k1 : decide (v ≤ svw) = true := decide_eq_true h
    have k2 : decide (svw < v) = false := decide_eq_false (by omega)
    rw [if_pos h, k2]
    simp only [runA, runB, runC, runD, runE, runF, fieldE, storeE, binE, ↓reduceIte, Nat.reduceLT, Nat.reduceLeDiff, Nat.reduceEqDiff, Nat.reduceAdd, Nat.reduceMul, Nat.reduceSub, reduceCtorEq, putAt, unE, Nat.reduceBEq, convE, buildE, List.replicate, Int.reduceLT, Int.reduceLE, Int.reduceToNat, mkE, mapSetE, hN, hF, ty_3, ty_4, ty_51, ty_62, notIf, isEq, k1]
    simp only [runB, finC, finD, Option.isSome_some, Option.isSome_none, ↓reduceIte, Nat.reduceEqDiff, Nat.reduceAdd, Nat.reduceMul, forall_eq_or_imp, forall_eq, implies_true, Nat.reduceBEq, reduceCtorEq, false_implies, List.zip_cons_cons, List.zip_nil_left, List.zip_nil_right, Nat.reduceLeDiff, List.forall_mem_nil, rs_33, ty_3, ty_4, ty_51, ty_62]
  · have k1 : decide (v ≤ svw) = false := decide_eq_false h
    have k2 : decide (svw < v) = true := decide_eq_true (by omega)
    rw [if_neg h, k2]
    simp only [runA, runB, runC, runD, runE, runF, fieldE, storeE, binE, ↓reduceIte, Nat.reduceLT, Nat.reduceLeDiff, Nat.reduceEqDiff, Nat.reduceAdd, Nat.reduceMul, Nat.reduceSub, reduceCtorEq, putAt, unE, Nat.reduceBEq, convE, buildE, List.replicate, Int.reduceLT, Int.reduceLE, Int.reduceToNat, mkE, mapSetE, hN, hF, ty_3, ty_4, ty_51, ty_62, notIf, isEq, k1]
    simp only [runB, finC, finD, Option.isSome_some, Option.isSome_none, ↓reduceIte, Nat.reduceEqDiff, Nat.reduceAdd, Nat.reduceMul, forall_eq_or_imp, forall_eq, implies_true, Nat.reduceBEq, reduceCtorEq, false_implies, List.zip_cons_cons, List.zip_nil_left, List.zip_nil_right, Nat.reduceLeDiff, List.forall_mem_nil, rs_33, ty_3, ty_4, ty_51, ty_62]


variable {Γ : FuncId → Contract}


def lckS (s : Gs) (m : Mk) : Gs := if hiM m s.lo then { s with lo := m } else s
noncomputable def lckC : Contract := mkC (α := Gs × Mk) (fun p => True) (fun p => [p.1.av, p.2.av]) (fun p => []) (fun p => ⟨[.pv (Gs.av (lckS p.1 p.2)), .pv (.c (.bool (hiM p.2 ⟨p.1.lo.vw, p.1.lo.ht, p.1.lo.bl⟩)))], []⟩)
theorem lck_at (svw : Int) (svovw : Int) (svoht : Int) (svobl : List UInt8) (scovw : Int) (scoht : Int) (scobl : List UInt8) (slovw : Int) (sloht : Int) (slobl : List UInt8) (ssp : Bool) (mvw : Int) (mht : Int) (mbl : List UInt8) : lckC [(.agg [.c (.int .i64 svw), .c (.int .i64 svovw), .c (.int .i64 svoht), .c (.str svobl), .c (.int .i64 scovw), .c (.int .i64 scoht), .c (.str scobl), .c (.int .i64 slovw), .c (.int .i64 sloht), .c (.str slobl), .c (.bool ssp)]), (.agg [.c (.int .i64 mvw), .c (.int .i64 mht), .c (.str mbl)])] [] = some ⟨[.pv (Gs.av (lckS (⟨svw, ⟨svovw, svoht, svobl⟩, ⟨scovw, scoht, scobl⟩, ⟨slovw, sloht, slobl⟩, ssp⟩ : Gs) (⟨mvw, mht, mbl⟩ : Mk))), .pv (.c (.bool (hiM (⟨mvw, mht, mbl⟩ : Mk) ⟨slovw, sloht, slobl⟩)))], []⟩ := by
  exact mkC_at (α := Gs × Mk) (⟨svw, ⟨svovw, svoht, svobl⟩, ⟨scovw, scoht, scobl⟩, ⟨slovw, sloht, slobl⟩, ssp⟩, ⟨mvw, mht, mbl⟩) trivial (by
    rintro ⟨s', m'⟩ _ h ho
    have hh := And.intro h ho
    clear h ho
    simp only [List.cons.injEq, AV.c.injEq, AV.agg.injEq, PC.int.injEq, PC.str.injEq, PC.bool.injEq, PC.sl.injEq, OV.c.injEq, OV.own.injEq, OV.mp.injEq, bytes_iff, texts_iff, true_and, and_true, and_self, beq_self_eq_true, Gs.av_iff, Mk.av_iff] at hh
    simp only [hh])

set_option maxRecDepth 100000 in
set_option maxHeartbeats 4000000 in
theorem lck_sound (hΓ : SoundG Try.prog Γ) (h1 : Γ 63 = hiC) : SoundC Try.prog 31 lckC := by
  refine sound_fn Try.func31 (by kernel_rfl) rfl rfl ?_
  intro args objs r0 hr
  obtain ⟨⟨⟨svw, ⟨v1, v2, v3⟩, ⟨c1, c2, c3⟩, ⟨l1, l2, l3⟩, sp⟩, ⟨m1, m2, m3⟩⟩, _, rfl, rfl, rfl⟩ := mkC_inv hr
  refine ⟨rfl, by show 2 ≤ _; decide, fun E hN hns hF => ?_⟩
  refine vc_sound hΓ mixed _ _ _ ?_
  have hN := hN.trans nt_31
  have q1 := hi_at m1 m2 m3 l1 l2 l3
  unfold lckS Gs.av Mk.av
  dsimp only
  have nt1 : (!true) = false := rfl
  have ntf : (!false) = true := rfl
  cases hh : hiM ⟨m1, m2, m3⟩ ⟨l1, l2, l3⟩ with
  | true =>
    rw [hh] at q1
    rw [if_pos rfl]
    simp only [runA, runB, runC, runD, runE, runF, fieldE, storeE, binE, ↓reduceIte, Nat.reduceLT, Nat.reduceLeDiff, Nat.reduceEqDiff, Nat.reduceAdd, Nat.reduceMul, Nat.reduceSub, reduceCtorEq, putAt, unE, Nat.reduceBEq, convE, buildE, List.replicate, Int.reduceLT, Int.reduceLE, Int.reduceToNat, mkE, mapSetE, hN, hF, ty_3, ty_4, ty_9, ty_51, ty_62, notIf, isEq, h1, q1, nt1]
    simp only [runB, finC, finD, Option.isSome_some, Option.isSome_none, ↓reduceIte, Nat.reduceEqDiff, Nat.reduceAdd, Nat.reduceMul, forall_eq_or_imp, forall_eq, implies_true, Nat.reduceBEq, reduceCtorEq, false_implies, List.zip_cons_cons, List.zip_nil_left, List.zip_nil_right, Nat.reduceLeDiff, List.forall_mem_nil, rs_31, ty_3, ty_4, ty_9, ty_51, ty_62]
  | false =>
    rw [hh] at q1
    rw [if_neg (by simp)]
    simp only [runA, runB, runC, runD, runE, runF, fieldE, storeE, binE, ↓reduceIte, Nat.reduceLT, Nat.reduceLeDiff, Nat.reduceEqDiff, Nat.reduceAdd, Nat.reduceMul, Nat.reduceSub, reduceCtorEq, putAt, unE, Nat.reduceBEq, convE, buildE, List.replicate, Int.reduceLT, Int.reduceLE, Int.reduceToNat, mkE, mapSetE, hN, hF, ty_3, ty_4, ty_9, ty_51, ty_62, notIf, isEq, h1, q1, ntf]
    simp only [runB, finC, finD, Option.isSome_some, Option.isSome_none, ↓reduceIte, Nat.reduceEqDiff, Nat.reduceAdd, Nat.reduceMul, forall_eq_or_imp, forall_eq, implies_true, Nat.reduceBEq, reduceCtorEq, false_implies, List.zip_cons_cons, List.zip_nil_left, List.zip_nil_right, Nat.reduceLeDiff, List.forall_mem_nil, rs_31, ty_3, ty_4, ty_9, ty_51, ty_62]


variable {Γ : FuncId → Contract}


def zints (l : List Int) : List (List PC) := l.map fun x => [PC.int .i64 x]
theorem zints_length (l : List Int) : (zints l).length = l.length := by simp [zints]
theorem zintsD (l : List Int) (i : Nat) (h : i < l.length) : (zints l)[i]? = some [.int .i64 (l.getD i 0)] := by simp [zints, List.getD, h]
def mrows (l : List Mk) : List (List PC) := l.map fun m => [.int .i64 m.vw, .int .i64 m.ht, .str m.bl]
theorem mrows_length (l : List Mk) : (mrows l).length = l.length := by simp [mrows]
def zeroM : Mk := ⟨0, 0, []⟩
theorem mrowsD (l : List Mk) (i : Nat) (h : i < l.length) : (mrows l)[i]? = some [.int .i64 (l.getD i zeroM).vw, .int .i64 (l.getD i zeroM).ht, .str (l.getD i zeroM).bl] := by simp [mrows, List.getD, h]
theorem hi_irr (a : Mk) : hiM a a = false := by simp [hiM]
theorem hi_asym {a b : Mk} (h : hiM a b = true) : hiM b a = false := by
  unfold hiM at h ⊢
  simp only [Bool.or_eq_true, Bool.and_eq_true, decide_eq_true_eq, beq_iff_eq] at h
  simp only [Bool.or_eq_false_iff, Bool.and_eq_false_iff, decide_eq_false_iff_not, beq_eq_false_iff_ne]
  omega
theorem lck_facts (s : Gs) (m : Mk) : hiM s.lo (lckS s m).lo = false ∧ (hiM m s.lo == decide ((lckS s m).lo = s.lo)) = false ∧ hiM m (lckS s m).lo = false := by
  unfold lckS
  cases h : hiM m s.lo with
  | true =>
    rw [if_pos rfl]
    have hne : m ≠ s.lo := fun e => by rw [e, hi_irr] at h; cases h
    exact ⟨hi_asym h, by rw [decide_eq_false hne]; rfl, hi_irr m⟩
  | false =>
    rw [if_neg (by simp)]
    exact ⟨hi_irr _, by rw [decide_eq_true rfl]; rfl, h⟩
theorem ent_facts (s : Gs) (v : Int) : decide ((entS s v).vw < s.vw) = false ∧ (decide (s.vw < v) == ((entS s v).vw == s.vw)) = false ∧ (entS s v).lo = s.lo := by
  unfold entS
  by_cases h : v ≤ s.vw
  · rw [if_pos h, decide_eq_false (show ¬ s.vw < v by omega)]
    exact ⟨decide_eq_false (by omega), by simp, rfl⟩
  · rw [if_neg h, decide_eq_true (show s.vw < v by omega)]
    exact ⟨decide_eq_false (by dsimp only; omega), by rw [show (v == s.vw) = false from beq_eq_false_iff_ne.2 (by omega)]; rfl, rfl⟩
theorem lck_p (s s' : Gs) (m : Mk) (h : s' = lckS s m) : lckC [.agg [.c (.int .i64 s.vw), .c (.int .i64 s.vo.vw), .c (.int .i64 s.vo.ht), .c (.str s.vo.bl), .c (.int .i64 s.co.vw), .c (.int .i64 s.co.ht), .c (.str s.co.bl), .c (.int .i64 s.lo.vw), .c (.int .i64 s.lo.ht), .c (.str s.lo.bl), .c (.bool s.sp)], .agg [.c (.int .i64 m.vw), .c (.int .i64 m.ht), .c (.str m.bl)]] [] = some ⟨[.pv (.agg [.c (.int .i64 s'.vw), .c (.int .i64 s'.vo.vw), .c (.int .i64 s'.vo.ht), .c (.str s'.vo.bl), .c (.int .i64 s'.co.vw), .c (.int .i64 s'.co.ht), .c (.str s'.co.bl), .c (.int .i64 s'.lo.vw), .c (.int .i64 s'.lo.ht), .c (.str s'.lo.bl), .c (.bool s'.sp)]), .pv (.c (.bool (hiM m s.lo)))], []⟩ := by
  subst h
  exact lck_at s.vw s.vo.vw s.vo.ht s.vo.bl s.co.vw s.co.ht s.co.bl s.lo.vw s.lo.ht s.lo.bl s.sp m.vw m.ht m.bl
theorem ent_p (s s' : Gs) (v : Int) (h : s' = entS s v) : entC [.agg [.c (.int .i64 s.vw), .c (.int .i64 s.vo.vw), .c (.int .i64 s.vo.ht), .c (.str s.vo.bl), .c (.int .i64 s.co.vw), .c (.int .i64 s.co.ht), .c (.str s.co.bl), .c (.int .i64 s.lo.vw), .c (.int .i64 s.lo.ht), .c (.str s.lo.bl), .c (.bool s.sp)], .c (.int .i64 v)] [] = some ⟨[.pv (.agg [.c (.int .i64 s'.vw), .c (.int .i64 s'.vo.vw), .c (.int .i64 s'.vo.ht), .c (.str s'.vo.bl), .c (.int .i64 s'.co.vw), .c (.int .i64 s'.co.ht), .c (.str s'.co.bl), .c (.int .i64 s'.lo.vw), .c (.int .i64 s'.lo.ht), .c (.str s'.lo.bl), .c (.bool s'.sp)]), .pv (.c (.bool (decide (s.vw < v))))], []⟩ := by
  subst h
  exact ent_at s.vw s.vo.vw s.vo.ht s.vo.bl s.co.vw s.co.ht s.co.bl s.lo.vw s.lo.ht s.lo.bl s.sp v
theorem rhi_p (a b : Mk) : rhiC [.agg [.c (.int .i64 a.vw), .c (.int .i64 a.ht), .c (.str a.bl)], .agg [.c (.int .i64 b.vw), .c (.int .i64 b.ht), .c (.str b.bl)]] [] = some ⟨[.pv (.c (.bool (hiM a b)))], []⟩ := rhi_at a.vw a.ht a.bl b.vw b.ht b.bl
theorem eqg_mk : Try.prog.eqGuardType Try.prog.depth 51 = false := by kernel_rfl
theorem eq_mk (a b : Mk) : eqE Try.prog 10000 51 [.int .i64 a.vw, .int .i64 a.ht, .str a.bl] [.int .i64 b.vw, .int .i64 b.ht, .str b.bl] = some (decide (a = b)) := by
  have h : eqE Try.prog 10000 51 [.int .i64 a.vw, .int .i64 a.ht, .str a.bl] [.int .i64 b.vw, .int .i64 b.ht, .str b.bl] = some ((a.vw == b.vw) && ((a.ht == b.ht) && ((a.bl == b.bl) && true))) := by kernel_rfl
  refine h.trans (congrArg some ?_)
  obtain ⟨a1, a2, a3⟩ := a
  obtain ⟨b1, b2, b3⟩ := b
  rw [Bool.eq_iff_iff, decide_eq_true_iff, Mk.mk.injEq, Bool.and_eq_true, Bool.and_eq_true, Bool.and_eq_true, beq_iff_eq, beq_iff_eq, beq_iff_eq]
  exact ⟨fun ⟨x, y, z, _⟩ => ⟨x, y, z⟩, fun ⟨x, y, z⟩ => ⟨x, y, z, rfl⟩⟩
def alive17C : Contract := fun args objs => match args, objs with | [], [] => some ⟨[.pv (.c (.bool true))], []⟩ | _, _ => none
set_option maxHeartbeats 4000000 in
theorem alive17_sound (hΓ : SoundG Try.prog Γ) (h1 : Γ 30 = begC) (h2 : Γ 33 = entC) : SoundC Try.prog 29 alive17C := by
  refine sound_fn Try.func29 (by kernel_rfl) rfl rfl ?_
  intro args objs r hr
  unfold alive17C at hr
  split at hr
  · cases hr
    refine ⟨rfl, by show 0 ≤ _; decide, fun E hN hns hF => ?_⟩
    refine vc_sound hΓ mixed _ _ _ ?_
    have hN := hN.trans nt_29
    have q1 : begC [] [] = some ⟨[.pv beg.av], []⟩ := rfl
    have q2 := ent_at 0 0 0 [] 0 0 [] 0 0 genS false 0
    have q3 := ent_at 0 0 0 [] 0 0 [] 0 0 genS false 3
    have x2 : entS ⟨0, ⟨0, 0, []⟩, ⟨0, 0, []⟩, ⟨0, 0, genS⟩, false⟩ 0 = beg := rfl
    have x3 : entS ⟨0, ⟨0, 0, []⟩, ⟨0, 0, []⟩, ⟨0, 0, genS⟩, false⟩ 3 = ⟨3, ⟨0, 0, []⟩, ⟨0, 0, []⟩, ⟨0, 0, genS⟩, false⟩ := rfl
    have y2 : decide ((0 : Int) < 0) = false := rfl
    have y3 : decide ((0 : Int) < 3) = true := rfl
    rw [x2] at q2
    rw [x3] at q3
    rw [y2] at q2
    rw [y3] at q3
    unfold beg at q1 q2
    unfold Gs.av at q1 q2 q3
    dsimp only at q1 q2 q3
    have hlg : genS.length = 32 := rfl
    have b1 : ((3 : Int) == 3) = true := rfl
    have b2 : (((32 : Nat) : Int) == 32) = true := rfl
    have nt1 : (!true) = false := rfl
    have ntf : (!false) = true := rfl
    generalize genS = g at q1 q2 q3 hlg
    simp only [runA, runB, runC, runD, runE, runF, fieldE, storeE, binE, ↓reduceIte, Nat.reduceLT, Nat.reduceLeDiff, Nat.reduceEqDiff, Nat.reduceAdd, Nat.reduceMul, Nat.reduceSub, reduceCtorEq, putAt, unE, Nat.reduceBEq, convE, buildE, List.replicate, Int.reduceLT, Int.reduceLE, Int.reduceToNat, mkE, mapSetE, hN, hF, ty_3, ty_4, ty_9, ty_51, ty_62, notIf, isEq, h1, h2, q1, q2, q3, hlg, b1, b2, nt1, ntf]
    simp only [runB, finC, finD, Option.isSome_some, Option.isSome_none, ↓reduceIte, Nat.reduceEqDiff, Nat.reduceAdd, Nat.reduceMul, forall_eq_or_imp, forall_eq, implies_true, Nat.reduceBEq, reduceCtorEq, false_implies, List.zip_cons_cons, List.zip_nil_left, List.zip_nil_right, Nat.reduceLeDiff, List.forall_mem_nil, rs_29, ty_3, ty_4, ty_9, ty_51, ty_62]
  · cases hr
noncomputable def locks17C : Contract := mkC (α := List Mk × List Int) (fun p => p.1.length ≤ 9223372036854775807 ∧ p.2.length ≤ 9223372036854775807) (fun p => [.c (.sl (mrows p.1)), .c (.sl (zints p.2))]) (fun p => []) (fun p => ⟨[.pv (.c (.bool true))], []⟩)
set_option maxRecDepth 100000 in
set_option maxHeartbeats 4000000 in
theorem locks17_sound (hΓ : SoundG Try.prog Γ) (h1 : Γ 29 = alive17C) (h2 : Γ 30 = begC) (h3 : Γ 31 = lckC) (h4 : Γ 32 = rhiC) (h5 : Γ 33 = entC) : SoundC Try.prog 6 locks17C := by
  refine sound_fn Try.func6 (by kernel_rfl) rfl rfl ?_
  intro args objs r0 hr
  obtain ⟨⟨l, vs⟩, ⟨hl, hv⟩, rfl, rfl, rfl⟩ := mkC_inv hr
  refine ⟨rfl, by show 2 ≤ _; decide, fun E hN hns hF => ?_⟩
  refine vc_sound hΓ mixed _ _ _ ?_
  have hN := hN.trans nt_6
  have hl : l.length ≤ 9223372036854775807 := hl
  have hv : vs.length ≤ 9223372036854775807 := hv
  have q0 : alive17C [] [] = some ⟨[.pv (.c (.bool true))], []⟩ := rfl
  have q1 : begC [] [] = some ⟨[.pv (.agg [.c (.int .i64 beg.vw), .c (.int .i64 beg.vo.vw), .c (.int .i64 beg.vo.ht), .c (.str beg.vo.bl), .c (.int .i64 beg.co.vw), .c (.int .i64 beg.co.ht), .c (.str beg.co.bl), .c (.int .i64 beg.lo.vw), .c (.int .i64 beg.lo.ht), .c (.str beg.lo.bl), .c (.bool beg.sp)])], []⟩ := rfl
  obtain ⟨s0, hs0⟩ : ∃ s0, s0 = beg := ⟨_, rfl⟩
  rw [← hs0] at q1
  clear hs0
  have hml := mrows_length l
  have hzl := zints_length vs
  have nt1 : (!true) = false := rfl
  have ntf : (!false) = true := rfl
  dsimp only
  simp only [runA, runB, runC, runD, runE, runF, fieldE, storeE, binE, ↓reduceIte, Nat.reduceLT, Nat.reduceLeDiff, Nat.reduceEqDiff, Nat.reduceAdd, Nat.reduceMul, Nat.reduceSub, reduceCtorEq, putAt, unE, Nat.reduceBEq, convE, buildE, List.replicate, Int.reduceLT, Int.reduceLE, Int.reduceToNat, mkE, mapSetE, hN, hF, ty_3, ty_4, ty_9, ty_51, ty_59, ty_60, ty_62, notIf, isEq, h1, q0, nt1, h2, q1]
  refine AWP.loop (fun k st => ∃ (i : Nat) (s : Gs), i ≤ l.length ∧ k = l.length - i ∧ st = ⟨[(0, .c (.sl (mrows l))), (1, .c (.sl (zints vs))), (5, .ptr 320 0), (6, .c (.int .i64 (i : Int)))], [(320, .obj [.c (.int .i64 s.vw), .c (.int .i64 s.vo.vw), .c (.int .i64 s.vo.ht), .c (.str s.vo.bl), .c (.int .i64 s.co.vw), .c (.int .i64 s.co.ht), .c (.str s.co.bl), .c (.int .i64 s.lo.vw), .c (.int .i64 s.lo.ht), .c (.str s.lo.bl), .c (.bool s.sp)] false)]⟩) ⟨l.length, _, ?w, 0, s0, Nat.zero_le _, rfl, rfl⟩ ?r
  case w =>
    rw [hns]
    simp only [runB, finC, finD, AS.get, AS.mem, false_implies, implies_true, ↓reduceIte, Nat.reduceEqDiff, Option.isSome_some, Option.isSome_none, forall_eq_or_imp, forall_eq, reduceCtorEq, Nat.reduceAdd, Nat.reduceMul, List.zip_cons_cons, List.zip_nil_left, List.zip_nil_right, List.forall_mem_nil]
    first | done | simp
  case r =>
    rintro k st ⟨i, s, hi, rfl, rfl⟩
    refine vc_sound hΓ mixed _ _ _ ?_
    by_cases hlt : i < l.length
    · have k1 : decide ((i : Int) < (l.length : Int)) = true := decide_eq_true (by omega)
      have e1 : IntKind.i64.wrap ((i : Int) + 1) = (i : Int) + 1 := wrapI (by omega)
      have hg := mrowsD l i hlt
      generalize l.getD i zeroM = m at hg
      obtain ⟨s', hs'⟩ : ∃ s' : Gs, s' = lckS s m := ⟨_, rfl⟩
      have q3 := lck_p s s' m hs'
      obtain ⟨f1, f2, f3⟩ := lck_facts s m
      rw [← hs'] at f1 f2 f3
      have q4a := rhi_p s.lo s'.lo
      have q4b := rhi_p m s'.lo
      have qe := eq_mk s'.lo s.lo
      rw [f1] at q4a
      rw [f3] at q4b
      simp only [runA, runB, runC, runD, runE, runF, fieldE, storeE, binE, ↓reduceIte, Nat.reduceLT, Nat.reduceLeDiff, Nat.reduceEqDiff, Nat.reduceAdd, Nat.reduceMul, Nat.reduceSub, reduceCtorEq, putAt, unE, Nat.reduceBEq, convE, buildE, List.replicate, Int.reduceLT, Int.reduceLE, Int.reduceToNat, mkE, mapSetE, hN, hF, ty_3, ty_4, ty_9, ty_51, ty_59, ty_60, ty_62, notIf, isEq, hml, k1, e1, hg, h3, q3, h4, q4a, q4b, eqg_mk, qe, f2]
      refine drawnP_intro (by kernel_rfl) (by kernel_rfl) ?_
      simp only [runA, runB, runC, runD, runE, runF, fieldE, storeE, binE, ↓reduceIte, Nat.reduceLT, Nat.reduceLeDiff, Nat.reduceEqDiff, Nat.reduceAdd, Nat.reduceMul, Nat.reduceSub, reduceCtorEq, putAt, unE, Nat.reduceBEq, convE, buildE, List.replicate, Int.reduceLT, Int.reduceLE, Int.reduceToNat, mkE, mapSetE, hN, hF, ty_3, ty_4, ty_9, ty_51, ty_59, ty_60, ty_62, notIf, isEq, hml, k1, e1, hg, h3, q3, h4, q4a, q4b, eqg_mk, qe, f2]
      refine drawnP_intro (by kernel_rfl) (by kernel_rfl) ?_
      simp only [runA, runB, runC, runD, runE, runF, fieldE, storeE, binE, ↓reduceIte, Nat.reduceLT, Nat.reduceLeDiff, Nat.reduceEqDiff, Nat.reduceAdd, Nat.reduceMul, Nat.reduceSub, reduceCtorEq, putAt, unE, Nat.reduceBEq, convE, buildE, List.replicate, Int.reduceLT, Int.reduceLE, Int.reduceToNat, mkE, mapSetE, hN, hF, ty_3, ty_4, ty_9, ty_51, ty_59, ty_60, ty_62, notIf, isEq, hml, k1, e1, hg, h3, q3, h4, q4a, q4b, eqg_mk, qe, f2]
      refine ⟨l.length - (i + 1), _, by omega, ?_, i + 1, s', by omega, rfl, rfl⟩
      rw [hns]
      simp only [runB, finC, finD, AS.get, AS.mem, false_implies, implies_true, ↓reduceIte, Nat.reduceEqDiff, Option.isSome_some, Option.isSome_none, forall_eq_or_imp, forall_eq, reduceCtorEq, Nat.reduceAdd, Nat.reduceMul, List.zip_cons_cons, List.zip_nil_left, List.zip_nil_right, List.forall_mem_nil]
      first | done | simp
    · have k1 : decide ((i : Int) < (l.length : Int)) = false := decide_eq_false (by omega)
      simp only [runA, runB, runC, runD, runE, runF, fieldE, storeE, binE, ↓reduceIte, Nat.reduceLT, Nat.reduceLeDiff, Nat.reduceEqDiff, Nat.reduceAdd, Nat.reduceMul, Nat.reduceSub, reduceCtorEq, putAt, unE, Nat.reduceBEq, convE, buildE, List.replicate, Int.reduceLT, Int.reduceLE, Int.reduceToNat, mkE, mapSetE, hN, hF, ty_3, ty_4, ty_9, ty_51, ty_59, ty_60, ty_62, notIf, isEq, hml, k1]
      refine AWP.loop (fun k st => ∃ (j : Nat) (s : Gs), j ≤ vs.length ∧ k = vs.length - j ∧ st = ⟨[(1, .c (.sl (zints vs))), (5, .ptr 320 0), (9, .c (.int .i64 (j : Int)))], [(320, .obj [.c (.int .i64 s.vw), .c (.int .i64 s.vo.vw), .c (.int .i64 s.vo.ht), .c (.str s.vo.bl), .c (.int .i64 s.co.vw), .c (.int .i64 s.co.ht), .c (.str s.co.bl), .c (.int .i64 s.lo.vw), .c (.int .i64 s.lo.ht), .c (.str s.lo.bl), .c (.bool s.sp)] false)]⟩) ⟨vs.length, _, ?w2, 0, s, Nat.zero_le _, rfl, rfl⟩ ?r2
      case w2 =>
        rw [hns]
        simp only [runB, finC, finD, AS.get, AS.mem, false_implies, implies_true, ↓reduceIte, Nat.reduceEqDiff, Option.isSome_some, Option.isSome_none, forall_eq_or_imp, forall_eq, reduceCtorEq, Nat.reduceAdd, Nat.reduceMul, List.zip_cons_cons, List.zip_nil_left, List.zip_nil_right, List.forall_mem_nil]
        first | done | simp
      case r2 =>
        rintro k st ⟨j, s, hj, rfl, rfl⟩
        refine vc_sound hΓ mixed _ _ _ ?_
        by_cases hlt2 : j < vs.length
        · have k2 : decide ((j : Int) < (vs.length : Int)) = true := decide_eq_true (by omega)
          have e2 : IntKind.i64.wrap ((j : Int) + 1) = (j : Int) + 1 := wrapI (by omega)
          have hg := zintsD vs j hlt2
          generalize vs.getD j 0 = v at hg
          obtain ⟨s', hs'⟩ : ∃ s' : Gs, s' = entS s v := ⟨_, rfl⟩
          have q5 := ent_p s s' v hs'
          obtain ⟨f1, f2, f3⟩ := ent_facts s v
          rw [← hs'] at f1 f2 f3
          have qe := eq_mk s'.lo s.lo
          rw [decide_eq_true f3] at qe
          simp only [runA, runB, runC, runD, runE, runF, fieldE, storeE, binE, ↓reduceIte, Nat.reduceLT, Nat.reduceLeDiff, Nat.reduceEqDiff, Nat.reduceAdd, Nat.reduceMul, Nat.reduceSub, reduceCtorEq, putAt, unE, Nat.reduceBEq, convE, buildE, List.replicate, Int.reduceLT, Int.reduceLE, Int.reduceToNat, mkE, mapSetE, hN, hF, ty_3, ty_4, ty_9, ty_51, ty_59, ty_60, ty_62, notIf, isEq, hzl, k2, e2, hg, h5, q5, f1, f2, eqg_mk, qe, nt1]
          refine drawnP_intro (by kernel_rfl) (by kernel_rfl) ?_
          simp only [runA, runB, runC, runD, runE, runF, fieldE, storeE, binE, ↓reduceIte, Nat.reduceLT, Nat.reduceLeDiff, Nat.reduceEqDiff, Nat.reduceAdd, Nat.reduceMul, Nat.reduceSub, reduceCtorEq, putAt, unE, Nat.reduceBEq, convE, buildE, List.replicate, Int.reduceLT, Int.reduceLE, Int.reduceToNat, mkE, mapSetE, hN, hF, ty_3, ty_4, ty_9, ty_51, ty_59, ty_60, ty_62, notIf, isEq, hzl, k2, e2, hg, h5, q5, f1, f2, eqg_mk, qe, nt1]
          refine ⟨vs.length - (j + 1), _, by omega, ?_, j + 1, s', by omega, rfl, rfl⟩
          rw [hns]
          simp only [runB, finC, finD, AS.get, AS.mem, false_implies, implies_true, ↓reduceIte, Nat.reduceEqDiff, Option.isSome_some, Option.isSome_none, forall_eq_or_imp, forall_eq, reduceCtorEq, Nat.reduceAdd, Nat.reduceMul, List.zip_cons_cons, List.zip_nil_left, List.zip_nil_right, List.forall_mem_nil]
          first | done | simp
        · have k2 : decide ((j : Int) < (vs.length : Int)) = false := decide_eq_false (by omega)
          simp only [runA, runB, runC, runD, runE, runF, fieldE, storeE, binE, ↓reduceIte, Nat.reduceLT, Nat.reduceLeDiff, Nat.reduceEqDiff, Nat.reduceAdd, Nat.reduceMul, Nat.reduceSub, reduceCtorEq, putAt, unE, Nat.reduceBEq, convE, buildE, List.replicate, Int.reduceLT, Int.reduceLE, Int.reduceToNat, mkE, mapSetE, hN, hF, ty_3, ty_4, ty_9, ty_51, ty_59, ty_60, ty_62, notIf, isEq, hzl, k2]
          simp only [runB, finC, finD, Option.isSome_some, Option.isSome_none, ↓reduceIte, Nat.reduceEqDiff, Nat.reduceAdd, Nat.reduceMul, forall_eq_or_imp, forall_eq, implies_true, Nat.reduceBEq, reduceCtorEq, false_implies, List.zip_cons_cons, List.zip_nil_left, List.zip_nil_right, Nat.reduceLeDiff, List.forall_mem_nil, rs_6, ty_3, ty_4, ty_9, ty_51, ty_59, ty_60, ty_62]

end Go.Proofs.Ytcfijanfcgnnhaa.AM
