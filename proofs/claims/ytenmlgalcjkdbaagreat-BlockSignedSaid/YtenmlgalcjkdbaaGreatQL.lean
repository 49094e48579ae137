/-
  QL: Bs0 Bs1.
-/
import Derived.Test.YtenmlgalcjkdbaaGreatQK
import Derived.Test.YtenmlgalcjkdbaaGreatQF
set_option linter.unusedVariables false
set_option linter.unusedSimpArgs false
namespace Go.Proofs.YtenmlgalcjkdbaaGreat.AM
open Go

variable {Γ : FuncId → Contract}

noncomputable def clnTC : Contract := mkC (α := List Txn) (fun l => l.length ≤ 1099511627776) (fun l => [.c (.sl (trows l))]) (fun _ => []) (fun l => ⟨[.pv (.c (.sl (trows l)))], []⟩)
theorem clnT_at (l : List Txn) (h : l.length ≤ 1099511627776) : clnTC [.c (.sl (trows l))] [] = some ⟨[.pv (.c (.sl (trows l)))], []⟩ :=
  mkC_at (α := List Txn) l h (by
    rintro y _ h _
    simp only [List.cons.injEq, AV.c.injEq, PC.sl.injEq, trows_iff, and_true] at h
    rw [h])
set_option maxRecDepth 100000 in
set_option maxHeartbeats 4000000 in
theorem clnT_sound  : SoundC Tryz.prog 47 clnTC := by
  refine sound_fn Tryz.func47 (by kernel_rfl) rfl rfl ?_
  intro args objs r0 hr
  obtain ⟨l, hl, rfl, rfl, rfl⟩ := mkC_inv hr
  refine ⟨rfl, by show 1 ≤ _; decide, fun E hN hns hF => ?_⟩
  refine vc_sound none0_sound mixed _ _ _ ?_
  have hN := hN.trans nt_47
  have hl : l.length ≤ 1099511627776 := hl
  have hz := rowsOK_trows l
  have hz0 : rowsOK 5 [] := fun _ h => by cases h
  cases l with
  | nil =>
    simp only [trows_nil, runA, runB, runC, runD, runE, runF, fieldE, storeE, binE, ↓reduceIte, Nat.reduceLT, Nat.reduceLeDiff, Nat.reduceEqDiff, Nat.reduceAdd, Nat.reduceMul, Nat.reduceSub, reduceCtorEq, putAt, unE, Nat.reduceBEq, convE, buildE, List.replicate, Int.reduceLT, Int.reduceLE, Int.reduceToNat, mkE, mapSetE, hN, hF, ty_22, ty_36, notIf, isEq, hz0]
    constructor
    all_goals simp only [runB, finC, finD, Option.isSome_some, Option.isSome_none, ↓reduceIte, Nat.reduceEqDiff, Nat.reduceAdd, Nat.reduceMul, forall_eq_or_imp, forall_eq, implies_true, Nat.reduceBEq, reduceCtorEq, false_implies, List.zip_cons_cons, List.zip_nil_left, List.zip_nil_right, Nat.reduceLeDiff, List.forall_mem_nil, rs_47]
  | cons x l =>
    have hx : trows (x :: l) = x.pcs :: trows l := rfl
    have hxl : (trows l).length = l.length := trows_length l
    rw [List.length_cons] at hl
    have hL : (0 + (l.length + 1)) * 48 ≤ 140737488355328 := by omega
    have hL2 : (l.length + 1) * 48 ≤ 140737488355328 := by omega
    rw [hx] at hz ⊢
    simp only [runA, runB, runC, runD, runE, runF, fieldE, storeE, binE, ↓reduceIte, Nat.reduceLT, Nat.reduceLeDiff, Nat.reduceEqDiff, Nat.reduceAdd, Nat.reduceMul, Nat.reduceSub, reduceCtorEq, putAt, unE, Nat.reduceBEq, convE, buildE, List.replicate, Int.reduceLT, Int.reduceLE, Int.reduceToNat, mkE, mapSetE, hN, hF, ty_22, ty_36, notIf, isEq, hz, hL, hL2, hxl]
    simp only [runB, finC, finD, Option.isSome_some, Option.isSome_none, ↓reduceIte, Nat.reduceEqDiff, Nat.reduceAdd, Nat.reduceMul, forall_eq_or_imp, forall_eq, implies_true, Nat.reduceBEq, reduceCtorEq, false_implies, List.zip_cons_cons, List.zip_nil_left, List.zip_nil_right, Nat.reduceLeDiff, List.forall_mem_nil, rs_47, hxl]
noncomputable def clnVC : Contract := mkC (α := List Vt) (fun l => l.length ≤ 1099511627776) (fun l => [.c (.sl (votes l))]) (fun _ => []) (fun l => ⟨[.pv (.c (.sl (votes l)))], []⟩)
theorem clnV_at (l : List Vt) (h : l.length ≤ 1099511627776) : clnVC [.c (.sl (votes l))] [] = some ⟨[.pv (.c (.sl (votes l)))], []⟩ :=
  mkC_at (α := List Vt) l h (by
    rintro y _ h _
    simp only [List.cons.injEq, AV.c.injEq, PC.sl.injEq, votes_iff, and_true] at h
    rw [h])
set_option maxRecDepth 100000 in
set_option maxHeartbeats 4000000 in
theorem clnV_sound  : SoundC Tryz.prog 48 clnVC := by
  refine sound_fn Tryz.func48 (by kernel_rfl) rfl rfl ?_
  intro args objs r0 hr
  obtain ⟨l, hl, rfl, rfl, rfl⟩ := mkC_inv hr
  refine ⟨rfl, by show 1 ≤ _; decide, fun E hN hns hF => ?_⟩
  refine vc_sound none0_sound mixed _ _ _ ?_
  have hN := hN.trans nt_48
  have hl : l.length ≤ 1099511627776 := hl
  have hz := rowsOK_votes l
  have hz0 : rowsOK 7 [] := fun _ h => by cases h
  cases l with
  | nil =>
    simp only [votes_nil, runA, runB, runC, runD, runE, runF, fieldE, storeE, binE, ↓reduceIte, Nat.reduceLT, Nat.reduceLeDiff, Nat.reduceEqDiff, Nat.reduceAdd, Nat.reduceMul, Nat.reduceSub, reduceCtorEq, putAt, unE, Nat.reduceBEq, convE, buildE, List.replicate, Int.reduceLT, Int.reduceLE, Int.reduceToNat, mkE, mapSetE, hN, hF, ty_29, ty_97, notIf, isEq, hz0]
    constructor
    all_goals simp only [runB, finC, finD, Option.isSome_some, Option.isSome_none, ↓reduceIte, Nat.reduceEqDiff, Nat.reduceAdd, Nat.reduceMul, forall_eq_or_imp, forall_eq, implies_true, Nat.reduceBEq, reduceCtorEq, false_implies, List.zip_cons_cons, List.zip_nil_left, List.zip_nil_right, Nat.reduceLeDiff, List.forall_mem_nil, rs_48]
  | cons x l =>
    have hx : votes (x :: l) = x.pcs :: votes l := rfl
    have hxl : (votes l).length = l.length := votes_length l
    rw [List.length_cons] at hl
    have hL : (0 + (l.length + 1)) * 72 ≤ 140737488355328 := by omega
    have hL2 : (l.length + 1) * 72 ≤ 140737488355328 := by omega
    rw [hx] at hz ⊢
    simp only [runA, runB, runC, runD, runE, runF, fieldE, storeE, binE, ↓reduceIte, Nat.reduceLT, Nat.reduceLeDiff, Nat.reduceEqDiff, Nat.reduceAdd, Nat.reduceMul, Nat.reduceSub, reduceCtorEq, putAt, unE, Nat.reduceBEq, convE, buildE, List.replicate, Int.reduceLT, Int.reduceLE, Int.reduceToNat, mkE, mapSetE, hN, hF, ty_29, ty_97, notIf, isEq, hz, hL, hL2, hxl]
    simp only [runB, finC, finD, Option.isSome_some, Option.isSome_none, ↓reduceIte, Nat.reduceEqDiff, Nat.reduceAdd, Nat.reduceMul, forall_eq_or_imp, forall_eq, implies_true, Nat.reduceBEq, reduceCtorEq, false_implies, List.zip_cons_cons, List.zip_nil_left, List.zip_nil_right, Nat.reduceLeDiff, List.forall_mem_nil, rs_48, hxl]
theorem getD_extM {α : Type} {a b : List α} {d : α} (hl : a.length = b.length) (h : ∀ k, k < a.length → a.getD k d = b.getD k d) : a = b := by
  apply List.ext_getElem hl
  intro i h1 h2
  have := h i h1
  simpa [List.getD, h1, h2] using this
theorem eqg_vo : Tryz.prog.eqGuardType Tryz.prog.depth 97 = false := by kernel_rfl
theorem eqd_vo (a b : Vt) : eqE Tryz.prog 10000 97 [.int .i64 a.kd, .int .i64 a.vw, .int .i64 a.ht, .str a.bl, .int .i64 a.tk, .int .i64 a.sg, .str a.sig] [.int .i64 b.kd, .int .i64 b.vw, .int .i64 b.ht, .str b.bl, .int .i64 b.tk, .int .i64 b.sg, .str b.sig] = some (decide (a = b)) := by
  have h : eqE Tryz.prog 10000 97 [.int .i64 a.kd, .int .i64 a.vw, .int .i64 a.ht, .str a.bl, .int .i64 a.tk, .int .i64 a.sg, .str a.sig] [.int .i64 b.kd, .int .i64 b.vw, .int .i64 b.ht, .str b.bl, .int .i64 b.tk, .int .i64 b.sg, .str b.sig] = some ((a.kd == b.kd) && ((a.vw == b.vw) && ((a.ht == b.ht) && ((a.bl == b.bl) && ((a.tk == b.tk) && ((a.sg == b.sg) && ((a.sig == b.sig) && true))))))) := by kernel_rfl
  refine h.trans (congrArg some ?_)
  obtain ⟨a0, a1, a2, a3, a4, a5, a6⟩ := a
  obtain ⟨b0, b1, b2, b3, b4, b5, b6⟩ := b
  rw [Bool.eq_iff_iff, decide_eq_true_iff, Vt.mk.injEq]
  simp only [Bool.and_eq_true, beq_iff_eq, and_true]
theorem eqg_tx : Tryz.prog.eqGuardType Tryz.prog.depth 36 = false := by kernel_rfl
theorem eqd_tx (a b : Txn) : eqE Tryz.prog 10000 36 [.int .i64 a.fr, .int .i64 a.to, .int .i64 a.am, .int .i64 a.no, .str a.sig] [.int .i64 b.fr, .int .i64 b.to, .int .i64 b.am, .int .i64 b.no, .str b.sig] = some (decide (a = b)) := by
  have h : eqE Tryz.prog 10000 36 [.int .i64 a.fr, .int .i64 a.to, .int .i64 a.am, .int .i64 a.no, .str a.sig] [.int .i64 b.fr, .int .i64 b.to, .int .i64 b.am, .int .i64 b.no, .str b.sig] = some ((a.fr == b.fr) && ((a.to == b.to) && ((a.am == b.am) && ((a.no == b.no) && ((a.sig == b.sig) && true))))) := by kernel_rfl
  refine h.trans (congrArg some ?_)
  obtain ⟨a0, a1, a2, a3, a4⟩ := a
  obtain ⟨b0, b1, b2, b3, b4⟩ := b
  rw [Bool.eq_iff_iff, decide_eq_true_iff, Txn.mk.injEq]
  simp only [Bool.and_eq_true, beq_iff_eq, and_true]
noncomputable def smVC : Contract := mkC (α := List Vt × List Vt) (fun p => p.1.length ≤ 9223372036854775807 ∧ p.2.length ≤ 9223372036854775807) (fun p => [.c (.sl (votes p.1)), .c (.sl (votes p.2))]) (fun _ => []) (fun p => ⟨[.pv (.c (.bool (decide (p.1 = p.2))))], []⟩)
theorem smV_at (a b : List Vt) (h : a.length ≤ 9223372036854775807) (h' : b.length ≤ 9223372036854775807) : smVC [.c (.sl (votes a)), .c (.sl (votes b))] [] = some ⟨[.pv (.c (.bool (decide (a = b))))], []⟩ := mkC_at (α := List Vt × List Vt) (a, b) ⟨h, h'⟩ (by
  rintro ⟨a', b'⟩ _ h _
  simp only [List.cons.injEq, AV.c.injEq, PC.sl.injEq, votes_iff, and_true] at h
  obtain ⟨rfl, rfl⟩ := h
  rfl)
set_option maxHeartbeats 4000000 in
theorem smV_sound : SoundC Tryz.prog 75 smVC := by
  refine sound_fn Tryz.func75 (by kernel_rfl) rfl rfl ?_
  intro args objs r0 hr
  obtain ⟨⟨a, b⟩, ⟨hl, hl'⟩, rfl, rfl, rfl⟩ := mkC_inv hr
  refine ⟨rfl, by show 2 ≤ _; decide, fun E hN hns hF => ?_⟩
  refine vc_sound none0_sound mixed _ _ _ ?_
  have hN := hN.trans nt_75
  have hl : a.length ≤ 9223372036854775807 := hl
  have hl' : b.length ≤ 9223372036854775807 := hl'
  dsimp only
  by_cases hab : a.length = b.length
  case neg =>
    have g0 : ((a.length : Int) != (b.length : Int)) = true := by simp; omega
    have hne : decide (a = b) = false := decide_eq_false (fun e => hab (by rw [e]))
    rw [hne]
    simp only [runA, runB, runC, runD, runE, runF, fieldE, storeE, binE, ↓reduceIte, Nat.reduceLT, Nat.reduceLeDiff, Nat.reduceEqDiff, Nat.reduceAdd, Nat.reduceMul, Nat.reduceSub, reduceCtorEq, putAt, unE, Nat.reduceBEq, convE, buildE, List.replicate, Int.reduceLT, Int.reduceLE, Int.reduceToNat, mkE, mapSetE, hN, hF, ty_3, ty_4, ty_9, ty_29, ty_97, notIf, isEq, votes_length, g0]
    simp only [runB, finC, finD, Option.isSome_some, Option.isSome_none, ↓reduceIte, Nat.reduceEqDiff, Nat.reduceAdd, Nat.reduceMul, forall_eq_or_imp, forall_eq, implies_true, Nat.reduceBEq, reduceCtorEq, false_implies, List.zip_cons_cons, List.zip_nil_left, List.zip_nil_right, Nat.reduceLeDiff, List.forall_mem_nil, rs_75, ty_3, ty_4, ty_9, ty_29, ty_97]
  have g0 : ((a.length : Int) != (b.length : Int)) = false := by simp [hab]
  simp only [runA, runB, runC, runD, runE, runF, fieldE, storeE, binE, ↓reduceIte, Nat.reduceLT, Nat.reduceLeDiff, Nat.reduceEqDiff, Nat.reduceAdd, Nat.reduceMul, Nat.reduceSub, reduceCtorEq, putAt, unE, Nat.reduceBEq, convE, buildE, List.replicate, Int.reduceLT, Int.reduceLE, Int.reduceToNat, mkE, mapSetE, hN, hF, ty_3, ty_4, ty_9, ty_29, ty_97, notIf, isEq, votes_length, g0]
  refine AWP.loop (fun k st => ∃ i : Nat, (i ≤ a.length ∧ ∀ k, k < i → a.getD k zeroV = b.getD k zeroV) ∧ k = a.length - i ∧ st = ⟨[(0, .c (.sl (votes a))), (1, .c (.sl (votes b))), (5, .c (.int .i64 (i : Int)))], []⟩) ⟨a.length, _, ?w, 0, ⟨Nat.zero_le _, fun k hk => absurd hk (by omega)⟩, rfl, rfl⟩ ?r
  case w =>
    rw [hns]
    simp only [runB, finC, finD, AS.get, AS.mem, false_implies, implies_true, ↓reduceIte, Nat.reduceEqDiff, Option.isSome_some, Option.isSome_none, forall_eq_or_imp, forall_eq, reduceCtorEq, Nat.reduceAdd, Nat.reduceMul, List.zip_cons_cons, List.zip_nil_left, List.zip_nil_right, List.forall_mem_nil]
    first | done | simp
  case r =>
    rintro k st ⟨i, ⟨hi, h8⟩, rfl, rfl⟩
    refine vc_sound none0_sound mixed _ _ _ ?_
    by_cases hlt : i < a.length
    · have k1 : decide ((i : Int) < (a.length : Int)) = true := decide_eq_true (by omega)
      have e1 : IntKind.i64.wrap ((i : Int) + 1) = (i : Int) + 1 := wrapI (by omega)
      have hg := votesD a i hlt
      have hg' := votesD b i (by omega)
      have hq := eqd_vo (a.getD i zeroV) (b.getD i zeroV)
      by_cases hy : a.getD i zeroV = b.getD i zeroV
      · have hd : decide (a.getD i zeroV = b.getD i zeroV) = true := decide_eq_true hy
        rw [hd] at hq
        have h8' : ∀ k, k < i + 1 → a.getD k zeroV = b.getD k zeroV := fun k hk => by
          by_cases e : k = i
          · rw [e]; exact hy
          · exact h8 k (by omega)
        unfold Vt.pcs at hg hg'
        generalize a.getD i zeroV = y at hg hq
        generalize b.getD i zeroV = z at hg' hq
        have nt1 : (!true) = false := rfl
        simp only [runA, runB, runC, runD, runE, runF, fieldE, storeE, binE, ↓reduceIte, Nat.reduceLT, Nat.reduceLeDiff, Nat.reduceEqDiff, Nat.reduceAdd, Nat.reduceMul, Nat.reduceSub, reduceCtorEq, putAt, unE, Nat.reduceBEq, convE, buildE, List.replicate, Int.reduceLT, Int.reduceLE, Int.reduceToNat, mkE, mapSetE, hN, hF, ty_3, ty_4, ty_9, ty_29, ty_97, notIf, isEq, k1, e1, hg, hg', eqg_vo, hq, nt1, votes_length]
        refine drawnP_intro (by kernel_rfl) (by kernel_rfl) ?_
        simp only [runA, runB, runC, runD, runE, runF, fieldE, storeE, binE, ↓reduceIte, Nat.reduceLT, Nat.reduceLeDiff, Nat.reduceEqDiff, Nat.reduceAdd, Nat.reduceMul, Nat.reduceSub, reduceCtorEq, putAt, unE, Nat.reduceBEq, convE, buildE, List.replicate, Int.reduceLT, Int.reduceLE, Int.reduceToNat, mkE, mapSetE, hN, hF, ty_3, ty_4, ty_9, ty_29, ty_97, notIf, isEq, k1, e1, hg, hg', eqg_vo, hq, nt1, votes_length]
        refine ⟨a.length - (i + 1), _, by omega, ?_, i + 1, ⟨by omega, h8'⟩, rfl, rfl⟩
        rw [hns]
        simp only [runB, finC, finD, AS.get, AS.mem, false_implies, implies_true, ↓reduceIte, Nat.reduceEqDiff, Option.isSome_some, Option.isSome_none, forall_eq_or_imp, forall_eq, reduceCtorEq, Nat.reduceAdd, Nat.reduceMul, List.zip_cons_cons, List.zip_nil_left, List.zip_nil_right, List.forall_mem_nil]
        first | done | simp
      · have hd : decide (a.getD i zeroV = b.getD i zeroV) = false := decide_eq_false hy
        rw [hd] at hq
        have hne : decide (a = b) = false := decide_eq_false (fun e => hy (by rw [e]))
        rw [hne]
        unfold Vt.pcs at hg hg'
        generalize a.getD i zeroV = y at hg hq
        generalize b.getD i zeroV = z at hg' hq
        have ntf : (!false) = true := rfl
        simp only [runA, runB, runC, runD, runE, runF, fieldE, storeE, binE, ↓reduceIte, Nat.reduceLT, Nat.reduceLeDiff, Nat.reduceEqDiff, Nat.reduceAdd, Nat.reduceMul, Nat.reduceSub, reduceCtorEq, putAt, unE, Nat.reduceBEq, convE, buildE, List.replicate, Int.reduceLT, Int.reduceLE, Int.reduceToNat, mkE, mapSetE, hN, hF, ty_3, ty_4, ty_9, ty_29, ty_97, notIf, isEq, k1, e1, hg, hg', eqg_vo, hq, ntf, votes_length]
        refine drawnP_intro (by kernel_rfl) (by kernel_rfl) ?_
        simp only [runA, runB, runC, runD, runE, runF, fieldE, storeE, binE, ↓reduceIte, Nat.reduceLT, Nat.reduceLeDiff, Nat.reduceEqDiff, Nat.reduceAdd, Nat.reduceMul, Nat.reduceSub, reduceCtorEq, putAt, unE, Nat.reduceBEq, convE, buildE, List.replicate, Int.reduceLT, Int.reduceLE, Int.reduceToNat, mkE, mapSetE, hN, hF, ty_3, ty_4, ty_9, ty_29, ty_97, notIf, isEq, k1, e1, hg, hg', eqg_vo, hq, ntf, votes_length]
        simp only [runB, finC, finD, Option.isSome_some, Option.isSome_none, ↓reduceIte, Nat.reduceEqDiff, Nat.reduceAdd, Nat.reduceMul, forall_eq_or_imp, forall_eq, implies_true, Nat.reduceBEq, reduceCtorEq, false_implies, List.zip_cons_cons, List.zip_nil_left, List.zip_nil_right, Nat.reduceLeDiff, List.forall_mem_nil, rs_75, ty_3, ty_4, ty_9, ty_29, ty_97]
    · have k1 : decide ((i : Int) < (a.length : Int)) = false := decide_eq_false (by omega)
      obtain rfl : i = a.length := by omega
      have hne : decide (a = b) = true := decide_eq_true (getD_extM hab h8)
      rw [hne]
      simp only [runA, runB, runC, runD, runE, runF, fieldE, storeE, binE, ↓reduceIte, Nat.reduceLT, Nat.reduceLeDiff, Nat.reduceEqDiff, Nat.reduceAdd, Nat.reduceMul, Nat.reduceSub, reduceCtorEq, putAt, unE, Nat.reduceBEq, convE, buildE, List.replicate, Int.reduceLT, Int.reduceLE, Int.reduceToNat, mkE, mapSetE, hN, hF, ty_3, ty_4, ty_9, ty_29, ty_97, notIf, isEq, k1, votes_length]
      simp only [runB, finC, finD, Option.isSome_some, Option.isSome_none, ↓reduceIte, Nat.reduceEqDiff, Nat.reduceAdd, Nat.reduceMul, forall_eq_or_imp, forall_eq, implies_true, Nat.reduceBEq, reduceCtorEq, false_implies, List.zip_cons_cons, List.zip_nil_left, List.zip_nil_right, Nat.reduceLeDiff, List.forall_mem_nil, rs_75, ty_3, ty_4, ty_9, ty_29, ty_97]
noncomputable def smTC : Contract := mkC (α := List Txn × List Txn) (fun p => p.1.length ≤ 9223372036854775807 ∧ p.2.length ≤ 9223372036854775807) (fun p => [.c (.sl (trows p.1)), .c (.sl (trows p.2))]) (fun _ => []) (fun p => ⟨[.pv (.c (.bool (decide (p.1 = p.2))))], []⟩)
theorem smT_at (a b : List Txn) (h : a.length ≤ 9223372036854775807) (h' : b.length ≤ 9223372036854775807) : smTC [.c (.sl (trows a)), .c (.sl (trows b))] [] = some ⟨[.pv (.c (.bool (decide (a = b))))], []⟩ := mkC_at (α := List Txn × List Txn) (a, b) ⟨h, h'⟩ (by
  rintro ⟨a', b'⟩ _ h _
  simp only [List.cons.injEq, AV.c.injEq, PC.sl.injEq, trows_iff, and_true] at h
  obtain ⟨rfl, rfl⟩ := h
  rfl)
set_option maxHeartbeats 4000000 in
theorem smT_sound : SoundC Tryz.prog 60 smTC := by
  refine sound_fn Tryz.func60 (by kernel_rfl) rfl rfl ?_
  intro args objs r0 hr
  obtain ⟨⟨a, b⟩, ⟨hl, hl'⟩, rfl, rfl, rfl⟩ := mkC_inv hr
  refine ⟨rfl, by show 2 ≤ _; decide, fun E hN hns hF => ?_⟩
  refine vc_sound none0_sound mixed _ _ _ ?_
  have hN := hN.trans nt_60
  have hl : a.length ≤ 9223372036854775807 := hl
  have hl' : b.length ≤ 9223372036854775807 := hl'
  dsimp only
  by_cases hab : a.length = b.length
  case neg =>
    have g0 : ((a.length : Int) != (b.length : Int)) = true := by simp; omega
    have hne : decide (a = b) = false := decide_eq_false (fun e => hab (by rw [e]))
    rw [hne]
    simp only [runA, runB, runC, runD, runE, runF, fieldE, storeE, binE, ↓reduceIte, Nat.reduceLT, Nat.reduceLeDiff, Nat.reduceEqDiff, Nat.reduceAdd, Nat.reduceMul, Nat.reduceSub, reduceCtorEq, putAt, unE, Nat.reduceBEq, convE, buildE, List.replicate, Int.reduceLT, Int.reduceLE, Int.reduceToNat, mkE, mapSetE, hN, hF, ty_3, ty_4, ty_9, ty_22, ty_36, notIf, isEq, trows_length, g0]
    simp only [runB, finC, finD, Option.isSome_some, Option.isSome_none, ↓reduceIte, Nat.reduceEqDiff, Nat.reduceAdd, Nat.reduceMul, forall_eq_or_imp, forall_eq, implies_true, Nat.reduceBEq, reduceCtorEq, false_implies, List.zip_cons_cons, List.zip_nil_left, List.zip_nil_right, Nat.reduceLeDiff, List.forall_mem_nil, rs_60, ty_3, ty_4, ty_9, ty_22, ty_36]
  have g0 : ((a.length : Int) != (b.length : Int)) = false := by simp [hab]
  simp only [runA, runB, runC, runD, runE, runF, fieldE, storeE, binE, ↓reduceIte, Nat.reduceLT, Nat.reduceLeDiff, Nat.reduceEqDiff, Nat.reduceAdd, Nat.reduceMul, Nat.reduceSub, reduceCtorEq, putAt, unE, Nat.reduceBEq, convE, buildE, List.replicate, Int.reduceLT, Int.reduceLE, Int.reduceToNat, mkE, mapSetE, hN, hF, ty_3, ty_4, ty_9, ty_22, ty_36, notIf, isEq, trows_length, g0]
  refine AWP.loop (fun k st => ∃ i : Nat, (i ≤ a.length ∧ ∀ k, k < i → a.getD k zeroT = b.getD k zeroT) ∧ k = a.length - i ∧ st = ⟨[(0, .c (.sl (trows a))), (1, .c (.sl (trows b))), (5, .c (.int .i64 (i : Int)))], []⟩) ⟨a.length, _, ?w, 0, ⟨Nat.zero_le _, fun k hk => absurd hk (by omega)⟩, rfl, rfl⟩ ?r
  case w =>
    rw [hns]
    simp only [runB, finC, finD, AS.get, AS.mem, false_implies, implies_true, ↓reduceIte, Nat.reduceEqDiff, Option.isSome_some, Option.isSome_none, forall_eq_or_imp, forall_eq, reduceCtorEq, Nat.reduceAdd, Nat.reduceMul, List.zip_cons_cons, List.zip_nil_left, List.zip_nil_right, List.forall_mem_nil]
    first | done | simp
  case r =>
    rintro k st ⟨i, ⟨hi, h8⟩, rfl, rfl⟩
    refine vc_sound none0_sound mixed _ _ _ ?_
    by_cases hlt : i < a.length
    · have k1 : decide ((i : Int) < (a.length : Int)) = true := decide_eq_true (by omega)
      have e1 : IntKind.i64.wrap ((i : Int) + 1) = (i : Int) + 1 := wrapI (by omega)
      have hg := trowsD a i hlt
      have hg' := trowsD b i (by omega)
      have hq := eqd_tx (a.getD i zeroT) (b.getD i zeroT)
      by_cases hy : a.getD i zeroT = b.getD i zeroT
      · have hd : decide (a.getD i zeroT = b.getD i zeroT) = true := decide_eq_true hy
        rw [hd] at hq
        have h8' : ∀ k, k < i + 1 → a.getD k zeroT = b.getD k zeroT := fun k hk => by
          by_cases e : k = i
          · rw [e]; exact hy
          · exact h8 k (by omega)
        unfold Txn.pcs at hg hg'
        generalize a.getD i zeroT = y at hg hq
        generalize b.getD i zeroT = z at hg' hq
        have nt1 : (!true) = false := rfl
        simp only [runA, runB, runC, runD, runE, runF, fieldE, storeE, binE, ↓reduceIte, Nat.reduceLT, Nat.reduceLeDiff, Nat.reduceEqDiff, Nat.reduceAdd, Nat.reduceMul, Nat.reduceSub, reduceCtorEq, putAt, unE, Nat.reduceBEq, convE, buildE, List.replicate, Int.reduceLT, Int.reduceLE, Int.reduceToNat, mkE, mapSetE, hN, hF, ty_3, ty_4, ty_9, ty_22, ty_36, notIf, isEq, k1, e1, hg, hg', eqg_tx, hq, nt1, trows_length]
        refine drawnP_intro (by kernel_rfl) (by kernel_rfl) ?_
        simp only [runA, runB, runC, runD, runE, runF, fieldE, storeE, binE, ↓reduceIte, Nat.reduceLT, Nat.reduceLeDiff, Nat.reduceEqDiff, Nat.reduceAdd, Nat.reduceMul, Nat.reduceSub, reduceCtorEq, putAt, unE, Nat.reduceBEq, convE, buildE, List.replicate, Int.reduceLT, Int.reduceLE, Int.reduceToNat, mkE, mapSetE, hN, hF, ty_3, ty_4, ty_9, ty_22, ty_36, notIf, isEq, k1, e1, hg, hg', eqg_tx, hq, nt1, trows_length]
        refine ⟨a.length - (i + 1), _, by omega, ?_, i + 1, ⟨by omega, h8'⟩, rfl, rfl⟩
        rw [hns]
        simp only [runB, finC, finD, AS.get, AS.mem, false_implies, implies_true, ↓reduceIte, Nat.reduceEqDiff, Option.isSome_some, Option.isSome_none, forall_eq_or_imp, forall_eq, reduceCtorEq, Nat.reduceAdd, Nat.reduceMul, List.zip_cons_cons, List.zip_nil_left, List.zip_nil_right, List.forall_mem_nil]
        first | done | simp
      · have hd : decide (a.getD i zeroT = b.getD i zeroT) = false := decide_eq_false hy
        rw [hd] at hq
        have hne : decide (a = b) = false := decide_eq_false (fun e => hy (by rw [e]))
        rw [hne]
        unfold Txn.pcs at hg hg'
        generalize a.getD i zeroT = y at hg hq
        generalize b.getD i zeroT = z at hg' hq
        have ntf : (!false) = true := rfl
        simp only [runA, runB, runC, runD, runE, runF, fieldE, storeE, binE, ↓reduceIte, Nat.reduceLT, Nat.reduceLeDiff, Nat.reduceEqDiff, Nat.reduceAdd, Nat.reduceMul, Nat.reduceSub, reduceCtorEq, putAt, unE, Nat.reduceBEq, convE, buildE, List.replicate, Int.reduceLT, Int.reduceLE, Int.reduceToNat, mkE, mapSetE, hN, hF, ty_3, ty_4, ty_9, ty_22, ty_36, notIf, isEq, k1, e1, hg, hg', eqg_tx, hq, ntf, trows_length]
        refine drawnP_intro (by kernel_rfl) (by kernel_rfl) ?_
        simp only [runA, runB, runC, runD, runE, runF, fieldE, storeE, binE, ↓reduceIte, Nat.reduceLT, Nat.reduceLeDiff, Nat.reduceEqDiff, Nat.reduceAdd, Nat.reduceMul, Nat.reduceSub, reduceCtorEq, putAt, unE, Nat.reduceBEq, convE, buildE, List.replicate, Int.reduceLT, Int.reduceLE, Int.reduceToNat, mkE, mapSetE, hN, hF, ty_3, ty_4, ty_9, ty_22, ty_36, notIf, isEq, k1, e1, hg, hg', eqg_tx, hq, ntf, trows_length]
        simp only [runB, finC, finD, Option.isSome_some, Option.isSome_none, ↓reduceIte, Nat.reduceEqDiff, Nat.reduceAdd, Nat.reduceMul, forall_eq_or_imp, forall_eq, implies_true, Nat.reduceBEq, reduceCtorEq, false_implies, List.zip_cons_cons, List.zip_nil_left, List.zip_nil_right, Nat.reduceLeDiff, List.forall_mem_nil, rs_60, ty_3, ty_4, ty_9, ty_22, ty_36]
    · have k1 : decide ((i : Int) < (a.length : Int)) = false := decide_eq_false (by omega)
      obtain rfl : i = a.length := by omega
      have hne : decide (a = b) = true := decide_eq_true (getD_extM hab h8)
      rw [hne]
      simp only [runA, runB, runC, runD, runE, runF, fieldE, storeE, binE, ↓reduceIte, Nat.reduceLT, Nat.reduceLeDiff, Nat.reduceEqDiff, Nat.reduceAdd, Nat.reduceMul, Nat.reduceSub, reduceCtorEq, putAt, unE, Nat.reduceBEq, convE, buildE, List.replicate, Int.reduceLT, Int.reduceLE, Int.reduceToNat, mkE, mapSetE, hN, hF, ty_3, ty_4, ty_9, ty_22, ty_36, notIf, isEq, k1, trows_length]
      simp only [runB, finC, finD, Option.isSome_some, Option.isSome_none, ↓reduceIte, Nat.reduceEqDiff, Nat.reduceAdd, Nat.reduceMul, forall_eq_or_imp, forall_eq, implies_true, Nat.reduceBEq, reduceCtorEq, false_implies, List.zip_cons_cons, List.zip_nil_left, List.zip_nil_right, Nat.reduceLeDiff, List.forall_mem_nil, rs_60, ty_3, ty_4, ty_9, ty_22, ty_36]
def lnC (c : Ct) : Prop := c.vs.length ≤ 9223372036854775807
def lnB (b : Blk) : Prop := b.txs.length ≤ 9223372036854775807 ∧ b.ju.vs.length ≤ 9223372036854775807
noncomputable def scRC : Contract := mkC (α := Ct × Ct) (fun p => lnC p.1 ∧ lnC p.2) (fun p => [p.1.av, p.2.av]) (fun _ => []) (fun p => ⟨[.pv (.c (.bool (decide (p.1 = p.2))))], []⟩)
theorem scR_at (a b : Ct) (h : lnC a) (h' : lnC b) : scRC [.agg [.c (.int .i64 a.vw), .c (.int .i64 a.ht), .c (.str a.bl), .c (.sl (votes a.vs))], .agg [.c (.int .i64 b.vw), .c (.int .i64 b.ht), .c (.str b.bl), .c (.sl (votes b.vs))]] [] = some ⟨[.pv (.c (.bool (decide (a = b))))], []⟩ := mkC_at (α := Ct × Ct) (a, b) ⟨h, h'⟩ (by
  rintro ⟨a', b'⟩ _ h _
  have h : [a'.av, b'.av] = [a.av, b.av] := h
  simp only [List.cons.injEq, Ct.av_iff, and_true] at h
  obtain ⟨rfl, rfl⟩ := h
  rfl)

set_option maxRecDepth 100000 in
set_option maxHeartbeats 4000000 in
theorem scR_sound (hΓ : SoundG Tryz.prog Γ) (h2 : Γ 75 = smVC) : SoundC Tryz.prog 28 scRC := by
  refine sound_fn Tryz.func28 (by kernel_rfl) rfl rfl ?_
  intro args objs r0 hr
  obtain ⟨⟨⟨a1, a2, a3, a4⟩, ⟨b1, b2, b3, b4⟩⟩, ⟨hl, hl'⟩, rfl, rfl, rfl⟩ := mkC_inv hr
  refine ⟨rfl, by show 2 ≤ _; decide, fun E hN hns hF => ?_⟩
  refine vc_sound hΓ mixed _ _ _ ?_
  have hN := hN.trans nt_28
  have hl : a4.length ≤ 9223372036854775807 := hl
  have hl' : b4.length ≤ 9223372036854775807 := hl'
  have q2 := smV_at a4 b4 hl hl'
  unfold Ct.av
  dsimp only
  have hE : decide ((⟨a1, a2, a3, a4⟩ : Ct) = ⟨b1, b2, b3, b4⟩) = ((a1 == b1) && ((a2 == b2) && ((a3 == b3) && decide (a4 = b4)))) := by
    rw [Bool.eq_iff_iff]
    simp only [Bool.and_eq_true, decide_eq_true_iff, Ct.mk.injEq, beq_iff_eq]
  rw [hE]
  generalize decide (a4 = b4) = d4 at q2 ⊢
  generalize hb1 : (a1 == b1) = d1
  generalize hb2 : (a2 == b2) = d2
  generalize hb3 : (a3 == b3) = d3
  cases d1 <;> cases d2 <;> cases d3
  all_goals
    simp only [runA, runB, runC, runD, runE, runF, fieldE, storeE, binE, ↓reduceIte, Nat.reduceLT, Nat.reduceLeDiff, Nat.reduceEqDiff, Nat.reduceAdd, Nat.reduceMul, Nat.reduceSub, reduceCtorEq, putAt, unE, Nat.reduceBEq, convE, buildE, List.replicate, Int.reduceLT, Int.reduceLE, Int.reduceToNat, mkE, mapSetE, hN, hF, ty_3, ty_4, ty_9, ty_29, ty_31, ty_97, notIf, isEq, hb1, hb2, hb3, h2, q2, Bool.true_and, Bool.false_and]
    iterate 3 (try (refine drawnP_intro (by kernel_rfl) (by kernel_rfl) ?_; simp only [runA, runB, runC, runD, runE, runF, fieldE, storeE, binE, ↓reduceIte, Nat.reduceLT, Nat.reduceLeDiff, Nat.reduceEqDiff, Nat.reduceAdd, Nat.reduceMul, Nat.reduceSub, reduceCtorEq, putAt, unE, Nat.reduceBEq, convE, buildE, List.replicate, Int.reduceLT, Int.reduceLE, Int.reduceToNat, mkE, mapSetE, hN, hF, ty_3, ty_4, ty_9, ty_29, ty_31, ty_97, notIf, isEq, hb1, hb2, hb3, h2, q2, Bool.true_and, Bool.false_and]))
    simp only [runB, finC, finD, Option.isSome_some, Option.isSome_none, ↓reduceIte, Nat.reduceEqDiff, Nat.reduceAdd, Nat.reduceMul, forall_eq_or_imp, forall_eq, implies_true, Nat.reduceBEq, reduceCtorEq, false_implies, List.zip_cons_cons, List.zip_nil_left, List.zip_nil_right, Nat.reduceLeDiff, List.forall_mem_nil, rs_28, ty_3, ty_4, ty_9, ty_29, ty_31, ty_97, Bool.true_and, Bool.false_and]
noncomputable def sbRC : Contract := mkC (α := Blk × Blk) (fun p => lnB p.1 ∧ lnB p.2) (fun p => [p.1.av, p.2.av]) (fun _ => []) (fun p => ⟨[.pv (.c (.bool (decide (p.1 = p.2))))], []⟩)
theorem sbR_at (a b : Blk) (h : lnB a) (h' : lnB b) : sbRC [.agg [.c (.int .i64 a.vw), .c (.int .i64 a.ht), .c (.str a.pa), .c (.int .i64 a.ju.vw), .c (.int .i64 a.ju.ht), .c (.str a.ju.bl), .c (.sl (votes a.ju.vs)), .c (.sl (trows a.txs)), .c (.str a.sig)], .agg [.c (.int .i64 b.vw), .c (.int .i64 b.ht), .c (.str b.pa), .c (.int .i64 b.ju.vw), .c (.int .i64 b.ju.ht), .c (.str b.ju.bl), .c (.sl (votes b.ju.vs)), .c (.sl (trows b.txs)), .c (.str b.sig)]] [] = some ⟨[.pv (.c (.bool (decide (a = b))))], []⟩ := mkC_at (α := Blk × Blk) (a, b) ⟨h, h'⟩ (by
  rintro ⟨a', b'⟩ _ h _
  have h : [a'.av, b'.av] = [a.av, b.av] := h
  simp only [List.cons.injEq, Blk.av_iff, and_true] at h
  obtain ⟨rfl, rfl⟩ := h
  rfl)

set_option maxRecDepth 100000 in
set_option maxHeartbeats 4000000 in
theorem sbR_sound (hΓ : SoundG Tryz.prog Γ) (h1 : Γ 60 = smTC) (h2 : Γ 28 = scRC) : SoundC Tryz.prog 18 sbRC := by
  refine sound_fn Tryz.func18 (by kernel_rfl) rfl rfl ?_
  intro args objs r0 hr
  obtain ⟨⟨⟨a1, a2, a3, ⟨c1, c2, c3, c4⟩, a5, a6⟩, ⟨b1, b2, b3, ⟨d1, d2, d3, d4⟩, b5, b6⟩⟩, ⟨⟨hl, hj⟩, ⟨hl', hj'⟩⟩, rfl, rfl, rfl⟩ := mkC_inv hr
  refine ⟨rfl, by show 2 ≤ _; decide, fun E hN hns hF => ?_⟩
  refine vc_sound hΓ mixed _ _ _ ?_
  have hN := hN.trans nt_18
  have q1 := smT_at a5 b5 hl hl'
  have q2 := scR_at ⟨c1, c2, c3, c4⟩ ⟨d1, d2, d3, d4⟩ hj hj'
  unfold Blk.av
  dsimp only at q2 ⊢
  have hE : decide ((⟨a1, a2, a3, ⟨c1, c2, c3, c4⟩, a5, a6⟩ : Blk) = ⟨b1, b2, b3, ⟨d1, d2, d3, d4⟩, b5, b6⟩) = ((a1 == b1) && ((a2 == b2) && ((a3 == b3) && ((a6 == b6) && (decide (a5 = b5) && decide ((⟨c1, c2, c3, c4⟩ : Ct) = ⟨d1, d2, d3, d4⟩)))))) := by
    rw [Bool.eq_iff_iff]
    simp only [Bool.and_eq_true, decide_eq_true_iff, Blk.mk.injEq, beq_iff_eq]
    exact ⟨fun ⟨x, y, z, u, v, w⟩ => ⟨x, y, z, w, v, u⟩, fun ⟨x, y, z, u, v, w⟩ => ⟨x, y, z, w, v, u⟩⟩
  rw [hE]
  generalize decide (a5 = b5) = e5 at q1 ⊢
  generalize decide ((⟨c1, c2, c3, c4⟩ : Ct) = ⟨d1, d2, d3, d4⟩) = e6 at q2 ⊢
  generalize hb1 : (a1 == b1) = e1
  generalize hb2 : (a2 == b2) = e2
  generalize hb3 : (a3 == b3) = e3
  generalize hb4 : (a6 == b6) = e4
  clear hE
  cases e1
  case false => (simp only [runA, runB, runC, runD, runE, runF, fieldE, storeE, binE, ↓reduceIte, Nat.reduceLT, Nat.reduceLeDiff, Nat.reduceEqDiff, Nat.reduceAdd, Nat.reduceMul, Nat.reduceSub, reduceCtorEq, putAt, unE, Nat.reduceBEq, convE, buildE, List.replicate, Int.reduceLT, Int.reduceLE, Int.reduceToNat, mkE, mapSetE, hN, hF, ty_3, ty_4, ty_9, ty_22, ty_29, ty_31, ty_33, ty_36, notIf, isEq, hb1, hb2, hb3, hb4, h1, h2, q1, q2, Bool.true_and, Bool.false_and]; (iterate 3 (try (refine drawnP_intro (by kernel_rfl) (by kernel_rfl) ?_; simp only [runA, runB, runC, runD, runE, runF, fieldE, storeE, binE, ↓reduceIte, Nat.reduceLT, Nat.reduceLeDiff, Nat.reduceEqDiff, Nat.reduceAdd, Nat.reduceMul, Nat.reduceSub, reduceCtorEq, putAt, unE, Nat.reduceBEq, convE, buildE, List.replicate, Int.reduceLT, Int.reduceLE, Int.reduceToNat, mkE, mapSetE, hN, hF, ty_3, ty_4, ty_9, ty_22, ty_29, ty_31, ty_33, ty_36, notIf, isEq, hb1, hb2, hb3, hb4, h1, h2, q1, q2, Bool.true_and, Bool.false_and]))); (simp only [runB, finC, finD, Option.isSome_some, Option.isSome_none, ↓reduceIte, Nat.reduceEqDiff, Nat.reduceAdd, Nat.reduceMul, forall_eq_or_imp, forall_eq, implies_true, Nat.reduceBEq, reduceCtorEq, false_implies, List.zip_cons_cons, List.zip_nil_left, List.zip_nil_right, Nat.reduceLeDiff, List.forall_mem_nil, rs_18, ty_3, ty_4, ty_9, ty_22, ty_29, ty_31, ty_33, ty_36, Bool.true_and, Bool.false_and]))
  cases e2
  case false => (simp only [runA, runB, runC, runD, runE, runF, fieldE, storeE, binE, ↓reduceIte, Nat.reduceLT, Nat.reduceLeDiff, Nat.reduceEqDiff, Nat.reduceAdd, Nat.reduceMul, Nat.reduceSub, reduceCtorEq, putAt, unE, Nat.reduceBEq, convE, buildE, List.replicate, Int.reduceLT, Int.reduceLE, Int.reduceToNat, mkE, mapSetE, hN, hF, ty_3, ty_4, ty_9, ty_22, ty_29, ty_31, ty_33, ty_36, notIf, isEq, hb1, hb2, hb3, hb4, h1, h2, q1, q2, Bool.true_and, Bool.false_and]; (iterate 3 (try (refine drawnP_intro (by kernel_rfl) (by kernel_rfl) ?_; simp only [runA, runB, runC, runD, runE, runF, fieldE, storeE, binE, ↓reduceIte, Nat.reduceLT, Nat.reduceLeDiff, Nat.reduceEqDiff, Nat.reduceAdd, Nat.reduceMul, Nat.reduceSub, reduceCtorEq, putAt, unE, Nat.reduceBEq, convE, buildE, List.replicate, Int.reduceLT, Int.reduceLE, Int.reduceToNat, mkE, mapSetE, hN, hF, ty_3, ty_4, ty_9, ty_22, ty_29, ty_31, ty_33, ty_36, notIf, isEq, hb1, hb2, hb3, hb4, h1, h2, q1, q2, Bool.true_and, Bool.false_and]))); (simp only [runB, finC, finD, Option.isSome_some, Option.isSome_none, ↓reduceIte, Nat.reduceEqDiff, Nat.reduceAdd, Nat.reduceMul, forall_eq_or_imp, forall_eq, implies_true, Nat.reduceBEq, reduceCtorEq, false_implies, List.zip_cons_cons, List.zip_nil_left, List.zip_nil_right, Nat.reduceLeDiff, List.forall_mem_nil, rs_18, ty_3, ty_4, ty_9, ty_22, ty_29, ty_31, ty_33, ty_36, Bool.true_and, Bool.false_and]))
  cases e3
  case false => (simp only [runA, runB, runC, runD, runE, runF, fieldE, storeE, binE, ↓reduceIte, Nat.reduceLT, Nat.reduceLeDiff, Nat.reduceEqDiff, Nat.reduceAdd, Nat.reduceMul, Nat.reduceSub, reduceCtorEq, putAt, unE, Nat.reduceBEq, convE, buildE, List.replicate, Int.reduceLT, Int.reduceLE, Int.reduceToNat, mkE, mapSetE, hN, hF, ty_3, ty_4, ty_9, ty_22, ty_29, ty_31, ty_33, ty_36, notIf, isEq, hb1, hb2, hb3, hb4, h1, h2, q1, q2, Bool.true_and, Bool.false_and]; (iterate 3 (try (refine drawnP_intro (by kernel_rfl) (by kernel_rfl) ?_; simp only [runA, runB, runC, runD, runE, runF, fieldE, storeE, binE, ↓reduceIte, Nat.reduceLT, Nat.reduceLeDiff, Nat.reduceEqDiff, Nat.reduceAdd, Nat.reduceMul, Nat.reduceSub, reduceCtorEq, putAt, unE, Nat.reduceBEq, convE, buildE, List.replicate, Int.reduceLT, Int.reduceLE, Int.reduceToNat, mkE, mapSetE, hN, hF, ty_3, ty_4, ty_9, ty_22, ty_29, ty_31, ty_33, ty_36, notIf, isEq, hb1, hb2, hb3, hb4, h1, h2, q1, q2, Bool.true_and, Bool.false_and]))); (simp only [runB, finC, finD, Option.isSome_some, Option.isSome_none, ↓reduceIte, Nat.reduceEqDiff, Nat.reduceAdd, Nat.reduceMul, forall_eq_or_imp, forall_eq, implies_true, Nat.reduceBEq, reduceCtorEq, false_implies, List.zip_cons_cons, List.zip_nil_left, List.zip_nil_right, Nat.reduceLeDiff, List.forall_mem_nil, rs_18, ty_3, ty_4, ty_9, ty_22, ty_29, ty_31, ty_33, ty_36, Bool.true_and, Bool.false_and]))
  cases e4
  case false => (simp only [runA, runB, runC, runD, runE, runF, fieldE, storeE, binE, ↓reduceIte, Nat.reduceLT, Nat.reduceLeDiff, Nat.reduceEqDiff, Nat.reduceAdd, Nat.reduceMul, Nat.reduceSub, reduceCtorEq, putAt, unE, Nat.reduceBEq, convE, buildE, List.replicate, Int.reduceLT, Int.reduceLE, Int.reduceToNat, mkE, mapSetE, hN, hF, ty_3, ty_4, ty_9, ty_22, ty_29, ty_31, ty_33, ty_36, notIf, isEq, hb1, hb2, hb3, hb4, h1, h2, q1, q2, Bool.true_and, Bool.false_and]; (iterate 3 (try (refine drawnP_intro (by kernel_rfl) (by kernel_rfl) ?_; simp only [runA, runB, runC, runD, runE, runF, fieldE, storeE, binE, ↓reduceIte, Nat.reduceLT, Nat.reduceLeDiff, Nat.reduceEqDiff, Nat.reduceAdd, Nat.reduceMul, Nat.reduceSub, reduceCtorEq, putAt, unE, Nat.reduceBEq, convE, buildE, List.replicate, Int.reduceLT, Int.reduceLE, Int.reduceToNat, mkE, mapSetE, hN, hF, ty_3, ty_4, ty_9, ty_22, ty_29, ty_31, ty_33, ty_36, notIf, isEq, hb1, hb2, hb3, hb4, h1, h2, q1, q2, Bool.true_and, Bool.false_and]))); (simp only [runB, finC, finD, Option.isSome_some, Option.isSome_none, ↓reduceIte, Nat.reduceEqDiff, Nat.reduceAdd, Nat.reduceMul, forall_eq_or_imp, forall_eq, implies_true, Nat.reduceBEq, reduceCtorEq, false_implies, List.zip_cons_cons, List.zip_nil_left, List.zip_nil_right, Nat.reduceLeDiff, List.forall_mem_nil, rs_18, ty_3, ty_4, ty_9, ty_22, ty_29, ty_31, ty_33, ty_36, Bool.true_and, Bool.false_and]))
  cases e5
  case false => (simp only [runA, runB, runC, runD, runE, runF, fieldE, storeE, binE, ↓reduceIte, Nat.reduceLT, Nat.reduceLeDiff, Nat.reduceEqDiff, Nat.reduceAdd, Nat.reduceMul, Nat.reduceSub, reduceCtorEq, putAt, unE, Nat.reduceBEq, convE, buildE, List.replicate, Int.reduceLT, Int.reduceLE, Int.reduceToNat, mkE, mapSetE, hN, hF, ty_3, ty_4, ty_9, ty_22, ty_29, ty_31, ty_33, ty_36, notIf, isEq, hb1, hb2, hb3, hb4, h1, h2, q1, q2, Bool.true_and, Bool.false_and]; (iterate 3 (try (refine drawnP_intro (by kernel_rfl) (by kernel_rfl) ?_; simp only [runA, runB, runC, runD, runE, runF, fieldE, storeE, binE, ↓reduceIte, Nat.reduceLT, Nat.reduceLeDiff, Nat.reduceEqDiff, Nat.reduceAdd, Nat.reduceMul, Nat.reduceSub, reduceCtorEq, putAt, unE, Nat.reduceBEq, convE, buildE, List.replicate, Int.reduceLT, Int.reduceLE, Int.reduceToNat, mkE, mapSetE, hN, hF, ty_3, ty_4, ty_9, ty_22, ty_29, ty_31, ty_33, ty_36, notIf, isEq, hb1, hb2, hb3, hb4, h1, h2, q1, q2, Bool.true_and, Bool.false_and]))); (simp only [runB, finC, finD, Option.isSome_some, Option.isSome_none, ↓reduceIte, Nat.reduceEqDiff, Nat.reduceAdd, Nat.reduceMul, forall_eq_or_imp, forall_eq, implies_true, Nat.reduceBEq, reduceCtorEq, false_implies, List.zip_cons_cons, List.zip_nil_left, List.zip_nil_right, Nat.reduceLeDiff, List.forall_mem_nil, rs_18, ty_3, ty_4, ty_9, ty_22, ty_29, ty_31, ty_33, ty_36, Bool.true_and, Bool.false_and]))
  (simp only [runA, runB, runC, runD, runE, runF, fieldE, storeE, binE, ↓reduceIte, Nat.reduceLT, Nat.reduceLeDiff, Nat.reduceEqDiff, Nat.reduceAdd, Nat.reduceMul, Nat.reduceSub, reduceCtorEq, putAt, unE, Nat.reduceBEq, convE, buildE, List.replicate, Int.reduceLT, Int.reduceLE, Int.reduceToNat, mkE, mapSetE, hN, hF, ty_3, ty_4, ty_9, ty_22, ty_29, ty_31, ty_33, ty_36, notIf, isEq, hb1, hb2, hb3, hb4, h1, h2, q1, q2, Bool.true_and, Bool.false_and]; (iterate 3 (try (refine drawnP_intro (by kernel_rfl) (by kernel_rfl) ?_; simp only [runA, runB, runC, runD, runE, runF, fieldE, storeE, binE, ↓reduceIte, Nat.reduceLT, Nat.reduceLeDiff, Nat.reduceEqDiff, Nat.reduceAdd, Nat.reduceMul, Nat.reduceSub, reduceCtorEq, putAt, unE, Nat.reduceBEq, convE, buildE, List.replicate, Int.reduceLT, Int.reduceLE, Int.reduceToNat, mkE, mapSetE, hN, hF, ty_3, ty_4, ty_9, ty_22, ty_29, ty_31, ty_33, ty_36, notIf, isEq, hb1, hb2, hb3, hb4, h1, h2, q1, q2, Bool.true_and, Bool.false_and]))); (simp only [runB, finC, finD, Option.isSome_some, Option.isSome_none, ↓reduceIte, Nat.reduceEqDiff, Nat.reduceAdd, Nat.reduceMul, forall_eq_or_imp, forall_eq, implies_true, Nat.reduceBEq, reduceCtorEq, false_implies, List.zip_cons_cons, List.zip_nil_left, List.zip_nil_right, Nat.reduceLeDiff, List.forall_mem_nil, rs_18, ty_3, ty_4, ty_9, ty_22, ty_29, ty_31, ty_33, ty_36, Bool.true_and, Bool.false_and]))


variable {Γ : FuncId → Contract}

def Wr (w : WS) (out : List UInt8) : Prop := w.e = 0 ∧ (w.b = out ∨ (16384 < w.b.length ∧ 16384 < out.length))
theorem Wr.num {w : WS} {out : List UInt8} (h : Wr w out) {n : Int} (h0 : 0 ≤ n) (h1 : n ≤ 1099511627776) : Wr (wNum w n) (out ++ putB n 6) := by
  obtain ⟨he, hb⟩ := h
  unfold wNum
  rw [if_neg (by omega)]
  split
  · refine ⟨he, .inl ?_⟩
    rcases hb with hb | hb
    · show w.b ++ _ = _; rw [hb]
    · omega
  · refine ⟨he, .inr ⟨by omega, ?_⟩⟩
    rcases hb with hb | hb
    · rw [List.length_append, ← hb]; omega
    · rw [List.length_append]; omega
theorem Wr.text {w : WS} {out : List UInt8} (h : Wr w out) {s : List UInt8} (h1 : s.length ≤ 4096) : Wr (rText w s) (out ++ (putB (s.length : Int) 2 ++ s)) := by
  obtain ⟨he, hb⟩ := h
  unfold rText
  rw [if_neg (by omega)]
  split
  · refine ⟨he, .inl ?_⟩
    rcases hb with hb | hb
    · show w.b ++ _ ++ _ = _; rw [hb, List.append_assoc]
    · omega
  · refine ⟨he, .inr ⟨by omega, ?_⟩⟩
    rcases hb with hb | hb
    · rw [List.length_append, ← hb]; omega
    · rw [List.length_append]; omega
theorem Wr.done {w : WS} {out : List UInt8} (h : Wr w out) : doneR w = if out.length ≤ 16384 then (out, 0) else ([], 5) := by
  obtain ⟨he, hb⟩ := h
  unfold doneR
  rw [if_pos he]
  rcases hb with hb | ⟨h1, h2⟩
  · rw [hb]
    by_cases h : out.length ≤ 16384
    · rw [if_pos h, if_neg (by omega)]
    · rw [if_neg h, if_pos (by omega)]
  · rw [if_pos h1, if_neg (by omega)]
theorem Wr.tx {w : WS} {out : List UInt8} (h : Wr w out) {t : Txn} (ht : okT t) : Wr (txP w t) (out ++ txE t) := by
  obtain ⟨h1, h2, h3, h4, h5, h6, h7, h8⟩ := ht
  have a := ((((((h.text (s := [116, 120]) (by decide)).num (n := t.fr) (by omega) (by omega)).num (n := t.to) (by omega) (by omega)).num (n := t.am) (by omega) (by omega)).num (n := t.no) h6 h7)).text h8
  have e : txE t = (putB ((([116, 120] : List UInt8).length : Nat) : Int) 2 ++ [116, 120]) ++ putB t.fr 6 ++ putB t.to 6 ++ putB t.am 6 ++ putB t.no 6 ++ (putB (t.sig.length : Int) 2 ++ t.sig) := by
    simp [txE, txB, txW]
  rw [e]
  simp only [List.append_assoc] at a ⊢
  exact a
theorem Wr.vo {w : WS} {out : List UInt8} (h : Wr w out) {t : Vt} (ht : okV t) : Wr (voP w t) (out ++ voE t) := by
  have hb := okV_bl ht
  obtain ⟨n1, n2⟩ := okV_nums ht
  obtain ⟨h1, h2, h3, h4, h5, h6, h7, h8⟩ := ht
  have a := ((((((((h.text (s := [118, 111, 116, 101]) (by decide)).num (n := t.kd) (by omega) (by omega)).num (n := t.vw) (by omega) (by omega)).num (n := t.ht) (by omega) (by omega)).text (s := t.bl) (by omega)).num (n := t.tk) (by omega) (by omega)).num (n := t.sg) (by omega) (by omega))).text h8
  have e : voE t = (putB ((([118, 111, 116, 101] : List UInt8).length : Nat) : Int) 2 ++ [118, 111, 116, 101]) ++ putB t.kd 6 ++ putB t.vw 6 ++ putB t.ht 6 ++ (putB (t.bl.length : Int) 2 ++ t.bl) ++ putB t.tk 6 ++ putB t.sg 6 ++ (putB (t.sig.length : Int) 2 ++ t.sig) := by
    simp [voE, voB]
  rw [e]
  simp only [List.append_assoc] at a ⊢
  exact a
theorem Wr.txs : ∀ {l : List Txn} {w : WS} {out : List UInt8}, Wr w out → (∀ t ∈ l, okT t) → Wr (txsP w l) (out ++ (l.map txE).flatten)
  | [], w, out, h, _ => by simpa [txsP] using h
  | t :: l, w, out, h, hl => by
    have := Wr.txs (l := l) (h.tx (hl t (by simp))) (fun x hx => hl x (by simp [hx]))
    simpa [txsP] using this
theorem Wr.vos : ∀ {l : List Vt} {w : WS} {out : List UInt8}, Wr w out → (∀ t ∈ l, okV t) → Wr (vosP w l) (out ++ (l.map voE).flatten)
  | [], w, out, h, _ => by simpa [vosP] using h
  | t :: l, w, out, h, hl => by
    have := Wr.vos (l := l) (h.vo (hl t (by simp))) (fun x hx => hl x (by simp [hx]))
    simpa [vosP] using this
def ctE (c : Ct) : List UInt8 := putB c.vw 6 ++ (putB c.ht 6 ++ ((putB (c.bl.length : Int) 2 ++ c.bl) ++ (putB (c.vs.length : Int) 6 ++ (c.vs.map voE).flatten)))
def okCt (c : Ct) : Prop := (0 ≤ c.vw ∧ c.vw ≤ 1048576) ∧ (0 ≤ c.ht ∧ c.ht ≤ 1048576) ∧ c.bl.length = 32 ∧ c.vs.length ≤ 7 ∧ ∀ v ∈ c.vs, okV v
theorem Wr.ct {w : WS} {out : List UInt8} (h : Wr w out) {c : Ct} (hc : okCt c) : Wr (ctP w c) (out ++ ctE c) := by
  obtain ⟨h1, h2, h3, h4, h5⟩ := hc
  have a := ((((h.num (n := c.vw) (by omega) (by omega)).num (n := c.ht) (by omega) (by omega)).text (s := c.bl) (by omega)).num (n := (c.vs.length : Int)) (by omega) (by omega)).vos (l := c.vs) h5
  have e : ctE c = putB c.vw 6 ++ putB c.ht 6 ++ (putB (c.bl.length : Int) 2 ++ c.bl) ++ putB (c.vs.length : Int) 6 ++ (c.vs.map voE).flatten := by simp [ctE]
  rw [e]
  simp only [List.append_assoc] at a ⊢
  exact a
def bkE (b : Blk) : List UInt8 := (putB 5 2 ++ [98, 108, 111, 99, 107]) ++ (putB b.vw 6 ++ (putB b.ht 6 ++ ((putB (b.pa.length : Int) 2 ++ b.pa) ++ (putB b.ju.vw 6 ++ (putB (b.txs.length : Int) 6 ++ ((b.txs.map txE).flatten ++ (ctE b.ju ++ (putB (b.sig.length : Int) 2 ++ b.sig))))))))
def okBk (b : Blk) : Prop := okB b ∧ b.ju.vs.length ≤ 7 ∧ ∀ v ∈ b.ju.vs, okV v
theorem okBk_ct {b : Blk} (h : okBk b) : okCt b.ju := by
  obtain ⟨⟨a1, a2, a3, a4, a5, a6, _⟩, h2, h3⟩ := h
  refine ⟨?_, ?_, ?_, h2, h3⟩
  · omega
  · omega
  · rw [a4]; exact a3
theorem Wr.bk {w : WS} {out : List UInt8} (h : Wr w out) {b : Blk} (hb : okBk b) : Wr (bkP w b) (out ++ bkE b) := by
  have hc := okBk_ct hb
  obtain ⟨⟨a1, a2, a3, a4, a5, a6, a7, a8, a9⟩, h2, h3⟩ := hb
  have a := (((((((((h.text (s := [98, 108, 111, 99, 107]) (by decide)).num (n := b.vw) (by omega) (by omega)).num (n := b.ht) (by omega) (by omega)).text (s := b.pa) (by omega)).num (n := b.ju.vw) (by omega) (by omega)).num (n := (b.txs.length : Int)) (by omega) (by omega)).txs (l := b.txs) a8)).ct hc).text (s := b.sig) a9
  have e : bkE b = (putB ((([98, 108, 111, 99, 107] : List UInt8).length : Nat) : Int) 2 ++ [98, 108, 111, 99, 107]) ++ putB b.vw 6 ++ putB b.ht 6 ++ (putB (b.pa.length : Int) 2 ++ b.pa) ++ putB b.ju.vw 6 ++ putB (b.txs.length : Int) 6 ++ (b.txs.map txE).flatten ++ ctE b.ju ++ (putB (b.sig.length : Int) 2 ++ b.sig) := by
    simp [bkE]
  rw [e]
  simp only [List.append_assoc] at a ⊢
  exact a
theorem Wr.start : Wr ⟨[], 0⟩ [] := ⟨rfl, .inl rfl⟩
theorem vosR_put (l : List Vt) (h : ∀ v ∈ l, okV v) (rest : List UInt8) : ∀ n, n ≤ l.length → vosR n ⟨(l.map voE).flatten ++ rest, 0⟩ = (l.take n, ⟨((l.drop n).map voE).flatten ++ rest, 0⟩)
  | 0, _ => by simp [vosR]
  | n + 1, hn => by
    have hlt : n < l.length := hn
    rw [vosR, vosR_put l h rest n (by omega)]
    dsimp only
    rw [List.drop_eq_getElem_cons hlt, List.map_cons, List.flatten_cons, List.append_assoc, read_putV (h _ (List.getElem_mem hlt)), List.take_succ_eq_append_getElem hlt]
theorem txsR_put (l : List Txn) (h : ∀ v ∈ l, okT v) (rest : List UInt8) : ∀ n, n ≤ l.length → txsR n ⟨(l.map txE).flatten ++ rest, 0⟩ = (l.take n, ⟨((l.drop n).map txE).flatten ++ rest, 0⟩)
  | 0, _ => by simp [txsR]
  | n + 1, hn => by
    have hlt : n < l.length := hn
    rw [txsR, txsR_put l h rest n (by omega)]
    dsimp only
    rw [List.drop_eq_getElem_cons hlt, List.map_cons, List.flatten_cons, List.append_assoc, read_putT (h _ (List.getElem_mem hlt)), List.take_succ_eq_append_getElem hlt]
theorem vosR_all (l : List Vt) (h : ∀ v ∈ l, okV v) (rest : List UInt8) : vosR l.length ⟨(l.map voE).flatten ++ rest, 0⟩ = (l, ⟨rest, 0⟩) := by
  have := vosR_put l h rest l.length (Nat.le_refl _)
  simpa using this
theorem txsR_all (l : List Txn) (h : ∀ v ∈ l, okT v) (rest : List UInt8) : txsR l.length ⟨(l.map txE).flatten ++ rest, 0⟩ = (l, ⟨rest, 0⟩) := by
  have := txsR_put l h rest l.length (Nat.le_refl _)
  simpa using this
theorem readC_put {c : Ct} (h : okCt c) (rest : List UInt8) : readC ⟨ctE c ++ rest, 0⟩ = (c, ⟨rest, 0⟩) := by
  obtain ⟨h1, h2, h3, h4, h5⟩ := h
  have e : ctE c ++ rest = putB c.vw 6 ++ (putB c.ht 6 ++ (putB (c.bl.length : Int) 2 ++ (c.bl ++ (putB (c.vs.length : Int) 6 ++ ((c.vs.map voE).flatten ++ rest))))) := by simp [ctE]
  rw [e]
  generalize hbb : putB c.vw 6 ++ (putB c.ht 6 ++ (putB (c.bl.length : Int) 2 ++ (c.bl ++ (putB (c.vs.length : Int) 6 ++ ((c.vs.map voE).flatten ++ rest))))) = bb
  have c1 : cA ⟨bb, 0⟩ = (c.vw, ⟨putB c.ht 6 ++ (putB (c.bl.length : Int) 2 ++ (c.bl ++ (putB (c.vs.length : Int) 6 ++ ((c.vs.map voE).flatten ++ rest)))), 0⟩) := by
    unfold cA; rw [← hbb]; exact rd_put (by omega) (by omega) (by omega) _
  have c2 : cB ⟨bb, 0⟩ = (c.ht, ⟨putB (c.bl.length : Int) 2 ++ (c.bl ++ (putB (c.vs.length : Int) 6 ++ ((c.vs.map voE).flatten ++ rest))), 0⟩) := by
    unfold cB; rw [c1]; exact rd_put (by omega) (by omega) (by omega) _
  have c3 : cC ⟨bb, 0⟩ = (c.bl, ⟨putB (c.vs.length : Int) 6 ++ ((c.vs.map voE).flatten ++ rest), 0⟩) := by
    unfold cC; rw [c2]; exact rdT_put (by omega) (by omega) _
  have c4 : cD ⟨bb, 0⟩ = ((c.vs.length : Int), ⟨(c.vs.map voE).flatten ++ rest, 0⟩) := by
    unfold cD; rw [c3]; exact rd_put (by omega) (by omega) (by omega) _
  have c5 : cE ⟨bb, 0⟩ = (c.vs, ⟨rest, 0⟩) := by
    unfold cE; rw [c4]; dsimp only; rw [Int.toNat_natCast]; exact vosR_all c.vs h5 rest
  unfold readC gotC
  rw [c5, c1, c2, c3]
  rfl
theorem readB_put {b : Blk} (h : okBk b) (rest : List UInt8) : readB ⟨bkE b ++ rest, 0⟩ = (b, ⟨rest, 0⟩) := by
  have hc := okBk_ct h
  have hk := h.1
  obtain ⟨⟨a1, a2, a3, a4, a5, a6, a7, a8, a9⟩, h2, h3⟩ := h
  have e : bkE b ++ rest = putB ((([98, 108, 111, 99, 107] : List UInt8).length : Nat) : Int) 2 ++ ([98, 108, 111, 99, 107] ++ (putB b.vw 6 ++ (putB b.ht 6 ++ (putB (b.pa.length : Int) 2 ++ (b.pa ++ (putB b.ju.vw 6 ++ (putB (b.txs.length : Int) 6 ++ ((b.txs.map txE).flatten ++ (ctE b.ju ++ (putB (b.sig.length : Int) 2 ++ (b.sig ++ rest))))))))))) := by
    simp [bkE]
  rw [e]
  have c0 := rdT_put (s := [98, 108, 111, 99, 107]) (most := 5) (by decide) (by decide) (putB b.vw 6 ++ (putB b.ht 6 ++ (putB (b.pa.length : Int) 2 ++ (b.pa ++ (putB b.ju.vw 6 ++ (putB (b.txs.length : Int) 6 ++ ((b.txs.map txE).flatten ++ (ctE b.ju ++ (putB (b.sig.length : Int) 2 ++ (b.sig ++ rest))))))))))
  generalize hbb : putB b.vw 6 ++ (putB b.ht 6 ++ (putB (b.pa.length : Int) 2 ++ (b.pa ++ (putB b.ju.vw 6 ++ (putB (b.txs.length : Int) 6 ++ ((b.txs.map txE).flatten ++ (ctE b.ju ++ (putB (b.sig.length : Int) 2 ++ (b.sig ++ rest))))))))) = bb at c0 ⊢
  have c1 : fA ⟨bb, 0⟩ = (b.vw, ⟨putB b.ht 6 ++ (putB (b.pa.length : Int) 2 ++ (b.pa ++ (putB b.ju.vw 6 ++ (putB (b.txs.length : Int) 6 ++ ((b.txs.map txE).flatten ++ (ctE b.ju ++ (putB (b.sig.length : Int) 2 ++ (b.sig ++ rest)))))))), 0⟩) := by
    unfold fA; rw [← hbb]; exact rd_put (by omega) (by omega) (by omega) _
  have c2 : fB ⟨bb, 0⟩ = (b.ht, ⟨putB (b.pa.length : Int) 2 ++ (b.pa ++ (putB b.ju.vw 6 ++ (putB (b.txs.length : Int) 6 ++ ((b.txs.map txE).flatten ++ (ctE b.ju ++ (putB (b.sig.length : Int) 2 ++ (b.sig ++ rest))))))), 0⟩) := by
    unfold fB; rw [c1]; exact rd_put (by omega) (by omega) (by omega) _
  have c3 : fC ⟨bb, 0⟩ = (b.pa, ⟨putB b.ju.vw 6 ++ (putB (b.txs.length : Int) 6 ++ ((b.txs.map txE).flatten ++ (ctE b.ju ++ (putB (b.sig.length : Int) 2 ++ (b.sig ++ rest))))), 0⟩) := by
    unfold fC; rw [c2]; exact rdT_put (by omega) (by omega) _
  have c4 : fD ⟨bb, 0⟩ = (b.ju.vw, ⟨putB (b.txs.length : Int) 6 ++ ((b.txs.map txE).flatten ++ (ctE b.ju ++ (putB (b.sig.length : Int) 2 ++ (b.sig ++ rest)))), 0⟩) := by
    unfold fD; rw [c3]; exact rd_put (by omega) (by omega) (by omega) _
  have c5 : fE ⟨bb, 0⟩ = ((b.txs.length : Int), ⟨(b.txs.map txE).flatten ++ (ctE b.ju ++ (putB (b.sig.length : Int) 2 ++ (b.sig ++ rest))), 0⟩) := by
    unfold fE; rw [c4]; exact rd_put (by omega) (by omega) (by omega) _
  have c6 : fF ⟨bb, 0⟩ = (b.txs, ⟨ctE b.ju ++ (putB (b.sig.length : Int) 2 ++ (b.sig ++ rest)), 0⟩) := by
    unfold fF; rw [c5]; dsimp only; rw [Int.toNat_natCast]; exact txsR_all b.txs a8 _
  have c7 : fG ⟨bb, 0⟩ = (b.ju, ⟨putB (b.sig.length : Int) 2 ++ (b.sig ++ rest), 0⟩) := by
    unfold fG; rw [c6]; exact readC_put hc _
  have c8 : fH ⟨bb, 0⟩ = (b.sig, ⟨rest, 0⟩) := by
    unfold fH; rw [c7]; exact rdT_put (by omega) (by omega) _
  have c9 : gotB ⟨bb, 0⟩ = b := by unfold gotB; rw [c1, c2, c3, c6, c7, c8]
  unfold readB
  rw [c0]
  dsimp only
  rw [if_neg (by simp), c8, c9, c4, if_neg (by simp [hk])]
theorem sigB_len (seed : List UInt8) (h i : Nat) (text : List UInt8) (hs : seed.length ≤ 64) (h4 : h ≤ 4) (hi : i < 2 ^ h) : (sigB ⟨seed, leavesS seed (2 ^ h), (i : Int)⟩ text).length = 90 + 8 * h := by
  have hg := good_new seed h i hs h4 (by omega)
  have hll := leavesS_length seed (2 ^ h)
  have hn : (i : Int) ≠ ((leavesS seed (2 ^ h)).length : Int) := by rw [hll]; omega
  obtain ⟨p0, p8, pl⟩ := path_good hg hn
  dsimp only at p0 p8 pl
  rw [hll, Nat.log2_two_pow] at pl
  have hL8 : all8 (sigL ⟨seed, leavesS seed (2 ^ h), (i : Int)⟩ text) := all8_app (sgnT_all8 _ _ _ _) p8
  have hs11 : (sgnS seed (i : Int) text).length = 11 := sgnT_length _ _ _ _
  have hLl : (sigL ⟨seed, leavesS seed (2 ^ h), (i : Int)⟩ text).length = 11 + h := by
    show (sgnS seed (i : Int) text ++ (pathS (leavesS seed (2 ^ h)) (i : Int)).1).length = _
    rw [List.length_append, pl, hs11]
  show (putB (i : Int) 2 ++ (sigL ⟨seed, leavesS seed (2 ^ h), (i : Int)⟩ text).flatten).length = _
  rw [List.length_append, putB2, all8_flat _ hL8, hLl]; omega

end Go.Proofs.YtenmlgalcjkdbaaGreat.AM
