/-
  QJ: Mg4 Mg5 Mg6.
-/
import Derived.Test.YtldehcnaepgamaaQI
set_option linter.unusedVariables false
set_option linter.unusedSimpArgs false
namespace Go.Proofs.Ytldehcnaepgamaa.AM
open Go

variable {Γ : FuncId → Contract}

theorem getD_extM {α : Type} {a b : List α} {d : α} (hl : a.length = b.length) (h : ∀ k, k < a.length → a.getD k d = b.getD k d) : a = b := by
  apply List.ext_getElem hl
  intro i h1 h2
  have := h i h1
  simpa [List.getD, h1, h2] using this
theorem eqg_vo : Try.prog.eqGuardType Try.prog.depth 74 = false := by kernel_rfl
theorem eqd_vo (a b : Vt) : eqE Try.prog 10000 74 [.int .i64 a.kd, .int .i64 a.vw, .int .i64 a.ht, .str a.bl, .int .i64 a.tk, .int .i64 a.sg, .str a.sig] [.int .i64 b.kd, .int .i64 b.vw, .int .i64 b.ht, .str b.bl, .int .i64 b.tk, .int .i64 b.sg, .str b.sig] = some (decide (a = b)) := by
  have h : eqE Try.prog 10000 74 [.int .i64 a.kd, .int .i64 a.vw, .int .i64 a.ht, .str a.bl, .int .i64 a.tk, .int .i64 a.sg, .str a.sig] [.int .i64 b.kd, .int .i64 b.vw, .int .i64 b.ht, .str b.bl, .int .i64 b.tk, .int .i64 b.sg, .str b.sig] = some ((a.kd == b.kd) && ((a.vw == b.vw) && ((a.ht == b.ht) && ((a.bl == b.bl) && ((a.tk == b.tk) && ((a.sg == b.sg) && ((a.sig == b.sig) && true))))))) := by kernel_rfl
  refine h.trans (congrArg some ?_)
  obtain ⟨a0, a1, a2, a3, a4, a5, a6⟩ := a
  obtain ⟨b0, b1, b2, b3, b4, b5, b6⟩ := b
  rw [Bool.eq_iff_iff, decide_eq_true_iff, Vt.mk.injEq]
  simp only [Bool.and_eq_true, beq_iff_eq, and_true]
theorem eqg_tx : Try.prog.eqGuardType Try.prog.depth 54 = false := by kernel_rfl
theorem eqd_tx (a b : Txn) : eqE Try.prog 10000 54 [.int .i64 a.fr, .int .i64 a.to, .int .i64 a.am, .int .i64 a.no, .str a.sig] [.int .i64 b.fr, .int .i64 b.to, .int .i64 b.am, .int .i64 b.no, .str b.sig] = some (decide (a = b)) := by
  have h : eqE Try.prog 10000 54 [.int .i64 a.fr, .int .i64 a.to, .int .i64 a.am, .int .i64 a.no, .str a.sig] [.int .i64 b.fr, .int .i64 b.to, .int .i64 b.am, .int .i64 b.no, .str b.sig] = some ((a.fr == b.fr) && ((a.to == b.to) && ((a.am == b.am) && ((a.no == b.no) && ((a.sig == b.sig) && true))))) := by kernel_rfl
  refine h.trans (congrArg some ?_)
  obtain ⟨a0, a1, a2, a3, a4⟩ := a
  obtain ⟨b0, b1, b2, b3, b4⟩ := b
  rw [Bool.eq_iff_iff, decide_eq_true_iff, Txn.mk.injEq]
  simp only [Bool.and_eq_true, beq_iff_eq, and_true]
theorem eqg_mk : Try.prog.eqGuardType Try.prog.depth 190 = false := by kernel_rfl
theorem eqd_mk (a b : Mk) : eqE Try.prog 10000 190 [.int .i64 a.vw, .int .i64 a.ht, .str a.bl] [.int .i64 b.vw, .int .i64 b.ht, .str b.bl] = some (decide (a = b)) := by
  have h : eqE Try.prog 10000 190 [.int .i64 a.vw, .int .i64 a.ht, .str a.bl] [.int .i64 b.vw, .int .i64 b.ht, .str b.bl] = some ((a.vw == b.vw) && ((a.ht == b.ht) && ((a.bl == b.bl) && true))) := by kernel_rfl
  refine h.trans (congrArg some ?_)
  obtain ⟨a0, a1, a2⟩ := a
  obtain ⟨b0, b1, b2⟩ := b
  rw [Bool.eq_iff_iff, decide_eq_true_iff, Mk.mk.injEq]
  simp only [Bool.and_eq_true, beq_iff_eq, and_true]
noncomputable def eqVC : Contract := mkC (α := List Vt × List Vt) (fun p => p.1.length ≤ 9223372036854775807 ∧ p.2.length ≤ 9223372036854775807) (fun p => [.c (.sl (votes p.1)), .c (.sl (votes p.2))]) (fun _ => []) (fun p => ⟨[.pv (.c (.bool (decide (p.1 = p.2))))], []⟩)
theorem eqV_at (a b : List Vt) (h : a.length ≤ 9223372036854775807) (h' : b.length ≤ 9223372036854775807) : eqVC [.c (.sl (votes a)), .c (.sl (votes b))] [] = some ⟨[.pv (.c (.bool (decide (a = b))))], []⟩ := mkC_at (α := List Vt × List Vt) (a, b) ⟨h, h'⟩ (by
  rintro ⟨a', b'⟩ _ h _
  simp only [List.cons.injEq, AV.c.injEq, PC.sl.injEq, votes_iff, and_true] at h
  obtain ⟨rfl, rfl⟩ := h
  rfl)
set_option maxHeartbeats 4000000 in
theorem eqV_sound : SoundC Try.prog 144 eqVC := by
  refine sound_fn Try.func144 (by kernel_rfl) rfl rfl ?_
  intro args objs r0 hr
  obtain ⟨⟨a, b⟩, ⟨hl, hl'⟩, rfl, rfl, rfl⟩ := mkC_inv hr
  refine ⟨rfl, by show 2 ≤ _; decide, fun E hN hns hF => ?_⟩
  refine vc_sound none0_sound mixed _ _ _ ?_
  have hN := hN.trans nt_144
  have hl : a.length ≤ 9223372036854775807 := hl
  have hl' : b.length ≤ 9223372036854775807 := hl'
  dsimp only
  by_cases hab : a.length = b.length
  case neg =>
    have g0 : ((a.length : Int) != (b.length : Int)) = true := by simp; omega
    have hne : decide (a = b) = false := decide_eq_false (fun e => hab (by rw [e]))
    rw [hne]
    simp only [runA, runB, runC, runD, runE, runF, fieldE, storeE, binE, ↓reduceIte, Nat.reduceLT, Nat.reduceLeDiff, Nat.reduceEqDiff, Nat.reduceAdd, Nat.reduceMul, Nat.reduceSub, reduceCtorEq, putAt, unE, Nat.reduceBEq, convE, buildE, List.replicate, Int.reduceLT, Int.reduceLE, Int.reduceToNat, mkE, mapSetE, hN, hF, ty_3, ty_4, ty_9, ty_68, ty_74, notIf, isEq, votes_length, g0]
    simp only [runB, finC, finD, Option.isSome_some, Option.isSome_none, ↓reduceIte, Nat.reduceEqDiff, Nat.reduceAdd, Nat.reduceMul, forall_eq_or_imp, forall_eq, implies_true, Nat.reduceBEq, reduceCtorEq, false_implies, List.zip_cons_cons, List.zip_nil_left, List.zip_nil_right, Nat.reduceLeDiff, List.forall_mem_nil, rs_144, ty_3, ty_4, ty_9, ty_68, ty_74]
  have g0 : ((a.length : Int) != (b.length : Int)) = false := by simp [hab]
  simp only [runA, runB, runC, runD, runE, runF, fieldE, storeE, binE, ↓reduceIte, Nat.reduceLT, Nat.reduceLeDiff, Nat.reduceEqDiff, Nat.reduceAdd, Nat.reduceMul, Nat.reduceSub, reduceCtorEq, putAt, unE, Nat.reduceBEq, convE, buildE, List.replicate, Int.reduceLT, Int.reduceLE, Int.reduceToNat, mkE, mapSetE, hN, hF, ty_3, ty_4, ty_9, ty_68, ty_74, notIf, isEq, votes_length, g0]
  refine AWP.loop (fun k st => ∃ i : Nat, (i ≤ a.length ∧ ∀ k, k < i → a.getD k zeroV = b.getD k zeroV) ∧ k = a.length - i ∧ st = ⟨[(0, .c (.sl (votes a))), (1, .c (.sl (votes b))), (12, .c (.int .i64 (a.length : Int))), (13, .c (.int .i64 (i : Int)))], []⟩) ⟨a.length, _, ?w, 0, ⟨Nat.zero_le _, fun k hk => absurd hk (by omega)⟩, rfl, rfl⟩ ?r
  case w =>
    rw [hns]
    simp only [runB, finC, finD, AS.get, AS.mem, false_implies, implies_true, ↓reduceIte, Nat.reduceEqDiff, Option.isSome_some, Option.isSome_none, forall_eq_or_imp, forall_eq, reduceCtorEq, Nat.reduceAdd, Nat.reduceMul, List.zip_cons_cons, List.zip_nil_left, List.zip_nil_right, List.forall_mem_nil]
    first | done | simp
  case r =>
    rintro k st ⟨i, ⟨hi, h8⟩, rfl, rfl⟩
    refine vc_sound none0_sound mixed _ _ _ ?_
    by_cases hlt : i < a.length
    · have k1 : decide ((i : Int) < (a.length : Int)) = true := decide_eq_true (by omega)
      have e1 : IntKind.i64.wrap ((i : Int) + 1) = (i : Int) + 1 := wrapI (by omega)
      have hg := votesD a i hlt
      have hg' := votesD b i (by omega)
      have hq := eqd_vo (a.getD i zeroV) (b.getD i zeroV)
      by_cases hy : a.getD i zeroV = b.getD i zeroV
      · have hd : decide (a.getD i zeroV = b.getD i zeroV) = true := decide_eq_true hy
        rw [hd] at hq
        have h8' : ∀ k, k < i + 1 → a.getD k zeroV = b.getD k zeroV := fun k hk => by
          by_cases e : k = i
          · rw [e]; exact hy
          · exact h8 k (by omega)
        unfold Vt.pcs at hg hg'
        generalize a.getD i zeroV = y at hg hq
        generalize b.getD i zeroV = z at hg' hq
        have nt1 : (!true) = false := rfl
        simp only [runA, runB, runC, runD, runE, runF, fieldE, storeE, binE, ↓reduceIte, Nat.reduceLT, Nat.reduceLeDiff, Nat.reduceEqDiff, Nat.reduceAdd, Nat.reduceMul, Nat.reduceSub, reduceCtorEq, putAt, unE, Nat.reduceBEq, convE, buildE, List.replicate, Int.reduceLT, Int.reduceLE, Int.reduceToNat, mkE, mapSetE, hN, hF, ty_3, ty_4, ty_9, ty_68, ty_74, notIf, isEq, k1, e1, hg, hg', eqg_vo, hq, nt1, votes_length]
        refine drawnP_intro (by kernel_rfl) (by kernel_rfl) ?_
        simp only [runA, runB, runC, runD, runE, runF, fieldE, storeE, binE, ↓reduceIte, Nat.reduceLT, Nat.reduceLeDiff, Nat.reduceEqDiff, Nat.reduceAdd, Nat.reduceMul, Nat.reduceSub, reduceCtorEq, putAt, unE, Nat.reduceBEq, convE, buildE, List.replicate, Int.reduceLT, Int.reduceLE, Int.reduceToNat, mkE, mapSetE, hN, hF, ty_3, ty_4, ty_9, ty_68, ty_74, notIf, isEq, k1, e1, hg, hg', eqg_vo, hq, nt1, votes_length]
        refine ⟨a.length - (i + 1), _, by omega, ?_, i + 1, ⟨by omega, h8'⟩, rfl, rfl⟩
        rw [hns]
        simp only [runB, finC, finD, AS.get, AS.mem, false_implies, implies_true, ↓reduceIte, Nat.reduceEqDiff, Option.isSome_some, Option.isSome_none, forall_eq_or_imp, forall_eq, reduceCtorEq, Nat.reduceAdd, Nat.reduceMul, List.zip_cons_cons, List.zip_nil_left, List.zip_nil_right, List.forall_mem_nil]
        first | done | simp
      · have hd : decide (a.getD i zeroV = b.getD i zeroV) = false := decide_eq_false hy
        rw [hd] at hq
        have hne : decide (a = b) = false := decide_eq_false (fun e => hy (by rw [e]))
        rw [hne]
        unfold Vt.pcs at hg hg'
        generalize a.getD i zeroV = y at hg hq
        generalize b.getD i zeroV = z at hg' hq
        have ntf : (!false) = true := rfl
        simp only [runA, runB, runC, runD, runE, runF, fieldE, storeE, binE, ↓reduceIte, Nat.reduceLT, Nat.reduceLeDiff, Nat.reduceEqDiff, Nat.reduceAdd, Nat.reduceMul, Nat.reduceSub, reduceCtorEq, putAt, unE, Nat.reduceBEq, convE, buildE, List.replicate, Int.reduceLT, Int.reduceLE, Int.reduceToNat, mkE, mapSetE, hN, hF, ty_3, ty_4, ty_9, ty_68, ty_74, notIf, isEq, k1, e1, hg, hg', eqg_vo, hq, ntf, votes_length]
        refine drawnP_intro (by kernel_rfl) (by kernel_rfl) ?_
        simp only [runA, runB, runC, runD, runE, runF, fieldE, storeE, binE, ↓reduceIte, Nat.reduceLT, Nat.reduceLeDiff, Nat.reduceEqDiff, Nat.reduceAdd, Nat.reduceMul, Nat.reduceSub, reduceCtorEq, putAt, unE, Nat.reduceBEq, convE, buildE, List.replicate, Int.reduceLT, Int.reduceLE, Int.reduceToNat, mkE, mapSetE, hN, hF, ty_3, ty_4, ty_9, ty_68, ty_74, notIf, isEq, k1, e1, hg, hg', eqg_vo, hq, ntf, votes_length]
        simp only [runB, finC, finD, Option.isSome_some, Option.isSome_none, ↓reduceIte, Nat.reduceEqDiff, Nat.reduceAdd, Nat.reduceMul, forall_eq_or_imp, forall_eq, implies_true, Nat.reduceBEq, reduceCtorEq, false_implies, List.zip_cons_cons, List.zip_nil_left, List.zip_nil_right, Nat.reduceLeDiff, List.forall_mem_nil, rs_144, ty_3, ty_4, ty_9, ty_68, ty_74]
    · have k1 : decide ((i : Int) < (a.length : Int)) = false := decide_eq_false (by omega)
      obtain rfl : i = a.length := by omega
      have hne : decide (a = b) = true := decide_eq_true (getD_extM hab h8)
      rw [hne]
      simp only [runA, runB, runC, runD, runE, runF, fieldE, storeE, binE, ↓reduceIte, Nat.reduceLT, Nat.reduceLeDiff, Nat.reduceEqDiff, Nat.reduceAdd, Nat.reduceMul, Nat.reduceSub, reduceCtorEq, putAt, unE, Nat.reduceBEq, convE, buildE, List.replicate, Int.reduceLT, Int.reduceLE, Int.reduceToNat, mkE, mapSetE, hN, hF, ty_3, ty_4, ty_9, ty_68, ty_74, notIf, isEq, k1, votes_length]
      simp only [runB, finC, finD, Option.isSome_some, Option.isSome_none, ↓reduceIte, Nat.reduceEqDiff, Nat.reduceAdd, Nat.reduceMul, forall_eq_or_imp, forall_eq, implies_true, Nat.reduceBEq, reduceCtorEq, false_implies, List.zip_cons_cons, List.zip_nil_left, List.zip_nil_right, Nat.reduceLeDiff, List.forall_mem_nil, rs_144, ty_3, ty_4, ty_9, ty_68, ty_74]
noncomputable def eqTC : Contract := mkC (α := List Txn × List Txn) (fun p => p.1.length ≤ 9223372036854775807 ∧ p.2.length ≤ 9223372036854775807) (fun p => [.c (.sl (trows p.1)), .c (.sl (trows p.2))]) (fun _ => []) (fun p => ⟨[.pv (.c (.bool (decide (p.1 = p.2))))], []⟩)
theorem eqT_at (a b : List Txn) (h : a.length ≤ 9223372036854775807) (h' : b.length ≤ 9223372036854775807) : eqTC [.c (.sl (trows a)), .c (.sl (trows b))] [] = some ⟨[.pv (.c (.bool (decide (a = b))))], []⟩ := mkC_at (α := List Txn × List Txn) (a, b) ⟨h, h'⟩ (by
  rintro ⟨a', b'⟩ _ h _
  simp only [List.cons.injEq, AV.c.injEq, PC.sl.injEq, trows_iff, and_true] at h
  obtain ⟨rfl, rfl⟩ := h
  rfl)
set_option maxHeartbeats 4000000 in
theorem eqT_sound : SoundC Try.prog 158 eqTC := by
  refine sound_fn Try.func158 (by kernel_rfl) rfl rfl ?_
  intro args objs r0 hr
  obtain ⟨⟨a, b⟩, ⟨hl, hl'⟩, rfl, rfl, rfl⟩ := mkC_inv hr
  refine ⟨rfl, by show 2 ≤ _; decide, fun E hN hns hF => ?_⟩
  refine vc_sound none0_sound mixed _ _ _ ?_
  have hN := hN.trans nt_158
  have hl : a.length ≤ 9223372036854775807 := hl
  have hl' : b.length ≤ 9223372036854775807 := hl'
  dsimp only
  by_cases hab : a.length = b.length
  case neg =>
    have g0 : ((a.length : Int) != (b.length : Int)) = true := by simp; omega
    have hne : decide (a = b) = false := decide_eq_false (fun e => hab (by rw [e]))
    rw [hne]
    simp only [runA, runB, runC, runD, runE, runF, fieldE, storeE, binE, ↓reduceIte, Nat.reduceLT, Nat.reduceLeDiff, Nat.reduceEqDiff, Nat.reduceAdd, Nat.reduceMul, Nat.reduceSub, reduceCtorEq, putAt, unE, Nat.reduceBEq, convE, buildE, List.replicate, Int.reduceLT, Int.reduceLE, Int.reduceToNat, mkE, mapSetE, hN, hF, ty_3, ty_4, ty_9, ty_50, ty_54, notIf, isEq, trows_length, g0]
    simp only [runB, finC, finD, Option.isSome_some, Option.isSome_none, ↓reduceIte, Nat.reduceEqDiff, Nat.reduceAdd, Nat.reduceMul, forall_eq_or_imp, forall_eq, implies_true, Nat.reduceBEq, reduceCtorEq, false_implies, List.zip_cons_cons, List.zip_nil_left, List.zip_nil_right, Nat.reduceLeDiff, List.forall_mem_nil, rs_158, ty_3, ty_4, ty_9, ty_50, ty_54]
  have g0 : ((a.length : Int) != (b.length : Int)) = false := by simp [hab]
  simp only [runA, runB, runC, runD, runE, runF, fieldE, storeE, binE, ↓reduceIte, Nat.reduceLT, Nat.reduceLeDiff, Nat.reduceEqDiff, Nat.reduceAdd, Nat.reduceMul, Nat.reduceSub, reduceCtorEq, putAt, unE, Nat.reduceBEq, convE, buildE, List.replicate, Int.reduceLT, Int.reduceLE, Int.reduceToNat, mkE, mapSetE, hN, hF, ty_3, ty_4, ty_9, ty_50, ty_54, notIf, isEq, trows_length, g0]
  refine AWP.loop (fun k st => ∃ i : Nat, (i ≤ a.length ∧ ∀ k, k < i → a.getD k zeroT = b.getD k zeroT) ∧ k = a.length - i ∧ st = ⟨[(0, .c (.sl (trows a))), (1, .c (.sl (trows b))), (12, .c (.int .i64 (a.length : Int))), (13, .c (.int .i64 (i : Int)))], []⟩) ⟨a.length, _, ?w, 0, ⟨Nat.zero_le _, fun k hk => absurd hk (by omega)⟩, rfl, rfl⟩ ?r
  case w =>
    rw [hns]
    simp only [runB, finC, finD, AS.get, AS.mem, false_implies, implies_true, ↓reduceIte, Nat.reduceEqDiff, Option.isSome_some, Option.isSome_none, forall_eq_or_imp, forall_eq, reduceCtorEq, Nat.reduceAdd, Nat.reduceMul, List.zip_cons_cons, List.zip_nil_left, List.zip_nil_right, List.forall_mem_nil]
    first | done | simp
  case r =>
    rintro k st ⟨i, ⟨hi, h8⟩, rfl, rfl⟩
    refine vc_sound none0_sound mixed _ _ _ ?_
    by_cases hlt : i < a.length
    · have k1 : decide ((i : Int) < (a.length : Int)) = true := decide_eq_true (by omega)
      have e1 : IntKind.i64.wrap ((i : Int) + 1) = (i : Int) + 1 := wrapI (by omega)
      have hg := trowsD a i hlt
      have hg' := trowsD b i (by omega)
      have hq := eqd_tx (a.getD i zeroT) (b.getD i zeroT)
      by_cases hy : a.getD i zeroT = b.getD i zeroT
      · have hd : decide (a.getD i zeroT = b.getD i zeroT) = true := decide_eq_true hy
        rw [hd] at hq
        have h8' : ∀ k, k < i + 1 → a.getD k zeroT = b.getD k zeroT := fun k hk => by
          by_cases e : k = i
          · rw [e]; exact hy
          · exact h8 k (by omega)
        unfold Txn.pcs at hg hg'
        generalize a.getD i zeroT = y at hg hq
        generalize b.getD i zeroT = z at hg' hq
        have nt1 : (!true) = false := rfl
        simp only [runA, runB, runC, runD, runE, runF, fieldE, storeE, binE, ↓reduceIte, Nat.reduceLT, Nat.reduceLeDiff, Nat.reduceEqDiff, Nat.reduceAdd, Nat.reduceMul, Nat.reduceSub, reduceCtorEq, putAt, unE, Nat.reduceBEq, convE, buildE, List.replicate, Int.reduceLT, Int.reduceLE, Int.reduceToNat, mkE, mapSetE, hN, hF, ty_3, ty_4, ty_9, ty_50, ty_54, notIf, isEq, k1, e1, hg, hg', eqg_tx, hq, nt1, trows_length]
        refine drawnP_intro (by kernel_rfl) (by kernel_rfl) ?_
        simp only [runA, runB, runC, runD, runE, runF, fieldE, storeE, binE, ↓reduceIte, Nat.reduceLT, Nat.reduceLeDiff, Nat.reduceEqDiff, Nat.reduceAdd, Nat.reduceMul, Nat.reduceSub, reduceCtorEq, putAt, unE, Nat.reduceBEq, convE, buildE, List.replicate, Int.reduceLT, Int.reduceLE, Int.reduceToNat, mkE, mapSetE, hN, hF, ty_3, ty_4, ty_9, ty_50, ty_54, notIf, isEq, k1, e1, hg, hg', eqg_tx, hq, nt1, trows_length]
        refine ⟨a.length - (i + 1), _, by omega, ?_, i + 1, ⟨by omega, h8'⟩, rfl, rfl⟩
        rw [hns]
        simp only [runB, finC, finD, AS.get, AS.mem, false_implies, implies_true, ↓reduceIte, Nat.reduceEqDiff, Option.isSome_some, Option.isSome_none, forall_eq_or_imp, forall_eq, reduceCtorEq, Nat.reduceAdd, Nat.reduceMul, List.zip_cons_cons, List.zip_nil_left, List.zip_nil_right, List.forall_mem_nil]
        first | done | simp
      · have hd : decide (a.getD i zeroT = b.getD i zeroT) = false := decide_eq_false hy
        rw [hd] at hq
        have hne : decide (a = b) = false := decide_eq_false (fun e => hy (by rw [e]))
        rw [hne]
        unfold Txn.pcs at hg hg'
        generalize a.getD i zeroT = y at hg hq
        generalize b.getD i zeroT = z at hg' hq
        have ntf : (!false) = true := rfl
        simp only [runA, runB, runC, runD, runE, runF, fieldE, storeE, binE, ↓reduceIte, Nat.reduceLT, Nat.reduceLeDiff, Nat.reduceEqDiff, Nat.reduceAdd, Nat.reduceMul, Nat.reduceSub, reduceCtorEq, putAt, unE, Nat.reduceBEq, convE, buildE, List.replicate, Int.reduceLT, Int.reduceLE, Int.reduceToNat, mkE, mapSetE, hN, hF, ty_3, ty_4, ty_9, ty_50, ty_54, notIf, isEq, k1, e1, hg, hg', eqg_tx, hq, ntf, trows_length]
        refine drawnP_intro (by kernel_rfl) (by kernel_rfl) ?_
        simp only [runA, runB, runC, runD, runE, runF, fieldE, storeE, binE, ↓reduceIte, Nat.reduceLT, Nat.reduceLeDiff, Nat.reduceEqDiff, Nat.reduceAdd, Nat.reduceMul, Nat.reduceSub, reduceCtorEq, putAt, unE, Nat.reduceBEq, convE, buildE, List.replicate, Int.reduceLT, Int.reduceLE, Int.reduceToNat, mkE, mapSetE, hN, hF, ty_3, ty_4, ty_9, ty_50, ty_54, notIf, isEq, k1, e1, hg, hg', eqg_tx, hq, ntf, trows_length]
        simp only [runB, finC, finD, Option.isSome_some, Option.isSome_none, ↓reduceIte, Nat.reduceEqDiff, Nat.reduceAdd, Nat.reduceMul, forall_eq_or_imp, forall_eq, implies_true, Nat.reduceBEq, reduceCtorEq, false_implies, List.zip_cons_cons, List.zip_nil_left, List.zip_nil_right, Nat.reduceLeDiff, List.forall_mem_nil, rs_158, ty_3, ty_4, ty_9, ty_50, ty_54]
    · have k1 : decide ((i : Int) < (a.length : Int)) = false := decide_eq_false (by omega)
      obtain rfl : i = a.length := by omega
      have hne : decide (a = b) = true := decide_eq_true (getD_extM hab h8)
      rw [hne]
      simp only [runA, runB, runC, runD, runE, runF, fieldE, storeE, binE, ↓reduceIte, Nat.reduceLT, Nat.reduceLeDiff, Nat.reduceEqDiff, Nat.reduceAdd, Nat.reduceMul, Nat.reduceSub, reduceCtorEq, putAt, unE, Nat.reduceBEq, convE, buildE, List.replicate, Int.reduceLT, Int.reduceLE, Int.reduceToNat, mkE, mapSetE, hN, hF, ty_3, ty_4, ty_9, ty_50, ty_54, notIf, isEq, k1, trows_length]
      simp only [runB, finC, finD, Option.isSome_some, Option.isSome_none, ↓reduceIte, Nat.reduceEqDiff, Nat.reduceAdd, Nat.reduceMul, forall_eq_or_imp, forall_eq, implies_true, Nat.reduceBEq, reduceCtorEq, false_implies, List.zip_cons_cons, List.zip_nil_left, List.zip_nil_right, Nat.reduceLeDiff, List.forall_mem_nil, rs_158, ty_3, ty_4, ty_9, ty_50, ty_54]
noncomputable def smVC : Contract := mkC (α := List Vt × List Vt) (fun p => p.1.length ≤ 9223372036854775807 ∧ p.2.length ≤ 9223372036854775807) (fun p => [.c (.sl (votes p.1)), .c (.sl (votes p.2))]) (fun _ => []) (fun p => ⟨[.pv (.c (.bool (decide (p.1 = p.2))))], []⟩)
theorem smV_at (a b : List Vt) (h : a.length ≤ 9223372036854775807) (h' : b.length ≤ 9223372036854775807) : smVC [.c (.sl (votes a)), .c (.sl (votes b))] [] = some ⟨[.pv (.c (.bool (decide (a = b))))], []⟩ := mkC_at (α := List Vt × List Vt) (a, b) ⟨h, h'⟩ (by
  rintro ⟨a', b'⟩ _ h _
  simp only [List.cons.injEq, AV.c.injEq, PC.sl.injEq, votes_iff, and_true] at h
  obtain ⟨rfl, rfl⟩ := h
  rfl)
set_option maxHeartbeats 4000000 in
theorem smV_sound : SoundC Try.prog 89 smVC := by
  refine sound_fn Try.func89 (by kernel_rfl) rfl rfl ?_
  intro args objs r0 hr
  obtain ⟨⟨a, b⟩, ⟨hl, hl'⟩, rfl, rfl, rfl⟩ := mkC_inv hr
  refine ⟨rfl, by show 2 ≤ _; decide, fun E hN hns hF => ?_⟩
  refine vc_sound none0_sound mixed _ _ _ ?_
  have hN := hN.trans nt_89
  have hl : a.length ≤ 9223372036854775807 := hl
  have hl' : b.length ≤ 9223372036854775807 := hl'
  dsimp only
  by_cases hab : a.length = b.length
  case neg =>
    have g0 : ((a.length : Int) != (b.length : Int)) = true := by simp; omega
    have hne : decide (a = b) = false := decide_eq_false (fun e => hab (by rw [e]))
    rw [hne]
    simp only [runA, runB, runC, runD, runE, runF, fieldE, storeE, binE, ↓reduceIte, Nat.reduceLT, Nat.reduceLeDiff, Nat.reduceEqDiff, Nat.reduceAdd, Nat.reduceMul, Nat.reduceSub, reduceCtorEq, putAt, unE, Nat.reduceBEq, convE, buildE, List.replicate, Int.reduceLT, Int.reduceLE, Int.reduceToNat, mkE, mapSetE, hN, hF, ty_3, ty_4, ty_9, ty_68, ty_74, notIf, isEq, votes_length, g0]
    simp only [runB, finC, finD, Option.isSome_some, Option.isSome_none, ↓reduceIte, Nat.reduceEqDiff, Nat.reduceAdd, Nat.reduceMul, forall_eq_or_imp, forall_eq, implies_true, Nat.reduceBEq, reduceCtorEq, false_implies, List.zip_cons_cons, List.zip_nil_left, List.zip_nil_right, Nat.reduceLeDiff, List.forall_mem_nil, rs_89, ty_3, ty_4, ty_9, ty_68, ty_74]
  have g0 : ((a.length : Int) != (b.length : Int)) = false := by simp [hab]
  simp only [runA, runB, runC, runD, runE, runF, fieldE, storeE, binE, ↓reduceIte, Nat.reduceLT, Nat.reduceLeDiff, Nat.reduceEqDiff, Nat.reduceAdd, Nat.reduceMul, Nat.reduceSub, reduceCtorEq, putAt, unE, Nat.reduceBEq, convE, buildE, List.replicate, Int.reduceLT, Int.reduceLE, Int.reduceToNat, mkE, mapSetE, hN, hF, ty_3, ty_4, ty_9, ty_68, ty_74, notIf, isEq, votes_length, g0]
  refine AWP.loop (fun k st => ∃ i : Nat, (i ≤ a.length ∧ ∀ k, k < i → a.getD k zeroV = b.getD k zeroV) ∧ k = a.length - i ∧ st = ⟨[(0, .c (.sl (votes a))), (1, .c (.sl (votes b))), (5, .c (.int .i64 (i : Int)))], []⟩) ⟨a.length, _, ?w, 0, ⟨Nat.zero_le _, fun k hk => absurd hk (by omega)⟩, rfl, rfl⟩ ?r
  case w =>
    rw [hns]
    simp only [runB, finC, finD, AS.get, AS.mem, false_implies, implies_true, ↓reduceIte, Nat.reduceEqDiff, Option.isSome_some, Option.isSome_none, forall_eq_or_imp, forall_eq, reduceCtorEq, Nat.reduceAdd, Nat.reduceMul, List.zip_cons_cons, List.zip_nil_left, List.zip_nil_right, List.forall_mem_nil]
    first | done | simp
  case r =>
    rintro k st ⟨i, ⟨hi, h8⟩, rfl, rfl⟩
    refine vc_sound none0_sound mixed _ _ _ ?_
    by_cases hlt : i < a.length
    · have k1 : decide ((i : Int) < (a.length : Int)) = true := decide_eq_true (by omega)
      have e1 : IntKind.i64.wrap ((i : Int) + 1) = (i : Int) + 1 := wrapI (by omega)
      have hg := votesD a i hlt
      have hg' := votesD b i (by omega)
      have hq := eqd_vo (a.getD i zeroV) (b.getD i zeroV)
      by_cases hy : a.getD i zeroV = b.getD i zeroV
      · have hd : decide (a.getD i zeroV = b.getD i zeroV) = true := decide_eq_true hy
        rw [hd] at hq
        have h8' : ∀ k, k < i + 1 → a.getD k zeroV = b.getD k zeroV := fun k hk => by
          by_cases e : k = i
          · rw [e]; exact hy
          · exact h8 k (by omega)
        unfold Vt.pcs at hg hg'
        generalize a.getD i zeroV = y at hg hq
        generalize b.getD i zeroV = z at hg' hq
        have nt1 : (!true) = false := rfl
        simp only [runA, runB, runC, runD, runE, runF, fieldE, storeE, binE, ↓reduceIte, Nat.reduceLT, Nat.reduceLeDiff, Nat.reduceEqDiff, Nat.reduceAdd, Nat.reduceMul, Nat.reduceSub, reduceCtorEq, putAt, unE, Nat.reduceBEq, convE, buildE, List.replicate, Int.reduceLT, Int.reduceLE, Int.reduceToNat, mkE, mapSetE, hN, hF, ty_3, ty_4, ty_9, ty_68, ty_74, notIf, isEq, k1, e1, hg, hg', eqg_vo, hq, nt1, votes_length]
        refine drawnP_intro (by kernel_rfl) (by kernel_rfl) ?_
        simp only [runA, runB, runC, runD, runE, runF, fieldE, storeE, binE, ↓reduceIte, Nat.reduceLT, Nat.reduceLeDiff, Nat.reduceEqDiff, Nat.reduceAdd, Nat.reduceMul, Nat.reduceSub, reduceCtorEq, putAt, unE, Nat.reduceBEq, convE, buildE, List.replicate, Int.reduceLT, Int.reduceLE, Int.reduceToNat, mkE, mapSetE, hN, hF, ty_3, ty_4, ty_9, ty_68, ty_74, notIf, isEq, k1, e1, hg, hg', eqg_vo, hq, nt1, votes_length]
        refine ⟨a.length - (i + 1), _, by omega, ?_, i + 1, ⟨by omega, h8'⟩, rfl, rfl⟩
        rw [hns]
        simp only [runB, finC, finD, AS.get, AS.mem, false_implies, implies_true, ↓reduceIte, Nat.reduceEqDiff, Option.isSome_some, Option.isSome_none, forall_eq_or_imp, forall_eq, reduceCtorEq, Nat.reduceAdd, Nat.reduceMul, List.zip_cons_cons, List.zip_nil_left, List.zip_nil_right, List.forall_mem_nil]
        first | done | simp
      · have hd : decide (a.getD i zeroV = b.getD i zeroV) = false := decide_eq_false hy
        rw [hd] at hq
        have hne : decide (a = b) = false := decide_eq_false (fun e => hy (by rw [e]))
        rw [hne]
        unfold Vt.pcs at hg hg'
        generalize a.getD i zeroV = y at hg hq
        generalize b.getD i zeroV = z at hg' hq
        have ntf : (!false) = true := rfl
        simp only [runA, runB, runC, runD, runE, runF, fieldE, storeE, binE, ↓reduceIte, Nat.reduceLT, Nat.reduceLeDiff, Nat.reduceEqDiff, Nat.reduceAdd, Nat.reduceMul, Nat.reduceSub, reduceCtorEq, putAt, unE, Nat.reduceBEq, convE, buildE, List.replicate, Int.reduceLT, Int.reduceLE, Int.reduceToNat, mkE, mapSetE, hN, hF, ty_3, ty_4, ty_9, ty_68, ty_74, notIf, isEq, k1, e1, hg, hg', eqg_vo, hq, ntf, votes_length]
        refine drawnP_intro (by kernel_rfl) (by kernel_rfl) ?_
        simp only [runA, runB, runC, runD, runE, runF, fieldE, storeE, binE, ↓reduceIte, Nat.reduceLT, Nat.reduceLeDiff, Nat.reduceEqDiff, Nat.reduceAdd, Nat.reduceMul, Nat.reduceSub, reduceCtorEq, putAt, unE, Nat.reduceBEq, convE, buildE, List.replicate, Int.reduceLT, Int.reduceLE, Int.reduceToNat, mkE, mapSetE, hN, hF, ty_3, ty_4, ty_9, ty_68, ty_74, notIf, isEq, k1, e1, hg, hg', eqg_vo, hq, ntf, votes_length]
        simp only [runB, finC, finD, Option.isSome_some, Option.isSome_none, ↓reduceIte, Nat.reduceEqDiff, Nat.reduceAdd, Nat.reduceMul, forall_eq_or_imp, forall_eq, implies_true, Nat.reduceBEq, reduceCtorEq, false_implies, List.zip_cons_cons, List.zip_nil_left, List.zip_nil_right, Nat.reduceLeDiff, List.forall_mem_nil, rs_89, ty_3, ty_4, ty_9, ty_68, ty_74]
    · have k1 : decide ((i : Int) < (a.length : Int)) = false := decide_eq_false (by omega)
      obtain rfl : i = a.length := by omega
      have hne : decide (a = b) = true := decide_eq_true (getD_extM hab h8)
      rw [hne]
      simp only [runA, runB, runC, runD, runE, runF, fieldE, storeE, binE, ↓reduceIte, Nat.reduceLT, Nat.reduceLeDiff, Nat.reduceEqDiff, Nat.reduceAdd, Nat.reduceMul, Nat.reduceSub, reduceCtorEq, putAt, unE, Nat.reduceBEq, convE, buildE, List.replicate, Int.reduceLT, Int.reduceLE, Int.reduceToNat, mkE, mapSetE, hN, hF, ty_3, ty_4, ty_9, ty_68, ty_74, notIf, isEq, k1, votes_length]
      simp only [runB, finC, finD, Option.isSome_some, Option.isSome_none, ↓reduceIte, Nat.reduceEqDiff, Nat.reduceAdd, Nat.reduceMul, forall_eq_or_imp, forall_eq, implies_true, Nat.reduceBEq, reduceCtorEq, false_implies, List.zip_cons_cons, List.zip_nil_left, List.zip_nil_right, Nat.reduceLeDiff, List.forall_mem_nil, rs_89, ty_3, ty_4, ty_9, ty_68, ty_74]
noncomputable def smTC : Contract := mkC (α := List Txn × List Txn) (fun p => p.1.length ≤ 9223372036854775807 ∧ p.2.length ≤ 9223372036854775807) (fun p => [.c (.sl (trows p.1)), .c (.sl (trows p.2))]) (fun _ => []) (fun p => ⟨[.pv (.c (.bool (decide (p.1 = p.2))))], []⟩)
theorem smT_at (a b : List Txn) (h : a.length ≤ 9223372036854775807) (h' : b.length ≤ 9223372036854775807) : smTC [.c (.sl (trows a)), .c (.sl (trows b))] [] = some ⟨[.pv (.c (.bool (decide (a = b))))], []⟩ := mkC_at (α := List Txn × List Txn) (a, b) ⟨h, h'⟩ (by
  rintro ⟨a', b'⟩ _ h _
  simp only [List.cons.injEq, AV.c.injEq, PC.sl.injEq, trows_iff, and_true] at h
  obtain ⟨rfl, rfl⟩ := h
  rfl)
set_option maxHeartbeats 4000000 in
theorem smT_sound : SoundC Try.prog 125 smTC := by
  refine sound_fn Try.func125 (by kernel_rfl) rfl rfl ?_
  intro args objs r0 hr
  obtain ⟨⟨a, b⟩, ⟨hl, hl'⟩, rfl, rfl, rfl⟩ := mkC_inv hr
  refine ⟨rfl, by show 2 ≤ _; decide, fun E hN hns hF => ?_⟩
  refine vc_sound none0_sound mixed _ _ _ ?_
  have hN := hN.trans nt_125
  have hl : a.length ≤ 9223372036854775807 := hl
  have hl' : b.length ≤ 9223372036854775807 := hl'
  dsimp only
  by_cases hab : a.length = b.length
  case neg =>
    have g0 : ((a.length : Int) != (b.length : Int)) = true := by simp; omega
    have hne : decide (a = b) = false := decide_eq_false (fun e => hab (by rw [e]))
    rw [hne]
    simp only [runA, runB, runC, runD, runE, runF, fieldE, storeE, binE, ↓reduceIte, Nat.reduceLT, Nat.reduceLeDiff, Nat.reduceEqDiff, Nat.reduceAdd, Nat.reduceMul, Nat.reduceSub, reduceCtorEq, putAt, unE, Nat.reduceBEq, convE, buildE, List.replicate, Int.reduceLT, Int.reduceLE, Int.reduceToNat, mkE, mapSetE, hN, hF, ty_3, ty_4, ty_9, ty_50, ty_54, notIf, isEq, trows_length, g0]
    simp only [runB, finC, finD, Option.isSome_some, Option.isSome_none, ↓reduceIte, Nat.reduceEqDiff, Nat.reduceAdd, Nat.reduceMul, forall_eq_or_imp, forall_eq, implies_true, Nat.reduceBEq, reduceCtorEq, false_implies, List.zip_cons_cons, List.zip_nil_left, List.zip_nil_right, Nat.reduceLeDiff, List.forall_mem_nil, rs_125, ty_3, ty_4, ty_9, ty_50, ty_54]
  have g0 : ((a.length : Int) != (b.length : Int)) = false := by simp [hab]
  simp only [runA, runB, runC, runD, runE, runF, fieldE, storeE, binE, ↓reduceIte, Nat.reduceLT, Nat.reduceLeDiff, Nat.reduceEqDiff, Nat.reduceAdd, Nat.reduceMul, Nat.reduceSub, reduceCtorEq, putAt, unE, Nat.reduceBEq, convE, buildE, List.replicate, Int.reduceLT, Int.reduceLE, Int.reduceToNat, mkE, mapSetE, hN, hF, ty_3, ty_4, ty_9, ty_50, ty_54, notIf, isEq, trows_length, g0]
  refine AWP.loop (fun k st => ∃ i : Nat, (i ≤ a.length ∧ ∀ k, k < i → a.getD k zeroT = b.getD k zeroT) ∧ k = a.length - i ∧ st = ⟨[(0, .c (.sl (trows a))), (1, .c (.sl (trows b))), (5, .c (.int .i64 (i : Int)))], []⟩) ⟨a.length, _, ?w, 0, ⟨Nat.zero_le _, fun k hk => absurd hk (by omega)⟩, rfl, rfl⟩ ?r
  case w =>
    rw [hns]
    simp only [runB, finC, finD, AS.get, AS.mem, false_implies, implies_true, ↓reduceIte, Nat.reduceEqDiff, Option.isSome_some, Option.isSome_none, forall_eq_or_imp, forall_eq, reduceCtorEq, Nat.reduceAdd, Nat.reduceMul, List.zip_cons_cons, List.zip_nil_left, List.zip_nil_right, List.forall_mem_nil]
    first | done | simp
  case r =>
    rintro k st ⟨i, ⟨hi, h8⟩, rfl, rfl⟩
    refine vc_sound none0_sound mixed _ _ _ ?_
    by_cases hlt : i < a.length
    · have k1 : decide ((i : Int) < (a.length : Int)) = true := decide_eq_true (by omega)
      have e1 : IntKind.i64.wrap ((i : Int) + 1) = (i : Int) + 1 := wrapI (by omega)
      have hg := trowsD a i hlt
      have hg' := trowsD b i (by omega)
      have hq := eqd_tx (a.getD i zeroT) (b.getD i zeroT)
      by_cases hy : a.getD i zeroT = b.getD i zeroT
      · have hd : decide (a.getD i zeroT = b.getD i zeroT) = true := decide_eq_true hy
        rw [hd] at hq
        have h8' : ∀ k, k < i + 1 → a.getD k zeroT = b.getD k zeroT := fun k hk => by
          by_cases e : k = i
          · rw [e]; exact hy
          · exact h8 k (by omega)
        unfold Txn.pcs at hg hg'
        generalize a.getD i zeroT = y at hg hq
        generalize b.getD i zeroT = z at hg' hq
        have nt1 : (!true) = false := rfl
        simp only [runA, runB, runC, runD, runE, runF, fieldE, storeE, binE, ↓reduceIte, Nat.reduceLT, Nat.reduceLeDiff, Nat.reduceEqDiff, Nat.reduceAdd, Nat.reduceMul, Nat.reduceSub, reduceCtorEq, putAt, unE, Nat.reduceBEq, convE, buildE, List.replicate, Int.reduceLT, Int.reduceLE, Int.reduceToNat, mkE, mapSetE, hN, hF, ty_3, ty_4, ty_9, ty_50, ty_54, notIf, isEq, k1, e1, hg, hg', eqg_tx, hq, nt1, trows_length]
        refine drawnP_intro (by kernel_rfl) (by kernel_rfl) ?_
        simp only [runA, runB, runC, runD, runE, runF, fieldE, storeE, binE, ↓reduceIte, Nat.reduceLT, Nat.reduceLeDiff, Nat.reduceEqDiff, Nat.reduceAdd, Nat.reduceMul, Nat.reduceSub, reduceCtorEq, putAt, unE, Nat.reduceBEq, convE, buildE, List.replicate, Int.reduceLT, Int.reduceLE, Int.reduceToNat, mkE, mapSetE, hN, hF, ty_3, ty_4, ty_9, ty_50, ty_54, notIf, isEq, k1, e1, hg, hg', eqg_tx, hq, nt1, trows_length]
        refine ⟨a.length - (i + 1), _, by omega, ?_, i + 1, ⟨by omega, h8'⟩, rfl, rfl⟩
        rw [hns]
        simp only [runB, finC, finD, AS.get, AS.mem, false_implies, implies_true, ↓reduceIte, Nat.reduceEqDiff, Option.isSome_some, Option.isSome_none, forall_eq_or_imp, forall_eq, reduceCtorEq, Nat.reduceAdd, Nat.reduceMul, List.zip_cons_cons, List.zip_nil_left, List.zip_nil_right, List.forall_mem_nil]
        first | done | simp
      · have hd : decide (a.getD i zeroT = b.getD i zeroT) = false := decide_eq_false hy
        rw [hd] at hq
        have hne : decide (a = b) = false := decide_eq_false (fun e => hy (by rw [e]))
        rw [hne]
        unfold Txn.pcs at hg hg'
        generalize a.getD i zeroT = y at hg hq
        generalize b.getD i zeroT = z at hg' hq
        have ntf : (!false) = true := rfl
        simp only [runA, runB, runC, runD, runE, runF, fieldE, storeE, binE, ↓reduceIte, Nat.reduceLT, Nat.reduceLeDiff, Nat.reduceEqDiff, Nat.reduceAdd, Nat.reduceMul, Nat.reduceSub, reduceCtorEq, putAt, unE, Nat.reduceBEq, convE, buildE, List.replicate, Int.reduceLT, Int.reduceLE, Int.reduceToNat, mkE, mapSetE, hN, hF, ty_3, ty_4, ty_9, ty_50, ty_54, notIf, isEq, k1, e1, hg, hg', eqg_tx, hq, ntf, trows_length]
        refine drawnP_intro (by kernel_rfl) (by kernel_rfl) ?_
        simp only [runA, runB, runC, runD, runE, runF, fieldE, storeE, binE, ↓reduceIte, Nat.reduceLT, Nat.reduceLeDiff, Nat.reduceEqDiff, Nat.reduceAdd, Nat.reduceMul, Nat.reduceSub, reduceCtorEq, putAt, unE, Nat.reduceBEq, convE, buildE, List.replicate, Int.reduceLT, Int.reduceLE, Int.reduceToNat, mkE, mapSetE, hN, hF, ty_3, ty_4, ty_9, ty_50, ty_54, notIf, isEq, k1, e1, hg, hg', eqg_tx, hq, ntf, trows_length]
        simp only [runB, finC, finD, Option.isSome_some, Option.isSome_none, ↓reduceIte, Nat.reduceEqDiff, Nat.reduceAdd, Nat.reduceMul, forall_eq_or_imp, forall_eq, implies_true, Nat.reduceBEq, reduceCtorEq, false_implies, List.zip_cons_cons, List.zip_nil_left, List.zip_nil_right, Nat.reduceLeDiff, List.forall_mem_nil, rs_125, ty_3, ty_4, ty_9, ty_50, ty_54]
    · have k1 : decide ((i : Int) < (a.length : Int)) = false := decide_eq_false (by omega)
      obtain rfl : i = a.length := by omega
      have hne : decide (a = b) = true := decide_eq_true (getD_extM hab h8)
      rw [hne]
      simp only [runA, runB, runC, runD, runE, runF, fieldE, storeE, binE, ↓reduceIte, Nat.reduceLT, Nat.reduceLeDiff, Nat.reduceEqDiff, Nat.reduceAdd, Nat.reduceMul, Nat.reduceSub, reduceCtorEq, putAt, unE, Nat.reduceBEq, convE, buildE, List.replicate, Int.reduceLT, Int.reduceLE, Int.reduceToNat, mkE, mapSetE, hN, hF, ty_3, ty_4, ty_9, ty_50, ty_54, notIf, isEq, k1, trows_length]
      simp only [runB, finC, finD, Option.isSome_some, Option.isSome_none, ↓reduceIte, Nat.reduceEqDiff, Nat.reduceAdd, Nat.reduceMul, forall_eq_or_imp, forall_eq, implies_true, Nat.reduceBEq, reduceCtorEq, false_implies, List.zip_cons_cons, List.zip_nil_left, List.zip_nil_right, Nat.reduceLeDiff, List.forall_mem_nil, rs_125, ty_3, ty_4, ty_9, ty_50, ty_54]


variable {Γ : FuncId → Contract}

/-- A message. -/
structure Msg where
  kd : Int
  bk : Blk
  vo : Vt
  ct : Ct
  bs : List Vt
  ak : List UInt8
  tx : Txn
  deriving DecidableEq
def Msg.av (m : Msg) : AV := .agg [.c (.int .i64 m.kd), .c (.int .i64 m.bk.vw), .c (.int .i64 m.bk.ht), .c (.str m.bk.pa), .c (.int .i64 m.bk.ju.vw), .c (.int .i64 m.bk.ju.ht), .c (.str m.bk.ju.bl), .c (.sl (votes m.bk.ju.vs)), .c (.sl (trows m.bk.txs)), .c (.str m.bk.sig), .c (.int .i64 m.vo.kd), .c (.int .i64 m.vo.vw), .c (.int .i64 m.vo.ht), .c (.str m.vo.bl), .c (.int .i64 m.vo.tk), .c (.int .i64 m.vo.sg), .c (.str m.vo.sig), .c (.int .i64 m.ct.vw), .c (.int .i64 m.ct.ht), .c (.str m.ct.bl), .c (.sl (votes m.ct.vs)), .c (.sl (votes m.bs)), .c (.str m.ak), .c (.int .i64 m.tx.fr), .c (.int .i64 m.tx.to), .c (.int .i64 m.tx.am), .c (.int .i64 m.tx.no), .c (.str m.tx.sig)]
theorem Msg.av_inj {a b : Msg} (h : a.av = b.av) : a = b := by
  obtain ⟨a1, ⟨b1, b2, b3, ⟨c1, c2, c3, c4⟩, b5, b6⟩, ⟨v1, v2, v3, v4, v5, v6, v7⟩, ⟨d1, d2, d3, d4⟩, e1, e2, ⟨t1, t2, t3, t4, t5⟩⟩ := a
  obtain ⟨a1', ⟨b1', b2', b3', ⟨c1', c2', c3', c4'⟩, b5', b6'⟩, ⟨v1', v2', v3', v4', v5', v6', v7'⟩, ⟨d1', d2', d3', d4'⟩, e1', e2', ⟨t1', t2', t3', t4', t5'⟩⟩ := b
  simp only [Msg.av, AV.agg.injEq, List.cons.injEq, AV.c.injEq, PC.str.injEq, PC.int.injEq, PC.sl.injEq, votes_iff, trows_iff, true_and, and_true] at h
  obtain ⟨rfl, rfl, rfl, rfl, rfl, rfl, rfl, rfl, rfl, rfl, rfl, rfl, rfl, rfl, rfl, rfl, rfl, rfl, rfl, rfl, rfl, rfl, rfl, rfl, rfl, rfl, rfl, rfl⟩ := h
  rfl
theorem Msg.av_iff {a b : Msg} : a.av = b.av ↔ a = b := ⟨Msg.av_inj, fun h => by rw [h]⟩
def lnC (c : Ct) : Prop := c.vs.length ≤ 9223372036854775807
def lnB (b : Blk) : Prop := b.txs.length ≤ 9223372036854775807 ∧ b.ju.vs.length ≤ 9223372036854775807
def lnM (m : Msg) : Prop := lnB m.bk ∧ lnC m.ct ∧ m.bs.length ≤ 9223372036854775807
noncomputable def cmkC : Contract := mkC (α := Ct) (fun p => True) (fun p => [p.av]) (fun p => []) (fun p => ⟨[.pv (Mk.av ⟨p.vw, p.ht, p.bl⟩)], []⟩)
theorem cmk_at (cvw : Int) (cht : Int) (cbl : List UInt8) (cvs : List Vt) : cmkC [(.agg [.c (.int .i64 cvw), .c (.int .i64 cht), .c (.str cbl), .c (.sl (votes cvs))])] [] = some ⟨[.pv (Mk.av ⟨cvw, cht, cbl⟩)], []⟩ := by
  exact mkC_at (α := Ct) ⟨cvw, cht, cbl, cvs⟩ trivial (by
    rintro c' _ h ho
    have hh := And.intro h ho
    clear h ho
    simp only [List.cons.injEq, AV.c.injEq, AV.agg.injEq, PC.int.injEq, PC.str.injEq, PC.bool.injEq, PC.sl.injEq, OV.c.injEq, OV.own.injEq, OV.mp.injEq, bytes_iff, texts_iff, true_and, and_true, and_self, beq_self_eq_true, Ct.av_iff] at hh
    simp only [hh])

set_option maxRecDepth 100000 in
set_option maxHeartbeats 4000000 in
theorem cmk_sound  : SoundC Try.prog 159 cmkC := by
  refine sound_fn Try.func159 (by kernel_rfl) rfl rfl ?_
  intro args objs r0 hr
  obtain ⟨⟨a1, a2, a3, a4⟩, _, rfl, rfl, rfl⟩ := mkC_inv hr
  refine ⟨rfl, by show 1 ≤ _; decide, fun E hN hns hF => ?_⟩
  refine vc_sound none0_sound mixed _ _ _ ?_
  have hN := hN.trans nt_159
  unfold Ct.av Mk.av
  dsimp only
  simp only [runA, runB, runC, runD, runE, runF, fieldE, storeE, binE, ↓reduceIte, Nat.reduceLT, Nat.reduceLeDiff, Nat.reduceEqDiff, Nat.reduceAdd, Nat.reduceMul, Nat.reduceSub, reduceCtorEq, putAt, unE, Nat.reduceBEq, convE, buildE, List.replicate, Int.reduceLT, Int.reduceLE, Int.reduceToNat, mkE, mapSetE, hN, hF, ty_3, ty_9, ty_68, ty_70, ty_190, notIf, isEq]
  simp only [runB, finC, finD, Option.isSome_some, Option.isSome_none, ↓reduceIte, Nat.reduceEqDiff, Nat.reduceAdd, Nat.reduceMul, forall_eq_or_imp, forall_eq, implies_true, Nat.reduceBEq, reduceCtorEq, false_implies, List.zip_cons_cons, List.zip_nil_left, List.zip_nil_right, Nat.reduceLeDiff, List.forall_mem_nil, rs_159, ty_3, ty_9, ty_68, ty_70, ty_190]

noncomputable def scPC : Contract := mkC (α := Ct × Ct) (fun p => lnC p.1 ∧ lnC p.2) (fun p => [p.1.av, p.2.av]) (fun _ => []) (fun p => ⟨[.pv (.c (.bool (decide (p.1 = p.2))))], []⟩)
theorem scP_at (a b : Ct) (h : lnC a) (h' : lnC b) : scPC [.agg [.c (.int .i64 a.vw), .c (.int .i64 a.ht), .c (.str a.bl), .c (.sl (votes a.vs))], .agg [.c (.int .i64 b.vw), .c (.int .i64 b.ht), .c (.str b.bl), .c (.sl (votes b.vs))]] [] = some ⟨[.pv (.c (.bool (decide (a = b))))], []⟩ := mkC_at (α := Ct × Ct) (a, b) ⟨h, h'⟩ (by
  rintro ⟨a', b'⟩ _ h _
  have h : [a'.av, b'.av] = [a.av, b.av] := h
  simp only [List.cons.injEq, Ct.av_iff, and_true] at h
  obtain ⟨rfl, rfl⟩ := h
  rfl)

set_option maxRecDepth 100000 in
set_option maxHeartbeats 4000000 in
theorem scP_sound (hΓ : SoundG Try.prog Γ) (h1 : Γ 159 = cmkC) (h2 : Γ 144 = eqVC) : SoundC Try.prog 143 scPC := by
  refine sound_fn Try.func143 (by kernel_rfl) rfl rfl ?_
  intro args objs r0 hr
  obtain ⟨⟨⟨a1, a2, a3, a4⟩, ⟨b1, b2, b3, b4⟩⟩, ⟨hl, hl'⟩, rfl, rfl, rfl⟩ := mkC_inv hr
  refine ⟨rfl, by show 2 ≤ _; decide, fun E hN hns hF => ?_⟩
  refine vc_sound hΓ mixed _ _ _ ?_
  have hN := hN.trans nt_143
  have hl : a4.length ≤ 9223372036854775807 := hl
  have hl' : b4.length ≤ 9223372036854775807 := hl'
  have q2 := eqV_at a4 b4 hl hl'
  unfold Ct.av
  dsimp only
  have q0 := cmk_at a1 a2 a3 a4
  have q1 := cmk_at b1 b2 b3 b4
  have q3 := eqd_mk ⟨a1, a2, a3⟩ ⟨b1, b2, b3⟩
  unfold Mk.av at q0 q1
  dsimp only at q0 q1 q3
  have hE : decide ((⟨a1, a2, a3, a4⟩ : Ct) = ⟨b1, b2, b3, b4⟩) = (decide ((⟨a1, a2, a3⟩ : Mk) = ⟨b1, b2, b3⟩) && decide (a4 = b4)) := by
    rw [Bool.eq_iff_iff, Bool.and_eq_true, decide_eq_true_iff, decide_eq_true_iff, decide_eq_true_iff, Ct.mk.injEq, Mk.mk.injEq]
    exact ⟨fun ⟨x, y, z, u⟩ => ⟨⟨x, y, z⟩, u⟩, fun ⟨⟨x, y, z⟩, u⟩ => ⟨x, y, z, u⟩⟩
  rw [hE]
  generalize decide ((⟨a1, a2, a3⟩ : Mk) = ⟨b1, b2, b3⟩) = d1 at q3 ⊢
  generalize decide (a4 = b4) = d2 at q2 ⊢
  cases d1
  all_goals
    simp only [runA, runB, runC, runD, runE, runF, fieldE, storeE, binE, ↓reduceIte, Nat.reduceLT, Nat.reduceLeDiff, Nat.reduceEqDiff, Nat.reduceAdd, Nat.reduceMul, Nat.reduceSub, reduceCtorEq, putAt, unE, Nat.reduceBEq, convE, buildE, List.replicate, Int.reduceLT, Int.reduceLE, Int.reduceToNat, mkE, mapSetE, hN, hF, ty_3, ty_4, ty_9, ty_68, ty_70, ty_74, ty_190, notIf, isEq, h1, h2, q0, q1, q2, q3, eqg_mk, Bool.true_and, Bool.false_and]
    iterate 3 (try (refine drawnP_intro (by kernel_rfl) (by kernel_rfl) ?_; simp only [runA, runB, runC, runD, runE, runF, fieldE, storeE, binE, ↓reduceIte, Nat.reduceLT, Nat.reduceLeDiff, Nat.reduceEqDiff, Nat.reduceAdd, Nat.reduceMul, Nat.reduceSub, reduceCtorEq, putAt, unE, Nat.reduceBEq, convE, buildE, List.replicate, Int.reduceLT, Int.reduceLE, Int.reduceToNat, mkE, mapSetE, hN, hF, ty_3, ty_4, ty_9, ty_68, ty_70, ty_74, ty_190, notIf, isEq, h1, h2, q0, q1, q2, q3, eqg_mk, Bool.true_and, Bool.false_and]))
    simp only [runB, finC, finD, Option.isSome_some, Option.isSome_none, ↓reduceIte, Nat.reduceEqDiff, Nat.reduceAdd, Nat.reduceMul, forall_eq_or_imp, forall_eq, implies_true, Nat.reduceBEq, reduceCtorEq, false_implies, List.zip_cons_cons, List.zip_nil_left, List.zip_nil_right, Nat.reduceLeDiff, List.forall_mem_nil, rs_143, ty_3, ty_4, ty_9, ty_68, ty_70, ty_74, ty_190, Bool.true_and, Bool.false_and]
noncomputable def scRC : Contract := mkC (α := Ct × Ct) (fun p => lnC p.1 ∧ lnC p.2) (fun p => [p.1.av, p.2.av]) (fun _ => []) (fun p => ⟨[.pv (.c (.bool (decide (p.1 = p.2))))], []⟩)
theorem scR_at (a b : Ct) (h : lnC a) (h' : lnC b) : scRC [.agg [.c (.int .i64 a.vw), .c (.int .i64 a.ht), .c (.str a.bl), .c (.sl (votes a.vs))], .agg [.c (.int .i64 b.vw), .c (.int .i64 b.ht), .c (.str b.bl), .c (.sl (votes b.vs))]] [] = some ⟨[.pv (.c (.bool (decide (a = b))))], []⟩ := mkC_at (α := Ct × Ct) (a, b) ⟨h, h'⟩ (by
  rintro ⟨a', b'⟩ _ h _
  have h : [a'.av, b'.av] = [a.av, b.av] := h
  simp only [List.cons.injEq, Ct.av_iff, and_true] at h
  obtain ⟨rfl, rfl⟩ := h
  rfl)

set_option maxRecDepth 100000 in
set_option maxHeartbeats 4000000 in
theorem scR_sound (hΓ : SoundG Try.prog Γ) (h2 : Γ 89 = smVC) : SoundC Try.prog 88 scRC := by
  refine sound_fn Try.func88 (by kernel_rfl) rfl rfl ?_
  intro args objs r0 hr
  obtain ⟨⟨⟨a1, a2, a3, a4⟩, ⟨b1, b2, b3, b4⟩⟩, ⟨hl, hl'⟩, rfl, rfl, rfl⟩ := mkC_inv hr
  refine ⟨rfl, by show 2 ≤ _; decide, fun E hN hns hF => ?_⟩
  refine vc_sound hΓ mixed _ _ _ ?_
  have hN := hN.trans nt_88
  have hl : a4.length ≤ 9223372036854775807 := hl
  have hl' : b4.length ≤ 9223372036854775807 := hl'
  have q2 := smV_at a4 b4 hl hl'
  unfold Ct.av
  dsimp only
  have hE : decide ((⟨a1, a2, a3, a4⟩ : Ct) = ⟨b1, b2, b3, b4⟩) = ((a1 == b1) && ((a2 == b2) && ((a3 == b3) && decide (a4 = b4)))) := by
    rw [Bool.eq_iff_iff]
    simp only [Bool.and_eq_true, decide_eq_true_iff, Ct.mk.injEq, beq_iff_eq]
  rw [hE]
  generalize decide (a4 = b4) = d4 at q2 ⊢
  generalize hb1 : (a1 == b1) = d1
  generalize hb2 : (a2 == b2) = d2
  generalize hb3 : (a3 == b3) = d3
  cases d1 <;> cases d2 <;> cases d3
  all_goals
    simp only [runA, runB, runC, runD, runE, runF, fieldE, storeE, binE, ↓reduceIte, Nat.reduceLT, Nat.reduceLeDiff, Nat.reduceEqDiff, Nat.reduceAdd, Nat.reduceMul, Nat.reduceSub, reduceCtorEq, putAt, unE, Nat.reduceBEq, convE, buildE, List.replicate, Int.reduceLT, Int.reduceLE, Int.reduceToNat, mkE, mapSetE, hN, hF, ty_3, ty_4, ty_9, ty_68, ty_70, ty_74, notIf, isEq, hb1, hb2, hb3, h2, q2, Bool.true_and, Bool.false_and]
    iterate 3 (try (refine drawnP_intro (by kernel_rfl) (by kernel_rfl) ?_; simp only [runA, runB, runC, runD, runE, runF, fieldE, storeE, binE, ↓reduceIte, Nat.reduceLT, Nat.reduceLeDiff, Nat.reduceEqDiff, Nat.reduceAdd, Nat.reduceMul, Nat.reduceSub, reduceCtorEq, putAt, unE, Nat.reduceBEq, convE, buildE, List.replicate, Int.reduceLT, Int.reduceLE, Int.reduceToNat, mkE, mapSetE, hN, hF, ty_3, ty_4, ty_9, ty_68, ty_70, ty_74, notIf, isEq, hb1, hb2, hb3, h2, q2, Bool.true_and, Bool.false_and]))
    simp only [runB, finC, finD, Option.isSome_some, Option.isSome_none, ↓reduceIte, Nat.reduceEqDiff, Nat.reduceAdd, Nat.reduceMul, forall_eq_or_imp, forall_eq, implies_true, Nat.reduceBEq, reduceCtorEq, false_implies, List.zip_cons_cons, List.zip_nil_left, List.zip_nil_right, Nat.reduceLeDiff, List.forall_mem_nil, rs_88, ty_3, ty_4, ty_9, ty_68, ty_70, ty_74, Bool.true_and, Bool.false_and]
noncomputable def sbPC : Contract := mkC (α := Blk × Blk) (fun p => lnB p.1 ∧ lnB p.2) (fun p => [p.1.av, p.2.av]) (fun _ => []) (fun p => ⟨[.pv (.c (.bool (decide (p.1 = p.2))))], []⟩)
theorem sbP_at (a b : Blk) (h : lnB a) (h' : lnB b) : sbPC [.agg [.c (.int .i64 a.vw), .c (.int .i64 a.ht), .c (.str a.pa), .c (.int .i64 a.ju.vw), .c (.int .i64 a.ju.ht), .c (.str a.ju.bl), .c (.sl (votes a.ju.vs)), .c (.sl (trows a.txs)), .c (.str a.sig)], .agg [.c (.int .i64 b.vw), .c (.int .i64 b.ht), .c (.str b.pa), .c (.int .i64 b.ju.vw), .c (.int .i64 b.ju.ht), .c (.str b.ju.bl), .c (.sl (votes b.ju.vs)), .c (.sl (trows b.txs)), .c (.str b.sig)]] [] = some ⟨[.pv (.c (.bool (decide (a = b))))], []⟩ := mkC_at (α := Blk × Blk) (a, b) ⟨h, h'⟩ (by
  rintro ⟨a', b'⟩ _ h _
  have h : [a'.av, b'.av] = [a.av, b.av] := h
  simp only [List.cons.injEq, Blk.av_iff, and_true] at h
  obtain ⟨rfl, rfl⟩ := h
  rfl)

set_option maxRecDepth 100000 in
set_option maxHeartbeats 4000000 in
theorem sbP_sound (hΓ : SoundG Try.prog Γ) (h1 : Γ 158 = eqTC) (h2 : Γ 143 = scPC) : SoundC Try.prog 142 sbPC := by
  refine sound_fn Try.func142 (by kernel_rfl) rfl rfl ?_
  intro args objs r0 hr
  obtain ⟨⟨⟨a1, a2, a3, ⟨c1, c2, c3, c4⟩, a5, a6⟩, ⟨b1, b2, b3, ⟨d1, d2, d3, d4⟩, b5, b6⟩⟩, ⟨⟨hl, hj⟩, ⟨hl', hj'⟩⟩, rfl, rfl, rfl⟩ := mkC_inv hr
  refine ⟨rfl, by show 2 ≤ _; decide, fun E hN hns hF => ?_⟩
  refine vc_sound hΓ mixed _ _ _ ?_
  have hN := hN.trans nt_142
  have q1 := eqT_at a5 b5 hl hl'
  have q2 := scP_at ⟨c1, c2, c3, c4⟩ ⟨d1, d2, d3, d4⟩ hj hj'
  unfold Blk.av
  dsimp only at q2 ⊢
  have hE : decide ((⟨a1, a2, a3, ⟨c1, c2, c3, c4⟩, a5, a6⟩ : Blk) = ⟨b1, b2, b3, ⟨d1, d2, d3, d4⟩, b5, b6⟩) = ((a1 == b1) && ((a2 == b2) && ((a3 == b3) && ((a6 == b6) && (decide (a5 = b5) && decide ((⟨c1, c2, c3, c4⟩ : Ct) = ⟨d1, d2, d3, d4⟩)))))) := by
    rw [Bool.eq_iff_iff]
    simp only [Bool.and_eq_true, decide_eq_true_iff, Blk.mk.injEq, beq_iff_eq]
    exact ⟨fun ⟨x, y, z, u, v, w⟩ => ⟨x, y, z, w, v, u⟩, fun ⟨x, y, z, u, v, w⟩ => ⟨x, y, z, w, v, u⟩⟩
  rw [hE]
  generalize decide (a5 = b5) = e5 at q1 ⊢
  generalize decide ((⟨c1, c2, c3, c4⟩ : Ct) = ⟨d1, d2, d3, d4⟩) = e6 at q2 ⊢
  generalize hb1 : (a1 == b1) = e1
  generalize hb2 : (a2 == b2) = e2
  generalize hb3 : (a3 == b3) = e3
  generalize hb4 : (a6 == b6) = e4
  clear hE
  cases e1
  case false => (simp only [runA, runB, runC, runD, runE, runF, fieldE, storeE, binE, ↓reduceIte, Nat.reduceLT, Nat.reduceLeDiff, Nat.reduceEqDiff, Nat.reduceAdd, Nat.reduceMul, Nat.reduceSub, reduceCtorEq, putAt, unE, Nat.reduceBEq, convE, buildE, List.replicate, Int.reduceLT, Int.reduceLE, Int.reduceToNat, mkE, mapSetE, hN, hF, ty_3, ty_4, ty_9, ty_50, ty_54, ty_68, ty_70, ty_72, notIf, isEq, hb1, hb2, hb3, hb4, h1, h2, q1, q2, Bool.true_and, Bool.false_and]; (iterate 3 (try (refine drawnP_intro (by kernel_rfl) (by kernel_rfl) ?_; simp only [runA, runB, runC, runD, runE, runF, fieldE, storeE, binE, ↓reduceIte, Nat.reduceLT, Nat.reduceLeDiff, Nat.reduceEqDiff, Nat.reduceAdd, Nat.reduceMul, Nat.reduceSub, reduceCtorEq, putAt, unE, Nat.reduceBEq, convE, buildE, List.replicate, Int.reduceLT, Int.reduceLE, Int.reduceToNat, mkE, mapSetE, hN, hF, ty_3, ty_4, ty_9, ty_50, ty_54, ty_68, ty_70, ty_72, notIf, isEq, hb1, hb2, hb3, hb4, h1, h2, q1, q2, Bool.true_and, Bool.false_and]))); (simp only [runB, finC, finD, Option.isSome_some, Option.isSome_none, ↓reduceIte, Nat.reduceEqDiff, Nat.reduceAdd, Nat.reduceMul, forall_eq_or_imp, forall_eq, implies_true, Nat.reduceBEq, reduceCtorEq, false_implies, List.zip_cons_cons, List.zip_nil_left, List.zip_nil_right, Nat.reduceLeDiff, List.forall_mem_nil, rs_142, ty_3, ty_4, ty_9, ty_50, ty_54, ty_68, ty_70, ty_72, Bool.true_and, Bool.false_and]))
  cases e2
  case false => (simp only [runA, runB, runC, runD, runE, runF, fieldE, storeE, binE, ↓reduceIte, Nat.reduceLT, Nat.reduceLeDiff, Nat.reduceEqDiff, Nat.reduceAdd, Nat.reduceMul, Nat.reduceSub, reduceCtorEq, putAt, unE, Nat.reduceBEq, convE, buildE, List.replicate, Int.reduceLT, Int.reduceLE, Int.reduceToNat, mkE, mapSetE, hN, hF, ty_3, ty_4, ty_9, ty_50, ty_54, ty_68, ty_70, ty_72, notIf, isEq, hb1, hb2, hb3, hb4, h1, h2, q1, q2, Bool.true_and, Bool.false_and]; (iterate 3 (try (refine drawnP_intro (by kernel_rfl) (by kernel_rfl) ?_; simp only [runA, runB, runC, runD, runE, runF, fieldE, storeE, binE, ↓reduceIte, Nat.reduceLT, Nat.reduceLeDiff, Nat.reduceEqDiff, Nat.reduceAdd, Nat.reduceMul, Nat.reduceSub, reduceCtorEq, putAt, unE, Nat.reduceBEq, convE, buildE, List.replicate, Int.reduceLT, Int.reduceLE, Int.reduceToNat, mkE, mapSetE, hN, hF, ty_3, ty_4, ty_9, ty_50, ty_54, ty_68, ty_70, ty_72, notIf, isEq, hb1, hb2, hb3, hb4, h1, h2, q1, q2, Bool.true_and, Bool.false_and]))); (simp only [runB, finC, finD, Option.isSome_some, Option.isSome_none, ↓reduceIte, Nat.reduceEqDiff, Nat.reduceAdd, Nat.reduceMul, forall_eq_or_imp, forall_eq, implies_true, Nat.reduceBEq, reduceCtorEq, false_implies, List.zip_cons_cons, List.zip_nil_left, List.zip_nil_right, Nat.reduceLeDiff, List.forall_mem_nil, rs_142, ty_3, ty_4, ty_9, ty_50, ty_54, ty_68, ty_70, ty_72, Bool.true_and, Bool.false_and]))
  cases e3
  case false => (simp only [runA, runB, runC, runD, runE, runF, fieldE, storeE, binE, ↓reduceIte, Nat.reduceLT, Nat.reduceLeDiff, Nat.reduceEqDiff, Nat.reduceAdd, Nat.reduceMul, Nat.reduceSub, reduceCtorEq, putAt, unE, Nat.reduceBEq, convE, buildE, List.replicate, Int.reduceLT, Int.reduceLE, Int.reduceToNat, mkE, mapSetE, hN, hF, ty_3, ty_4, ty_9, ty_50, ty_54, ty_68, ty_70, ty_72, notIf, isEq, hb1, hb2, hb3, hb4, h1, h2, q1, q2, Bool.true_and, Bool.false_and]; (iterate 3 (try (refine drawnP_intro (by kernel_rfl) (by kernel_rfl) ?_; simp only [runA, runB, runC, runD, runE, runF, fieldE, storeE, binE, ↓reduceIte, Nat.reduceLT, Nat.reduceLeDiff, Nat.reduceEqDiff, Nat.reduceAdd, Nat.reduceMul, Nat.reduceSub, reduceCtorEq, putAt, unE, Nat.reduceBEq, convE, buildE, List.replicate, Int.reduceLT, Int.reduceLE, Int.reduceToNat, mkE, mapSetE, hN, hF, ty_3, ty_4, ty_9, ty_50, ty_54, ty_68, ty_70, ty_72, notIf, isEq, hb1, hb2, hb3, hb4, h1, h2, q1, q2, Bool.true_and, Bool.false_and]))); (simp only [runB, finC, finD, Option.isSome_some, Option.isSome_none, ↓reduceIte, Nat.reduceEqDiff, Nat.reduceAdd, Nat.reduceMul, forall_eq_or_imp, forall_eq, implies_true, Nat.reduceBEq, reduceCtorEq, false_implies, List.zip_cons_cons, List.zip_nil_left, List.zip_nil_right, Nat.reduceLeDiff, List.forall_mem_nil, rs_142, ty_3, ty_4, ty_9, ty_50, ty_54, ty_68, ty_70, ty_72, Bool.true_and, Bool.false_and]))
  cases e4
  case false => (simp only [runA, runB, runC, runD, runE, runF, fieldE, storeE, binE, ↓reduceIte, Nat.reduceLT, Nat.reduceLeDiff, Nat.reduceEqDiff, Nat.reduceAdd, Nat.reduceMul, Nat.reduceSub, reduceCtorEq, putAt, unE, Nat.reduceBEq, convE, buildE, List.replicate, Int.reduceLT, Int.reduceLE, Int.reduceToNat, mkE, mapSetE, hN, hF, ty_3, ty_4, ty_9, ty_50, ty_54, ty_68, ty_70, ty_72, notIf, isEq, hb1, hb2, hb3, hb4, h1, h2, q1, q2, Bool.true_and, Bool.false_and]; (iterate 3 (try (refine drawnP_intro (by kernel_rfl) (by kernel_rfl) ?_; simp only [runA, runB, runC, runD, runE, runF, fieldE, storeE, binE, ↓reduceIte, Nat.reduceLT, Nat.reduceLeDiff, Nat.reduceEqDiff, Nat.reduceAdd, Nat.reduceMul, Nat.reduceSub, reduceCtorEq, putAt, unE, Nat.reduceBEq, convE, buildE, List.replicate, Int.reduceLT, Int.reduceLE, Int.reduceToNat, mkE, mapSetE, hN, hF, ty_3, ty_4, ty_9, ty_50, ty_54, ty_68, ty_70, ty_72, notIf, isEq, hb1, hb2, hb3, hb4, h1, h2, q1, q2, Bool.true_and, Bool.false_and]))); (simp only [runB, finC, finD, Option.isSome_some, Option.isSome_none, ↓reduceIte, Nat.reduceEqDiff, Nat.reduceAdd, Nat.reduceMul, forall_eq_or_imp, forall_eq, implies_true, Nat.reduceBEq, reduceCtorEq, false_implies, List.zip_cons_cons, List.zip_nil_left, List.zip_nil_right, Nat.reduceLeDiff, List.forall_mem_nil, rs_142, ty_3, ty_4, ty_9, ty_50, ty_54, ty_68, ty_70, ty_72, Bool.true_and, Bool.false_and]))
  cases e5
  case false => (simp only [runA, runB, runC, runD, runE, runF, fieldE, storeE, binE, ↓reduceIte, Nat.reduceLT, Nat.reduceLeDiff, Nat.reduceEqDiff, Nat.reduceAdd, Nat.reduceMul, Nat.reduceSub, reduceCtorEq, putAt, unE, Nat.reduceBEq, convE, buildE, List.replicate, Int.reduceLT, Int.reduceLE, Int.reduceToNat, mkE, mapSetE, hN, hF, ty_3, ty_4, ty_9, ty_50, ty_54, ty_68, ty_70, ty_72, notIf, isEq, hb1, hb2, hb3, hb4, h1, h2, q1, q2, Bool.true_and, Bool.false_and]; (iterate 3 (try (refine drawnP_intro (by kernel_rfl) (by kernel_rfl) ?_; simp only [runA, runB, runC, runD, runE, runF, fieldE, storeE, binE, ↓reduceIte, Nat.reduceLT, Nat.reduceLeDiff, Nat.reduceEqDiff, Nat.reduceAdd, Nat.reduceMul, Nat.reduceSub, reduceCtorEq, putAt, unE, Nat.reduceBEq, convE, buildE, List.replicate, Int.reduceLT, Int.reduceLE, Int.reduceToNat, mkE, mapSetE, hN, hF, ty_3, ty_4, ty_9, ty_50, ty_54, ty_68, ty_70, ty_72, notIf, isEq, hb1, hb2, hb3, hb4, h1, h2, q1, q2, Bool.true_and, Bool.false_and]))); (simp only [runB, finC, finD, Option.isSome_some, Option.isSome_none, ↓reduceIte, Nat.reduceEqDiff, Nat.reduceAdd, Nat.reduceMul, forall_eq_or_imp, forall_eq, implies_true, Nat.reduceBEq, reduceCtorEq, false_implies, List.zip_cons_cons, List.zip_nil_left, List.zip_nil_right, Nat.reduceLeDiff, List.forall_mem_nil, rs_142, ty_3, ty_4, ty_9, ty_50, ty_54, ty_68, ty_70, ty_72, Bool.true_and, Bool.false_and]))
  (simp only [runA, runB, runC, runD, runE, runF, fieldE, storeE, binE, ↓reduceIte, Nat.reduceLT, Nat.reduceLeDiff, Nat.reduceEqDiff, Nat.reduceAdd, Nat.reduceMul, Nat.reduceSub, reduceCtorEq, putAt, unE, Nat.reduceBEq, convE, buildE, List.replicate, Int.reduceLT, Int.reduceLE, Int.reduceToNat, mkE, mapSetE, hN, hF, ty_3, ty_4, ty_9, ty_50, ty_54, ty_68, ty_70, ty_72, notIf, isEq, hb1, hb2, hb3, hb4, h1, h2, q1, q2, Bool.true_and, Bool.false_and]; (iterate 3 (try (refine drawnP_intro (by kernel_rfl) (by kernel_rfl) ?_; simp only [runA, runB, runC, runD, runE, runF, fieldE, storeE, binE, ↓reduceIte, Nat.reduceLT, Nat.reduceLeDiff, Nat.reduceEqDiff, Nat.reduceAdd, Nat.reduceMul, Nat.reduceSub, reduceCtorEq, putAt, unE, Nat.reduceBEq, convE, buildE, List.replicate, Int.reduceLT, Int.reduceLE, Int.reduceToNat, mkE, mapSetE, hN, hF, ty_3, ty_4, ty_9, ty_50, ty_54, ty_68, ty_70, ty_72, notIf, isEq, hb1, hb2, hb3, hb4, h1, h2, q1, q2, Bool.true_and, Bool.false_and]))); (simp only [runB, finC, finD, Option.isSome_some, Option.isSome_none, ↓reduceIte, Nat.reduceEqDiff, Nat.reduceAdd, Nat.reduceMul, forall_eq_or_imp, forall_eq, implies_true, Nat.reduceBEq, reduceCtorEq, false_implies, List.zip_cons_cons, List.zip_nil_left, List.zip_nil_right, Nat.reduceLeDiff, List.forall_mem_nil, rs_142, ty_3, ty_4, ty_9, ty_50, ty_54, ty_68, ty_70, ty_72, Bool.true_and, Bool.false_and]))
noncomputable def sbRC : Contract := mkC (α := Blk × Blk) (fun p => lnB p.1 ∧ lnB p.2) (fun p => [p.1.av, p.2.av]) (fun _ => []) (fun p => ⟨[.pv (.c (.bool (decide (p.1 = p.2))))], []⟩)
theorem sbR_at (a b : Blk) (h : lnB a) (h' : lnB b) : sbRC [.agg [.c (.int .i64 a.vw), .c (.int .i64 a.ht), .c (.str a.pa), .c (.int .i64 a.ju.vw), .c (.int .i64 a.ju.ht), .c (.str a.ju.bl), .c (.sl (votes a.ju.vs)), .c (.sl (trows a.txs)), .c (.str a.sig)], .agg [.c (.int .i64 b.vw), .c (.int .i64 b.ht), .c (.str b.pa), .c (.int .i64 b.ju.vw), .c (.int .i64 b.ju.ht), .c (.str b.ju.bl), .c (.sl (votes b.ju.vs)), .c (.sl (trows b.txs)), .c (.str b.sig)]] [] = some ⟨[.pv (.c (.bool (decide (a = b))))], []⟩ := mkC_at (α := Blk × Blk) (a, b) ⟨h, h'⟩ (by
  rintro ⟨a', b'⟩ _ h _
  have h : [a'.av, b'.av] = [a.av, b.av] := h
  simp only [List.cons.injEq, Blk.av_iff, and_true] at h
  obtain ⟨rfl, rfl⟩ := h
  rfl)

set_option maxRecDepth 100000 in
set_option maxHeartbeats 4000000 in
theorem sbR_sound (hΓ : SoundG Try.prog Γ) (h1 : Γ 125 = smTC) (h2 : Γ 88 = scRC) : SoundC Try.prog 87 sbRC := by
  refine sound_fn Try.func87 (by kernel_rfl) rfl rfl ?_
  intro args objs r0 hr
  obtain ⟨⟨⟨a1, a2, a3, ⟨c1, c2, c3, c4⟩, a5, a6⟩, ⟨b1, b2, b3, ⟨d1, d2, d3, d4⟩, b5, b6⟩⟩, ⟨⟨hl, hj⟩, ⟨hl', hj'⟩⟩, rfl, rfl, rfl⟩ := mkC_inv hr
  refine ⟨rfl, by show 2 ≤ _; decide, fun E hN hns hF => ?_⟩
  refine vc_sound hΓ mixed _ _ _ ?_
  have hN := hN.trans nt_87
  have q1 := smT_at a5 b5 hl hl'
  have q2 := scR_at ⟨c1, c2, c3, c4⟩ ⟨d1, d2, d3, d4⟩ hj hj'
  unfold Blk.av
  dsimp only at q2 ⊢
  have hE : decide ((⟨a1, a2, a3, ⟨c1, c2, c3, c4⟩, a5, a6⟩ : Blk) = ⟨b1, b2, b3, ⟨d1, d2, d3, d4⟩, b5, b6⟩) = ((a1 == b1) && ((a2 == b2) && ((a3 == b3) && ((a6 == b6) && (decide (a5 = b5) && decide ((⟨c1, c2, c3, c4⟩ : Ct) = ⟨d1, d2, d3, d4⟩)))))) := by
    rw [Bool.eq_iff_iff]
    simp only [Bool.and_eq_true, decide_eq_true_iff, Blk.mk.injEq, beq_iff_eq]
    exact ⟨fun ⟨x, y, z, u, v, w⟩ => ⟨x, y, z, w, v, u⟩, fun ⟨x, y, z, u, v, w⟩ => ⟨x, y, z, w, v, u⟩⟩
  rw [hE]
  generalize decide (a5 = b5) = e5 at q1 ⊢
  generalize decide ((⟨c1, c2, c3, c4⟩ : Ct) = ⟨d1, d2, d3, d4⟩) = e6 at q2 ⊢
  generalize hb1 : (a1 == b1) = e1
  generalize hb2 : (a2 == b2) = e2
  generalize hb3 : (a3 == b3) = e3
  generalize hb4 : (a6 == b6) = e4
  clear hE
  cases e1
  case false => (simp only [runA, runB, runC, runD, runE, runF, fieldE, storeE, binE, ↓reduceIte, Nat.reduceLT, Nat.reduceLeDiff, Nat.reduceEqDiff, Nat.reduceAdd, Nat.reduceMul, Nat.reduceSub, reduceCtorEq, putAt, unE, Nat.reduceBEq, convE, buildE, List.replicate, Int.reduceLT, Int.reduceLE, Int.reduceToNat, mkE, mapSetE, hN, hF, ty_3, ty_4, ty_9, ty_50, ty_54, ty_68, ty_70, ty_72, notIf, isEq, hb1, hb2, hb3, hb4, h1, h2, q1, q2, Bool.true_and, Bool.false_and]; (iterate 3 (try (refine drawnP_intro (by kernel_rfl) (by kernel_rfl) ?_; simp only [runA, runB, runC, runD, runE, runF, fieldE, storeE, binE, ↓reduceIte, Nat.reduceLT, Nat.reduceLeDiff, Nat.reduceEqDiff, Nat.reduceAdd, Nat.reduceMul, Nat.reduceSub, reduceCtorEq, putAt, unE, Nat.reduceBEq, convE, buildE, List.replicate, Int.reduceLT, Int.reduceLE, Int.reduceToNat, mkE, mapSetE, hN, hF, ty_3, ty_4, ty_9, ty_50, ty_54, ty_68, ty_70, ty_72, notIf, isEq, hb1, hb2, hb3, hb4, h1, h2, q1, q2, Bool.true_and, Bool.false_and]))); (simp only [runB, finC, finD, Option.isSome_some, Option.isSome_none, ↓reduceIte, Nat.reduceEqDiff, Nat.reduceAdd, Nat.reduceMul, forall_eq_or_imp, forall_eq, implies_true, Nat.reduceBEq, reduceCtorEq, false_implies, List.zip_cons_cons, List.zip_nil_left, List.zip_nil_right, Nat.reduceLeDiff, List.forall_mem_nil, rs_87, ty_3, ty_4, ty_9, ty_50, ty_54, ty_68, ty_70, ty_72, Bool.true_and, Bool.false_and]))
  cases e2
  case false => (simp only [runA, runB, runC, runD, runE, runF, fieldE, storeE, binE, ↓reduceIte, Nat.reduceLT, Nat.reduceLeDiff, Nat.reduceEqDiff, Nat.reduceAdd, Nat.reduceMul, Nat.reduceSub, reduceCtorEq, putAt, unE, Nat.reduceBEq, convE, buildE, List.replicate, Int.reduceLT, Int.reduceLE, Int.reduceToNat, mkE, mapSetE, hN, hF, ty_3, ty_4, ty_9, ty_50, ty_54, ty_68, ty_70, ty_72, notIf, isEq, hb1, hb2, hb3, hb4, h1, h2, q1, q2, Bool.true_and, Bool.false_and]; (iterate 3 (try (refine drawnP_intro (by kernel_rfl) (by kernel_rfl) ?_; simp only [runA, runB, runC, runD, runE, runF, fieldE, storeE, binE, ↓reduceIte, Nat.reduceLT, Nat.reduceLeDiff, Nat.reduceEqDiff, Nat.reduceAdd, Nat.reduceMul, Nat.reduceSub, reduceCtorEq, putAt, unE, Nat.reduceBEq, convE, buildE, List.replicate, Int.reduceLT, Int.reduceLE, Int.reduceToNat, mkE, mapSetE, hN, hF, ty_3, ty_4, ty_9, ty_50, ty_54, ty_68, ty_70, ty_72, notIf, isEq, hb1, hb2, hb3, hb4, h1, h2, q1, q2, Bool.true_and, Bool.false_and]))); (simp only [runB, finC, finD, Option.isSome_some, Option.isSome_none, ↓reduceIte, Nat.reduceEqDiff, Nat.reduceAdd, Nat.reduceMul, forall_eq_or_imp, forall_eq, implies_true, Nat.reduceBEq, reduceCtorEq, false_implies, List.zip_cons_cons, List.zip_nil_left, List.zip_nil_right, Nat.reduceLeDiff, List.forall_mem_nil, rs_87, ty_3, ty_4, ty_9, ty_50, ty_54, ty_68, ty_70, ty_72, Bool.true_and, Bool.false_and]))
  cases e3
  case false => (simp only [runA, runB, runC, runD, runE, runF, fieldE, storeE, binE, ↓reduceIte, Nat.reduceLT, Nat.reduceLeDiff, Nat.reduceEqDiff, Nat.reduceAdd, Nat.reduceMul, Nat.reduceSub, reduceCtorEq, putAt, unE, Nat.reduceBEq, convE, buildE, List.replicate, Int.reduceLT, Int.reduceLE, Int.reduceToNat, mkE, mapSetE, hN, hF, ty_3, ty_4, ty_9, ty_50, ty_54, ty_68, ty_70, ty_72, notIf, isEq, hb1, hb2, hb3, hb4, h1, h2, q1, q2, Bool.true_and, Bool.false_and]; (iterate 3 (try (refine drawnP_intro (by kernel_rfl) (by kernel_rfl) ?_; simp only [runA, runB, runC, runD, runE, runF, fieldE, storeE, binE, ↓reduceIte, Nat.reduceLT, Nat.reduceLeDiff, Nat.reduceEqDiff, Nat.reduceAdd, Nat.reduceMul, Nat.reduceSub, reduceCtorEq, putAt, unE, Nat.reduceBEq, convE, buildE, List.replicate, Int.reduceLT, Int.reduceLE, Int.reduceToNat, mkE, mapSetE, hN, hF, ty_3, ty_4, ty_9, ty_50, ty_54, ty_68, ty_70, ty_72, notIf, isEq, hb1, hb2, hb3, hb4, h1, h2, q1, q2, Bool.true_and, Bool.false_and]))); (simp only [runB, finC, finD, Option.isSome_some, Option.isSome_none, ↓reduceIte, Nat.reduceEqDiff, Nat.reduceAdd, Nat.reduceMul, forall_eq_or_imp, forall_eq, implies_true, Nat.reduceBEq, reduceCtorEq, false_implies, List.zip_cons_cons, List.zip_nil_left, List.zip_nil_right, Nat.reduceLeDiff, List.forall_mem_nil, rs_87, ty_3, ty_4, ty_9, ty_50, ty_54, ty_68, ty_70, ty_72, Bool.true_and, Bool.false_and]))
  cases e4
  case false => (simp only [runA, runB, runC, runD, runE, runF, fieldE, storeE, binE, ↓reduceIte, Nat.reduceLT, Nat.reduceLeDiff, Nat.reduceEqDiff, Nat.reduceAdd, Nat.reduceMul, Nat.reduceSub, reduceCtorEq, putAt, unE, Nat.reduceBEq, convE, buildE, List.replicate, Int.reduceLT, Int.reduceLE, Int.reduceToNat, mkE, mapSetE, hN, hF, ty_3, ty_4, ty_9, ty_50, ty_54, ty_68, ty_70, ty_72, notIf, isEq, hb1, hb2, hb3, hb4, h1, h2, q1, q2, Bool.true_and, Bool.false_and]; (iterate 3 (try (refine drawnP_intro (by kernel_rfl) (by kernel_rfl) ?_; simp only [runA, runB, runC, runD, runE, runF, fieldE, storeE, binE, ↓reduceIte, Nat.reduceLT, Nat.reduceLeDiff, Nat.reduceEqDiff, Nat.reduceAdd, Nat.reduceMul, Nat.reduceSub, reduceCtorEq, putAt, unE, Nat.reduceBEq, convE, buildE, List.replicate, Int.reduceLT, Int.reduceLE, Int.reduceToNat, mkE, mapSetE, hN, hF, ty_3, ty_4, ty_9, ty_50, ty_54, ty_68, ty_70, ty_72, notIf, isEq, hb1, hb2, hb3, hb4, h1, h2, q1, q2, Bool.true_and, Bool.false_and]))); (simp only [runB, finC, finD, Option.isSome_some, Option.isSome_none, ↓reduceIte, Nat.reduceEqDiff, Nat.reduceAdd, Nat.reduceMul, forall_eq_or_imp, forall_eq, implies_true, Nat.reduceBEq, reduceCtorEq, false_implies, List.zip_cons_cons, List.zip_nil_left, List.zip_nil_right, Nat.reduceLeDiff, List.forall_mem_nil, rs_87, ty_3, ty_4, ty_9, ty_50, ty_54, ty_68, ty_70, ty_72, Bool.true_and, Bool.false_and]))
  cases e5
  case false => (simp only [runA, runB, runC, runD, runE, runF, fieldE, storeE, binE, ↓reduceIte, Nat.reduceLT, Nat.reduceLeDiff, Nat.reduceEqDiff, Nat.reduceAdd, Nat.reduceMul, Nat.reduceSub, reduceCtorEq, putAt, unE, Nat.reduceBEq, convE, buildE, List.replicate, Int.reduceLT, Int.reduceLE, Int.reduceToNat, mkE, mapSetE, hN, hF, ty_3, ty_4, ty_9, ty_50, ty_54, ty_68, ty_70, ty_72, notIf, isEq, hb1, hb2, hb3, hb4, h1, h2, q1, q2, Bool.true_and, Bool.false_and]; (iterate 3 (try (refine drawnP_intro (by kernel_rfl) (by kernel_rfl) ?_; simp only [runA, runB, runC, runD, runE, runF, fieldE, storeE, binE, ↓reduceIte, Nat.reduceLT, Nat.reduceLeDiff, Nat.reduceEqDiff, Nat.reduceAdd, Nat.reduceMul, Nat.reduceSub, reduceCtorEq, putAt, unE, Nat.reduceBEq, convE, buildE, List.replicate, Int.reduceLT, Int.reduceLE, Int.reduceToNat, mkE, mapSetE, hN, hF, ty_3, ty_4, ty_9, ty_50, ty_54, ty_68, ty_70, ty_72, notIf, isEq, hb1, hb2, hb3, hb4, h1, h2, q1, q2, Bool.true_and, Bool.false_and]))); (simp only [runB, finC, finD, Option.isSome_some, Option.isSome_none, ↓reduceIte, Nat.reduceEqDiff, Nat.reduceAdd, Nat.reduceMul, forall_eq_or_imp, forall_eq, implies_true, Nat.reduceBEq, reduceCtorEq, false_implies, List.zip_cons_cons, List.zip_nil_left, List.zip_nil_right, Nat.reduceLeDiff, List.forall_mem_nil, rs_87, ty_3, ty_4, ty_9, ty_50, ty_54, ty_68, ty_70, ty_72, Bool.true_and, Bool.false_and]))
  (simp only [runA, runB, runC, runD, runE, runF, fieldE, storeE, binE, ↓reduceIte, Nat.reduceLT, Nat.reduceLeDiff, Nat.reduceEqDiff, Nat.reduceAdd, Nat.reduceMul, Nat.reduceSub, reduceCtorEq, putAt, unE, Nat.reduceBEq, convE, buildE, List.replicate, Int.reduceLT, Int.reduceLE, Int.reduceToNat, mkE, mapSetE, hN, hF, ty_3, ty_4, ty_9, ty_50, ty_54, ty_68, ty_70, ty_72, notIf, isEq, hb1, hb2, hb3, hb4, h1, h2, q1, q2, Bool.true_and, Bool.false_and]; (iterate 3 (try (refine drawnP_intro (by kernel_rfl) (by kernel_rfl) ?_; simp only [runA, runB, runC, runD, runE, runF, fieldE, storeE, binE, ↓reduceIte, Nat.reduceLT, Nat.reduceLeDiff, Nat.reduceEqDiff, Nat.reduceAdd, Nat.reduceMul, Nat.reduceSub, reduceCtorEq, putAt, unE, Nat.reduceBEq, convE, buildE, List.replicate, Int.reduceLT, Int.reduceLE, Int.reduceToNat, mkE, mapSetE, hN, hF, ty_3, ty_4, ty_9, ty_50, ty_54, ty_68, ty_70, ty_72, notIf, isEq, hb1, hb2, hb3, hb4, h1, h2, q1, q2, Bool.true_and, Bool.false_and]))); (simp only [runB, finC, finD, Option.isSome_some, Option.isSome_none, ↓reduceIte, Nat.reduceEqDiff, Nat.reduceAdd, Nat.reduceMul, forall_eq_or_imp, forall_eq, implies_true, Nat.reduceBEq, reduceCtorEq, false_implies, List.zip_cons_cons, List.zip_nil_left, List.zip_nil_right, Nat.reduceLeDiff, List.forall_mem_nil, rs_87, ty_3, ty_4, ty_9, ty_50, ty_54, ty_68, ty_70, ty_72, Bool.true_and, Bool.false_and]))


variable {Γ : FuncId → Contract}

noncomputable def smPC : Contract := mkC (α := Msg × Msg) (fun p => lnM p.1 ∧ lnM p.2) (fun p => [p.1.av, p.2.av]) (fun _ => []) (fun p => ⟨[.pv (.c (.bool (decide (p.1 = p.2))))], []⟩)
theorem smP_at (a b : Msg) (h : lnM a) (h' : lnM b) : smPC [.agg [.c (.int .i64 a.kd), .c (.int .i64 a.bk.vw), .c (.int .i64 a.bk.ht), .c (.str a.bk.pa), .c (.int .i64 a.bk.ju.vw), .c (.int .i64 a.bk.ju.ht), .c (.str a.bk.ju.bl), .c (.sl (votes a.bk.ju.vs)), .c (.sl (trows a.bk.txs)), .c (.str a.bk.sig), .c (.int .i64 a.vo.kd), .c (.int .i64 a.vo.vw), .c (.int .i64 a.vo.ht), .c (.str a.vo.bl), .c (.int .i64 a.vo.tk), .c (.int .i64 a.vo.sg), .c (.str a.vo.sig), .c (.int .i64 a.ct.vw), .c (.int .i64 a.ct.ht), .c (.str a.ct.bl), .c (.sl (votes a.ct.vs)), .c (.sl (votes a.bs)), .c (.str a.ak), .c (.int .i64 a.tx.fr), .c (.int .i64 a.tx.to), .c (.int .i64 a.tx.am), .c (.int .i64 a.tx.no), .c (.str a.tx.sig)], .agg [.c (.int .i64 b.kd), .c (.int .i64 b.bk.vw), .c (.int .i64 b.bk.ht), .c (.str b.bk.pa), .c (.int .i64 b.bk.ju.vw), .c (.int .i64 b.bk.ju.ht), .c (.str b.bk.ju.bl), .c (.sl (votes b.bk.ju.vs)), .c (.sl (trows b.bk.txs)), .c (.str b.bk.sig), .c (.int .i64 b.vo.kd), .c (.int .i64 b.vo.vw), .c (.int .i64 b.vo.ht), .c (.str b.vo.bl), .c (.int .i64 b.vo.tk), .c (.int .i64 b.vo.sg), .c (.str b.vo.sig), .c (.int .i64 b.ct.vw), .c (.int .i64 b.ct.ht), .c (.str b.ct.bl), .c (.sl (votes b.ct.vs)), .c (.sl (votes b.bs)), .c (.str b.ak), .c (.int .i64 b.tx.fr), .c (.int .i64 b.tx.to), .c (.int .i64 b.tx.am), .c (.int .i64 b.tx.no), .c (.str b.tx.sig)]] [] = some ⟨[.pv (.c (.bool (decide (a = b))))], []⟩ := mkC_at (α := Msg × Msg) (a, b) ⟨h, h'⟩ (by
  rintro ⟨a', b'⟩ _ h _
  have h : [a'.av, b'.av] = [a.av, b.av] := h
  simp only [List.cons.injEq, Msg.av_iff, and_true] at h
  obtain ⟨rfl, rfl⟩ := h
  rfl)

set_option maxRecDepth 100000 in
set_option maxHeartbeats 4000000 in
theorem smP_sound (hΓ : SoundG Try.prog Γ) (h1 : Γ 142 = sbPC) (h2 : Γ 143 = scPC) (h3 : Γ 144 = eqVC) : SoundC Try.prog 119 smPC := by
  refine sound_fn Try.func119 (by kernel_rfl) rfl rfl ?_
  intro args objs r0 hr
  obtain ⟨⟨⟨a1, a2, a3, a4, a5, a6, a7⟩, ⟨b1, b2, b3, b4, b5, b6, b7⟩⟩, ⟨⟨ha, hb, hc⟩, ⟨ha', hb', hc'⟩⟩, rfl, rfl, rfl⟩ := mkC_inv hr
  refine ⟨rfl, by show 2 ≤ _; decide, fun E hN hns hF => ?_⟩
  refine vc_sound hΓ mixed _ _ _ ?_
  have hN := hN.trans nt_119
  have q1 := sbP_at a2 b2 ha ha'
  have q2 := scP_at a4 b4 hb hb'
  have q3 := eqV_at a5 b5 hc hc'
  have q4 := eqd_vo a3 b3
  have q5 := eqd_tx a7 b7
  unfold Msg.av
  dsimp only
  have hE : decide ((⟨a1, a2, a3, a4, a5, a6, a7⟩ : Msg) = ⟨b1, b2, b3, b4, b5, b6, b7⟩) = ((a1 == b1) && (decide (a2 = b2) && (decide (a3 = b3) && (decide (a4 = b4) && (decide (a5 = b5) && ((a6 == b6) && decide (a7 = b7))))))) := by
    rw [Bool.eq_iff_iff]
    simp only [Bool.and_eq_true, decide_eq_true_iff, Msg.mk.injEq, beq_iff_eq]
  rw [hE]
  clear hE ha hb hc ha' hb' hc'
  generalize decide (a2 = b2) = e2 at q1 ⊢
  generalize decide (a3 = b3) = e3 at q4 ⊢
  generalize decide (a4 = b4) = e4 at q2 ⊢
  generalize decide (a5 = b5) = e5 at q3 ⊢
  generalize decide (a7 = b7) = e7 at q5 ⊢
  generalize hb1 : (a1 == b1) = e1
  generalize hb6 : (a6 == b6) = e6
  cases e1
  case false => (simp only [runA, runB, runC, runD, runE, runF, fieldE, storeE, binE, ↓reduceIte, Nat.reduceLT, Nat.reduceLeDiff, Nat.reduceEqDiff, Nat.reduceAdd, Nat.reduceMul, Nat.reduceSub, reduceCtorEq, putAt, unE, Nat.reduceBEq, convE, buildE, List.replicate, Int.reduceLT, Int.reduceLE, Int.reduceToNat, mkE, mapSetE, hN, hF, ty_3, ty_4, ty_9, ty_50, ty_54, ty_68, ty_70, ty_72, ty_74, ty_76, notIf, isEq, hb1, hb6, h1, h2, h3, q1, q2, q3, q4, q5, eqg_vo, eqg_tx, Bool.true_and, Bool.false_and]; (iterate 3 (try (refine drawnP_intro (by kernel_rfl) (by kernel_rfl) ?_; simp only [runA, runB, runC, runD, runE, runF, fieldE, storeE, binE, ↓reduceIte, Nat.reduceLT, Nat.reduceLeDiff, Nat.reduceEqDiff, Nat.reduceAdd, Nat.reduceMul, Nat.reduceSub, reduceCtorEq, putAt, unE, Nat.reduceBEq, convE, buildE, List.replicate, Int.reduceLT, Int.reduceLE, Int.reduceToNat, mkE, mapSetE, hN, hF, ty_3, ty_4, ty_9, ty_50, ty_54, ty_68, ty_70, ty_72, ty_74, ty_76, notIf, isEq, hb1, hb6, h1, h2, h3, q1, q2, q3, q4, q5, eqg_vo, eqg_tx, Bool.true_and, Bool.false_and]))); (simp only [runB, finC, finD, Option.isSome_some, Option.isSome_none, ↓reduceIte, Nat.reduceEqDiff, Nat.reduceAdd, Nat.reduceMul, forall_eq_or_imp, forall_eq, implies_true, Nat.reduceBEq, reduceCtorEq, false_implies, List.zip_cons_cons, List.zip_nil_left, List.zip_nil_right, Nat.reduceLeDiff, List.forall_mem_nil, rs_119, ty_3, ty_4, ty_9, ty_50, ty_54, ty_68, ty_70, ty_72, ty_74, ty_76, Bool.true_and, Bool.false_and]))
  cases e2
  case false => (simp only [runA, runB, runC, runD, runE, runF, fieldE, storeE, binE, ↓reduceIte, Nat.reduceLT, Nat.reduceLeDiff, Nat.reduceEqDiff, Nat.reduceAdd, Nat.reduceMul, Nat.reduceSub, reduceCtorEq, putAt, unE, Nat.reduceBEq, convE, buildE, List.replicate, Int.reduceLT, Int.reduceLE, Int.reduceToNat, mkE, mapSetE, hN, hF, ty_3, ty_4, ty_9, ty_50, ty_54, ty_68, ty_70, ty_72, ty_74, ty_76, notIf, isEq, hb1, hb6, h1, h2, h3, q1, q2, q3, q4, q5, eqg_vo, eqg_tx, Bool.true_and, Bool.false_and]; (iterate 3 (try (refine drawnP_intro (by kernel_rfl) (by kernel_rfl) ?_; simp only [runA, runB, runC, runD, runE, runF, fieldE, storeE, binE, ↓reduceIte, Nat.reduceLT, Nat.reduceLeDiff, Nat.reduceEqDiff, Nat.reduceAdd, Nat.reduceMul, Nat.reduceSub, reduceCtorEq, putAt, unE, Nat.reduceBEq, convE, buildE, List.replicate, Int.reduceLT, Int.reduceLE, Int.reduceToNat, mkE, mapSetE, hN, hF, ty_3, ty_4, ty_9, ty_50, ty_54, ty_68, ty_70, ty_72, ty_74, ty_76, notIf, isEq, hb1, hb6, h1, h2, h3, q1, q2, q3, q4, q5, eqg_vo, eqg_tx, Bool.true_and, Bool.false_and]))); (simp only [runB, finC, finD, Option.isSome_some, Option.isSome_none, ↓reduceIte, Nat.reduceEqDiff, Nat.reduceAdd, Nat.reduceMul, forall_eq_or_imp, forall_eq, implies_true, Nat.reduceBEq, reduceCtorEq, false_implies, List.zip_cons_cons, List.zip_nil_left, List.zip_nil_right, Nat.reduceLeDiff, List.forall_mem_nil, rs_119, ty_3, ty_4, ty_9, ty_50, ty_54, ty_68, ty_70, ty_72, ty_74, ty_76, Bool.true_and, Bool.false_and]))
  cases e3
  case false => (simp only [runA, runB, runC, runD, runE, runF, fieldE, storeE, binE, ↓reduceIte, Nat.reduceLT, Nat.reduceLeDiff, Nat.reduceEqDiff, Nat.reduceAdd, Nat.reduceMul, Nat.reduceSub, reduceCtorEq, putAt, unE, Nat.reduceBEq, convE, buildE, List.replicate, Int.reduceLT, Int.reduceLE, Int.reduceToNat, mkE, mapSetE, hN, hF, ty_3, ty_4, ty_9, ty_50, ty_54, ty_68, ty_70, ty_72, ty_74, ty_76, notIf, isEq, hb1, hb6, h1, h2, h3, q1, q2, q3, q4, q5, eqg_vo, eqg_tx, Bool.true_and, Bool.false_and]; (iterate 3 (try (refine drawnP_intro (by kernel_rfl) (by kernel_rfl) ?_; simp only [runA, runB, runC, runD, runE, runF, fieldE, storeE, binE, ↓reduceIte, Nat.reduceLT, Nat.reduceLeDiff, Nat.reduceEqDiff, Nat.reduceAdd, Nat.reduceMul, Nat.reduceSub, reduceCtorEq, putAt, unE, Nat.reduceBEq, convE, buildE, List.replicate, Int.reduceLT, Int.reduceLE, Int.reduceToNat, mkE, mapSetE, hN, hF, ty_3, ty_4, ty_9, ty_50, ty_54, ty_68, ty_70, ty_72, ty_74, ty_76, notIf, isEq, hb1, hb6, h1, h2, h3, q1, q2, q3, q4, q5, eqg_vo, eqg_tx, Bool.true_and, Bool.false_and]))); (simp only [runB, finC, finD, Option.isSome_some, Option.isSome_none, ↓reduceIte, Nat.reduceEqDiff, Nat.reduceAdd, Nat.reduceMul, forall_eq_or_imp, forall_eq, implies_true, Nat.reduceBEq, reduceCtorEq, false_implies, List.zip_cons_cons, List.zip_nil_left, List.zip_nil_right, Nat.reduceLeDiff, List.forall_mem_nil, rs_119, ty_3, ty_4, ty_9, ty_50, ty_54, ty_68, ty_70, ty_72, ty_74, ty_76, Bool.true_and, Bool.false_and]))
  cases e4
  case false => (simp only [runA, runB, runC, runD, runE, runF, fieldE, storeE, binE, ↓reduceIte, Nat.reduceLT, Nat.reduceLeDiff, Nat.reduceEqDiff, Nat.reduceAdd, Nat.reduceMul, Nat.reduceSub, reduceCtorEq, putAt, unE, Nat.reduceBEq, convE, buildE, List.replicate, Int.reduceLT, Int.reduceLE, Int.reduceToNat, mkE, mapSetE, hN, hF, ty_3, ty_4, ty_9, ty_50, ty_54, ty_68, ty_70, ty_72, ty_74, ty_76, notIf, isEq, hb1, hb6, h1, h2, h3, q1, q2, q3, q4, q5, eqg_vo, eqg_tx, Bool.true_and, Bool.false_and]; (iterate 3 (try (refine drawnP_intro (by kernel_rfl) (by kernel_rfl) ?_; simp only [runA, runB, runC, runD, runE, runF, fieldE, storeE, binE, ↓reduceIte, Nat.reduceLT, Nat.reduceLeDiff, Nat.reduceEqDiff, Nat.reduceAdd, Nat.reduceMul, Nat.reduceSub, reduceCtorEq, putAt, unE, Nat.reduceBEq, convE, buildE, List.replicate, Int.reduceLT, Int.reduceLE, Int.reduceToNat, mkE, mapSetE, hN, hF, ty_3, ty_4, ty_9, ty_50, ty_54, ty_68, ty_70, ty_72, ty_74, ty_76, notIf, isEq, hb1, hb6, h1, h2, h3, q1, q2, q3, q4, q5, eqg_vo, eqg_tx, Bool.true_and, Bool.false_and]))); (simp only [runB, finC, finD, Option.isSome_some, Option.isSome_none, ↓reduceIte, Nat.reduceEqDiff, Nat.reduceAdd, Nat.reduceMul, forall_eq_or_imp, forall_eq, implies_true, Nat.reduceBEq, reduceCtorEq, false_implies, List.zip_cons_cons, List.zip_nil_left, List.zip_nil_right, Nat.reduceLeDiff, List.forall_mem_nil, rs_119, ty_3, ty_4, ty_9, ty_50, ty_54, ty_68, ty_70, ty_72, ty_74, ty_76, Bool.true_and, Bool.false_and]))
  cases e5
  case false => (simp only [runA, runB, runC, runD, runE, runF, fieldE, storeE, binE, ↓reduceIte, Nat.reduceLT, Nat.reduceLeDiff, Nat.reduceEqDiff, Nat.reduceAdd, Nat.reduceMul, Nat.reduceSub, reduceCtorEq, putAt, unE, Nat.reduceBEq, convE, buildE, List.replicate, Int.reduceLT, Int.reduceLE, Int.reduceToNat, mkE, mapSetE, hN, hF, ty_3, ty_4, ty_9, ty_50, ty_54, ty_68, ty_70, ty_72, ty_74, ty_76, notIf, isEq, hb1, hb6, h1, h2, h3, q1, q2, q3, q4, q5, eqg_vo, eqg_tx, Bool.true_and, Bool.false_and]; (iterate 3 (try (refine drawnP_intro (by kernel_rfl) (by kernel_rfl) ?_; simp only [runA, runB, runC, runD, runE, runF, fieldE, storeE, binE, ↓reduceIte, Nat.reduceLT, Nat.reduceLeDiff, Nat.reduceEqDiff, Nat.reduceAdd, Nat.reduceMul, Nat.reduceSub, reduceCtorEq, putAt, unE, Nat.reduceBEq, convE, buildE, List.replicate, Int.reduceLT, Int.reduceLE, Int.reduceToNat, mkE, mapSetE, hN, hF, ty_3, ty_4, ty_9, ty_50, ty_54, ty_68, ty_70, ty_72, ty_74, ty_76, notIf, isEq, hb1, hb6, h1, h2, h3, q1, q2, q3, q4, q5, eqg_vo, eqg_tx, Bool.true_and, Bool.false_and]))); (simp only [runB, finC, finD, Option.isSome_some, Option.isSome_none, ↓reduceIte, Nat.reduceEqDiff, Nat.reduceAdd, Nat.reduceMul, forall_eq_or_imp, forall_eq, implies_true, Nat.reduceBEq, reduceCtorEq, false_implies, List.zip_cons_cons, List.zip_nil_left, List.zip_nil_right, Nat.reduceLeDiff, List.forall_mem_nil, rs_119, ty_3, ty_4, ty_9, ty_50, ty_54, ty_68, ty_70, ty_72, ty_74, ty_76, Bool.true_and, Bool.false_and]))
  cases e6
  case false => (simp only [runA, runB, runC, runD, runE, runF, fieldE, storeE, binE, ↓reduceIte, Nat.reduceLT, Nat.reduceLeDiff, Nat.reduceEqDiff, Nat.reduceAdd, Nat.reduceMul, Nat.reduceSub, reduceCtorEq, putAt, unE, Nat.reduceBEq, convE, buildE, List.replicate, Int.reduceLT, Int.reduceLE, Int.reduceToNat, mkE, mapSetE, hN, hF, ty_3, ty_4, ty_9, ty_50, ty_54, ty_68, ty_70, ty_72, ty_74, ty_76, notIf, isEq, hb1, hb6, h1, h2, h3, q1, q2, q3, q4, q5, eqg_vo, eqg_tx, Bool.true_and, Bool.false_and]; (iterate 3 (try (refine drawnP_intro (by kernel_rfl) (by kernel_rfl) ?_; simp only [runA, runB, runC, runD, runE, runF, fieldE, storeE, binE, ↓reduceIte, Nat.reduceLT, Nat.reduceLeDiff, Nat.reduceEqDiff, Nat.reduceAdd, Nat.reduceMul, Nat.reduceSub, reduceCtorEq, putAt, unE, Nat.reduceBEq, convE, buildE, List.replicate, Int.reduceLT, Int.reduceLE, Int.reduceToNat, mkE, mapSetE, hN, hF, ty_3, ty_4, ty_9, ty_50, ty_54, ty_68, ty_70, ty_72, ty_74, ty_76, notIf, isEq, hb1, hb6, h1, h2, h3, q1, q2, q3, q4, q5, eqg_vo, eqg_tx, Bool.true_and, Bool.false_and]))); (simp only [runB, finC, finD, Option.isSome_some, Option.isSome_none, ↓reduceIte, Nat.reduceEqDiff, Nat.reduceAdd, Nat.reduceMul, forall_eq_or_imp, forall_eq, implies_true, Nat.reduceBEq, reduceCtorEq, false_implies, List.zip_cons_cons, List.zip_nil_left, List.zip_nil_right, Nat.reduceLeDiff, List.forall_mem_nil, rs_119, ty_3, ty_4, ty_9, ty_50, ty_54, ty_68, ty_70, ty_72, ty_74, ty_76, Bool.true_and, Bool.false_and]))
  (simp only [runA, runB, runC, runD, runE, runF, fieldE, storeE, binE, ↓reduceIte, Nat.reduceLT, Nat.reduceLeDiff, Nat.reduceEqDiff, Nat.reduceAdd, Nat.reduceMul, Nat.reduceSub, reduceCtorEq, putAt, unE, Nat.reduceBEq, convE, buildE, List.replicate, Int.reduceLT, Int.reduceLE, Int.reduceToNat, mkE, mapSetE, hN, hF, ty_3, ty_4, ty_9, ty_50, ty_54, ty_68, ty_70, ty_72, ty_74, ty_76, notIf, isEq, hb1, hb6, h1, h2, h3, q1, q2, q3, q4, q5, eqg_vo, eqg_tx, Bool.true_and, Bool.false_and]; (iterate 3 (try (refine drawnP_intro (by kernel_rfl) (by kernel_rfl) ?_; simp only [runA, runB, runC, runD, runE, runF, fieldE, storeE, binE, ↓reduceIte, Nat.reduceLT, Nat.reduceLeDiff, Nat.reduceEqDiff, Nat.reduceAdd, Nat.reduceMul, Nat.reduceSub, reduceCtorEq, putAt, unE, Nat.reduceBEq, convE, buildE, List.replicate, Int.reduceLT, Int.reduceLE, Int.reduceToNat, mkE, mapSetE, hN, hF, ty_3, ty_4, ty_9, ty_50, ty_54, ty_68, ty_70, ty_72, ty_74, ty_76, notIf, isEq, hb1, hb6, h1, h2, h3, q1, q2, q3, q4, q5, eqg_vo, eqg_tx, Bool.true_and, Bool.false_and]))); (simp only [runB, finC, finD, Option.isSome_some, Option.isSome_none, ↓reduceIte, Nat.reduceEqDiff, Nat.reduceAdd, Nat.reduceMul, forall_eq_or_imp, forall_eq, implies_true, Nat.reduceBEq, reduceCtorEq, false_implies, List.zip_cons_cons, List.zip_nil_left, List.zip_nil_right, Nat.reduceLeDiff, List.forall_mem_nil, rs_119, ty_3, ty_4, ty_9, ty_50, ty_54, ty_68, ty_70, ty_72, ty_74, ty_76, Bool.true_and, Bool.false_and]))
noncomputable def smRC : Contract := mkC (α := Msg × Msg) (fun p => lnM p.1 ∧ lnM p.2) (fun p => [p.1.av, p.2.av]) (fun _ => []) (fun p => ⟨[.pv (.c (.bool (decide (p.1 = p.2))))], []⟩)
theorem smR_at (a b : Msg) (h : lnM a) (h' : lnM b) : smRC [.agg [.c (.int .i64 a.kd), .c (.int .i64 a.bk.vw), .c (.int .i64 a.bk.ht), .c (.str a.bk.pa), .c (.int .i64 a.bk.ju.vw), .c (.int .i64 a.bk.ju.ht), .c (.str a.bk.ju.bl), .c (.sl (votes a.bk.ju.vs)), .c (.sl (trows a.bk.txs)), .c (.str a.bk.sig), .c (.int .i64 a.vo.kd), .c (.int .i64 a.vo.vw), .c (.int .i64 a.vo.ht), .c (.str a.vo.bl), .c (.int .i64 a.vo.tk), .c (.int .i64 a.vo.sg), .c (.str a.vo.sig), .c (.int .i64 a.ct.vw), .c (.int .i64 a.ct.ht), .c (.str a.ct.bl), .c (.sl (votes a.ct.vs)), .c (.sl (votes a.bs)), .c (.str a.ak), .c (.int .i64 a.tx.fr), .c (.int .i64 a.tx.to), .c (.int .i64 a.tx.am), .c (.int .i64 a.tx.no), .c (.str a.tx.sig)], .agg [.c (.int .i64 b.kd), .c (.int .i64 b.bk.vw), .c (.int .i64 b.bk.ht), .c (.str b.bk.pa), .c (.int .i64 b.bk.ju.vw), .c (.int .i64 b.bk.ju.ht), .c (.str b.bk.ju.bl), .c (.sl (votes b.bk.ju.vs)), .c (.sl (trows b.bk.txs)), .c (.str b.bk.sig), .c (.int .i64 b.vo.kd), .c (.int .i64 b.vo.vw), .c (.int .i64 b.vo.ht), .c (.str b.vo.bl), .c (.int .i64 b.vo.tk), .c (.int .i64 b.vo.sg), .c (.str b.vo.sig), .c (.int .i64 b.ct.vw), .c (.int .i64 b.ct.ht), .c (.str b.ct.bl), .c (.sl (votes b.ct.vs)), .c (.sl (votes b.bs)), .c (.str b.ak), .c (.int .i64 b.tx.fr), .c (.int .i64 b.tx.to), .c (.int .i64 b.tx.am), .c (.int .i64 b.tx.no), .c (.str b.tx.sig)]] [] = some ⟨[.pv (.c (.bool (decide (a = b))))], []⟩ := mkC_at (α := Msg × Msg) (a, b) ⟨h, h'⟩ (by
  rintro ⟨a', b'⟩ _ h _
  have h : [a'.av, b'.av] = [a.av, b.av] := h
  simp only [List.cons.injEq, Msg.av_iff, and_true] at h
  obtain ⟨rfl, rfl⟩ := h
  rfl)

set_option maxRecDepth 100000 in
set_option maxHeartbeats 4000000 in
theorem smR_sound (hΓ : SoundG Try.prog Γ) (h1 : Γ 87 = sbRC) (h2 : Γ 88 = scRC) (h3 : Γ 89 = smVC) : SoundC Try.prog 40 smRC := by
  refine sound_fn Try.func40 (by kernel_rfl) rfl rfl ?_
  intro args objs r0 hr
  obtain ⟨⟨⟨a1, a2, a3, a4, a5, a6, a7⟩, ⟨b1, b2, b3, b4, b5, b6, b7⟩⟩, ⟨⟨ha, hb, hc⟩, ⟨ha', hb', hc'⟩⟩, rfl, rfl, rfl⟩ := mkC_inv hr
  refine ⟨rfl, by show 2 ≤ _; decide, fun E hN hns hF => ?_⟩
  refine vc_sound hΓ mixed _ _ _ ?_
  have hN := hN.trans nt_40
  have q1 := sbR_at a2 b2 ha ha'
  have q2 := scR_at a4 b4 hb hb'
  have q3 := smV_at a5 b5 hc hc'
  have q4 := eqd_vo a3 b3
  have q5 := eqd_tx a7 b7
  unfold Msg.av
  dsimp only
  have hE : decide ((⟨a1, a2, a3, a4, a5, a6, a7⟩ : Msg) = ⟨b1, b2, b3, b4, b5, b6, b7⟩) = ((a1 == b1) && (decide (a2 = b2) && (decide (a3 = b3) && (decide (a4 = b4) && (decide (a5 = b5) && ((a6 == b6) && decide (a7 = b7))))))) := by
    rw [Bool.eq_iff_iff]
    simp only [Bool.and_eq_true, decide_eq_true_iff, Msg.mk.injEq, beq_iff_eq]
  rw [hE]
  clear hE ha hb hc ha' hb' hc'
  generalize decide (a2 = b2) = e2 at q1 ⊢
  generalize decide (a3 = b3) = e3 at q4 ⊢
  generalize decide (a4 = b4) = e4 at q2 ⊢
  generalize decide (a5 = b5) = e5 at q3 ⊢
  generalize decide (a7 = b7) = e7 at q5 ⊢
  generalize hb1 : (a1 == b1) = e1
  generalize hb6 : (a6 == b6) = e6
  cases e1
  case false => (simp only [runA, runB, runC, runD, runE, runF, fieldE, storeE, binE, ↓reduceIte, Nat.reduceLT, Nat.reduceLeDiff, Nat.reduceEqDiff, Nat.reduceAdd, Nat.reduceMul, Nat.reduceSub, reduceCtorEq, putAt, unE, Nat.reduceBEq, convE, buildE, List.replicate, Int.reduceLT, Int.reduceLE, Int.reduceToNat, mkE, mapSetE, hN, hF, ty_3, ty_4, ty_9, ty_50, ty_54, ty_68, ty_70, ty_72, ty_74, ty_76, notIf, isEq, hb1, hb6, h1, h2, h3, q1, q2, q3, q4, q5, eqg_vo, eqg_tx, Bool.true_and, Bool.false_and]; (iterate 3 (try (refine drawnP_intro (by kernel_rfl) (by kernel_rfl) ?_; simp only [runA, runB, runC, runD, runE, runF, fieldE, storeE, binE, ↓reduceIte, Nat.reduceLT, Nat.reduceLeDiff, Nat.reduceEqDiff, Nat.reduceAdd, Nat.reduceMul, Nat.reduceSub, reduceCtorEq, putAt, unE, Nat.reduceBEq, convE, buildE, List.replicate, Int.reduceLT, Int.reduceLE, Int.reduceToNat, mkE, mapSetE, hN, hF, ty_3, ty_4, ty_9, ty_50, ty_54, ty_68, ty_70, ty_72, ty_74, ty_76, notIf, isEq, hb1, hb6, h1, h2, h3, q1, q2, q3, q4, q5, eqg_vo, eqg_tx, Bool.true_and, Bool.false_and]))); (simp only [runB, finC, finD, Option.isSome_some, Option.isSome_none, ↓reduceIte, Nat.reduceEqDiff, Nat.reduceAdd, Nat.reduceMul, forall_eq_or_imp, forall_eq, implies_true, Nat.reduceBEq, reduceCtorEq, false_implies, List.zip_cons_cons, List.zip_nil_left, List.zip_nil_right, Nat.reduceLeDiff, List.forall_mem_nil, rs_40, ty_3, ty_4, ty_9, ty_50, ty_54, ty_68, ty_70, ty_72, ty_74, ty_76, Bool.true_and, Bool.false_and]))
  cases e2
  case false => (simp only [runA, runB, runC, runD, runE, runF, fieldE, storeE, binE, ↓reduceIte, Nat.reduceLT, Nat.reduceLeDiff, Nat.reduceEqDiff, Nat.reduceAdd, Nat.reduceMul, Nat.reduceSub, reduceCtorEq, putAt, unE, Nat.reduceBEq, convE, buildE, List.replicate, Int.reduceLT, Int.reduceLE, Int.reduceToNat, mkE, mapSetE, hN, hF, ty_3, ty_4, ty_9, ty_50, ty_54, ty_68, ty_70, ty_72, ty_74, ty_76, notIf, isEq, hb1, hb6, h1, h2, h3, q1, q2, q3, q4, q5, eqg_vo, eqg_tx, Bool.true_and, Bool.false_and]; (iterate 3 (try (refine drawnP_intro (by kernel_rfl) (by kernel_rfl) ?_; simp only [runA, runB, runC, runD, runE, runF, fieldE, storeE, binE, ↓reduceIte, Nat.reduceLT, Nat.reduceLeDiff, Nat.reduceEqDiff, Nat.reduceAdd, Nat.reduceMul, Nat.reduceSub, reduceCtorEq, putAt, unE, Nat.reduceBEq, convE, buildE, List.replicate, Int.reduceLT, Int.reduceLE, Int.reduceToNat, mkE, mapSetE, hN, hF, ty_3, ty_4, ty_9, ty_50, ty_54, ty_68, ty_70, ty_72, ty_74, ty_76, notIf, isEq, hb1, hb6, h1, h2, h3, q1, q2, q3, q4, q5, eqg_vo, eqg_tx, Bool.true_and, Bool.false_and]))); (simp only [runB, finC, finD, Option.isSome_some, Option.isSome_none, ↓reduceIte, Nat.reduceEqDiff, Nat.reduceAdd, Nat.reduceMul, forall_eq_or_imp, forall_eq, implies_true, Nat.reduceBEq, reduceCtorEq, false_implies, List.zip_cons_cons, List.zip_nil_left, List.zip_nil_right, Nat.reduceLeDiff, List.forall_mem_nil, rs_40, ty_3, ty_4, ty_9, ty_50, ty_54, ty_68, ty_70, ty_72, ty_74, ty_76, Bool.true_and, Bool.false_and]))
  cases e3
  case false => (simp only [runA, runB, runC, runD, runE, runF, fieldE, storeE, binE, ↓reduceIte, Nat.reduceLT, Nat.reduceLeDiff, Nat.reduceEqDiff, Nat.reduceAdd, Nat.reduceMul, Nat.reduceSub, reduceCtorEq, putAt, unE, Nat.reduceBEq, convE, buildE, List.replicate, Int.reduceLT, Int.reduceLE, Int.reduceToNat, mkE, mapSetE, hN, hF, ty_3, ty_4, ty_9, ty_50, ty_54, ty_68, ty_70, ty_72, ty_74, ty_76, notIf, isEq, hb1, hb6, h1, h2, h3, q1, q2, q3, q4, q5, eqg_vo, eqg_tx, Bool.true_and, Bool.false_and]; (iterate 3 (try (refine drawnP_intro (by kernel_rfl) (by kernel_rfl) ?_; simp only [runA, runB, runC, runD, runE, runF, fieldE, storeE, binE, ↓reduceIte, Nat.reduceLT, Nat.reduceLeDiff, Nat.reduceEqDiff, Nat.reduceAdd, Nat.reduceMul, Nat.reduceSub, reduceCtorEq, putAt, unE, Nat.reduceBEq, convE, buildE, List.replicate, Int.reduceLT, Int.reduceLE, Int.reduceToNat, mkE, mapSetE, hN, hF, ty_3, ty_4, ty_9, ty_50, ty_54, ty_68, ty_70, ty_72, ty_74, ty_76, notIf, isEq, hb1, hb6, h1, h2, h3, q1, q2, q3, q4, q5, eqg_vo, eqg_tx, Bool.true_and, Bool.false_and]))); (simp only [runB, finC, finD, Option.isSome_some, Option.isSome_none, ↓reduceIte, Nat.reduceEqDiff, Nat.reduceAdd, Nat.reduceMul, forall_eq_or_imp, forall_eq, implies_true, Nat.reduceBEq, reduceCtorEq, false_implies, List.zip_cons_cons, List.zip_nil_left, List.zip_nil_right, Nat.reduceLeDiff, List.forall_mem_nil, rs_40, ty_3, ty_4, ty_9, ty_50, ty_54, ty_68, ty_70, ty_72, ty_74, ty_76, Bool.true_and, Bool.false_and]))
  cases e4
  case false => (simp only [runA, runB, runC, runD, runE, runF, fieldE, storeE, binE, ↓reduceIte, Nat.reduceLT, Nat.reduceLeDiff, Nat.reduceEqDiff, Nat.reduceAdd, Nat.reduceMul, Nat.reduceSub, reduceCtorEq, putAt, unE, Nat.reduceBEq, convE, buildE, List.replicate, Int.reduceLT, Int.reduceLE, Int.reduceToNat, mkE, mapSetE, hN, hF, ty_3, ty_4, ty_9, ty_50, ty_54, ty_68, ty_70, ty_72, ty_74, ty_76, notIf, isEq, hb1, hb6, h1, h2, h3, q1, q2, q3, q4, q5, eqg_vo, eqg_tx, Bool.true_and, Bool.false_and]; (iterate 3 (try (refine drawnP_intro (by kernel_rfl) (by kernel_rfl) ?_; simp only [runA, runB, runC, runD, runE, runF, fieldE, storeE, binE, ↓reduceIte, Nat.reduceLT, Nat.reduceLeDiff, Nat.reduceEqDiff, Nat.reduceAdd, Nat.reduceMul, Nat.reduceSub, reduceCtorEq, putAt, unE, Nat.reduceBEq, convE, buildE, List.replicate, Int.reduceLT, Int.reduceLE, Int.reduceToNat, mkE, mapSetE, hN, hF, ty_3, ty_4, ty_9, ty_50, ty_54, ty_68, ty_70, ty_72, ty_74, ty_76, notIf, isEq, hb1, hb6, h1, h2, h3, q1, q2, q3, q4, q5, eqg_vo, eqg_tx, Bool.true_and, Bool.false_and]))); (simp only [runB, finC, finD, Option.isSome_some, Option.isSome_none, ↓reduceIte, Nat.reduceEqDiff, Nat.reduceAdd, Nat.reduceMul, forall_eq_or_imp, forall_eq, implies_true, Nat.reduceBEq, reduceCtorEq, false_implies, List.zip_cons_cons, List.zip_nil_left, List.zip_nil_right, Nat.reduceLeDiff, List.forall_mem_nil, rs_40, ty_3, ty_4, ty_9, ty_50, ty_54, ty_68, ty_70, ty_72, ty_74, ty_76, Bool.true_and, Bool.false_and]))
  cases e5
  case false => (simp only [runA, runB, runC, runD, runE, runF, fieldE, storeE, binE, ↓reduceIte, Nat.reduceLT, Nat.reduceLeDiff, Nat.reduceEqDiff, Nat.reduceAdd, Nat.reduceMul, Nat.reduceSub, reduceCtorEq, putAt, unE, Nat.reduceBEq, convE, buildE, List.replicate, Int.reduceLT, Int.reduceLE, Int.reduceToNat, mkE, mapSetE, hN, hF, ty_3, ty_4, ty_9, ty_50, ty_54, ty_68, ty_70, ty_72, ty_74, ty_76, notIf, isEq, hb1, hb6, h1, h2, h3, q1, q2, q3, q4, q5, eqg_vo, eqg_tx, Bool.true_and, Bool.false_and]; (iterate 3 (try (refine drawnP_intro (by kernel_rfl) (by kernel_rfl) ?_; simp only [runA, runB, runC, runD, runE, runF, fieldE, storeE, binE, ↓reduceIte, Nat.reduceLT, Nat.reduceLeDiff, Nat.reduceEqDiff, Nat.reduceAdd, Nat.reduceMul, Nat.reduceSub, reduceCtorEq, putAt, unE, Nat.reduceBEq, convE, buildE, List.replicate, Int.reduceLT, Int.reduceLE, Int.reduceToNat, mkE, mapSetE, hN, hF, ty_3, ty_4, ty_9, ty_50, ty_54, ty_68, ty_70, ty_72, ty_74, ty_76, notIf, isEq, hb1, hb6, h1, h2, h3, q1, q2, q3, q4, q5, eqg_vo, eqg_tx, Bool.true_and, Bool.false_and]))); (simp only [runB, finC, finD, Option.isSome_some, Option.isSome_none, ↓reduceIte, Nat.reduceEqDiff, Nat.reduceAdd, Nat.reduceMul, forall_eq_or_imp, forall_eq, implies_true, Nat.reduceBEq, reduceCtorEq, false_implies, List.zip_cons_cons, List.zip_nil_left, List.zip_nil_right, Nat.reduceLeDiff, List.forall_mem_nil, rs_40, ty_3, ty_4, ty_9, ty_50, ty_54, ty_68, ty_70, ty_72, ty_74, ty_76, Bool.true_and, Bool.false_and]))
  cases e6
  case false => (simp only [runA, runB, runC, runD, runE, runF, fieldE, storeE, binE, ↓reduceIte, Nat.reduceLT, Nat.reduceLeDiff, Nat.reduceEqDiff, Nat.reduceAdd, Nat.reduceMul, Nat.reduceSub, reduceCtorEq, putAt, unE, Nat.reduceBEq, convE, buildE, List.replicate, Int.reduceLT, Int.reduceLE, Int.reduceToNat, mkE, mapSetE, hN, hF, ty_3, ty_4, ty_9, ty_50, ty_54, ty_68, ty_70, ty_72, ty_74, ty_76, notIf, isEq, hb1, hb6, h1, h2, h3, q1, q2, q3, q4, q5, eqg_vo, eqg_tx, Bool.true_and, Bool.false_and]; (iterate 3 (try (refine drawnP_intro (by kernel_rfl) (by kernel_rfl) ?_; simp only [runA, runB, runC, runD, runE, runF, fieldE, storeE, binE, ↓reduceIte, Nat.reduceLT, Nat.reduceLeDiff, Nat.reduceEqDiff, Nat.reduceAdd, Nat.reduceMul, Nat.reduceSub, reduceCtorEq, putAt, unE, Nat.reduceBEq, convE, buildE, List.replicate, Int.reduceLT, Int.reduceLE, Int.reduceToNat, mkE, mapSetE, hN, hF, ty_3, ty_4, ty_9, ty_50, ty_54, ty_68, ty_70, ty_72, ty_74, ty_76, notIf, isEq, hb1, hb6, h1, h2, h3, q1, q2, q3, q4, q5, eqg_vo, eqg_tx, Bool.true_and, Bool.false_and]))); (simp only [runB, finC, finD, Option.isSome_some, Option.isSome_none, ↓reduceIte, Nat.reduceEqDiff, Nat.reduceAdd, Nat.reduceMul, forall_eq_or_imp, forall_eq, implies_true, Nat.reduceBEq, reduceCtorEq, false_implies, List.zip_cons_cons, List.zip_nil_left, List.zip_nil_right, Nat.reduceLeDiff, List.forall_mem_nil, rs_40, ty_3, ty_4, ty_9, ty_50, ty_54, ty_68, ty_70, ty_72, ty_74, ty_76, Bool.true_and, Bool.false_and]))
  (simp only [runA, runB, runC, runD, runE, runF, fieldE, storeE, binE, ↓reduceIte, Nat.reduceLT, Nat.reduceLeDiff, Nat.reduceEqDiff, Nat.reduceAdd, Nat.reduceMul, Nat.reduceSub, reduceCtorEq, putAt, unE, Nat.reduceBEq, convE, buildE, List.replicate, Int.reduceLT, Int.reduceLE, Int.reduceToNat, mkE, mapSetE, hN, hF, ty_3, ty_4, ty_9, ty_50, ty_54, ty_68, ty_70, ty_72, ty_74, ty_76, notIf, isEq, hb1, hb6, h1, h2, h3, q1, q2, q3, q4, q5, eqg_vo, eqg_tx, Bool.true_and, Bool.false_and]; (iterate 3 (try (refine drawnP_intro (by kernel_rfl) (by kernel_rfl) ?_; simp only [runA, runB, runC, runD, runE, runF, fieldE, storeE, binE, ↓reduceIte, Nat.reduceLT, Nat.reduceLeDiff, Nat.reduceEqDiff, Nat.reduceAdd, Nat.reduceMul, Nat.reduceSub, reduceCtorEq, putAt, unE, Nat.reduceBEq, convE, buildE, List.replicate, Int.reduceLT, Int.reduceLE, Int.reduceToNat, mkE, mapSetE, hN, hF, ty_3, ty_4, ty_9, ty_50, ty_54, ty_68, ty_70, ty_72, ty_74, ty_76, notIf, isEq, hb1, hb6, h1, h2, h3, q1, q2, q3, q4, q5, eqg_vo, eqg_tx, Bool.true_and, Bool.false_and]))); (simp only [runB, finC, finD, Option.isSome_some, Option.isSome_none, ↓reduceIte, Nat.reduceEqDiff, Nat.reduceAdd, Nat.reduceMul, forall_eq_or_imp, forall_eq, implies_true, Nat.reduceBEq, reduceCtorEq, false_implies, List.zip_cons_cons, List.zip_nil_left, List.zip_nil_right, Nat.reduceLeDiff, List.forall_mem_nil, rs_40, ty_3, ty_4, ty_9, ty_50, ty_54, ty_68, ty_70, ty_72, ty_74, ty_76, Bool.true_and, Bool.false_and]))

end Go.Proofs.Ytldehcnaepgamaa.AM
