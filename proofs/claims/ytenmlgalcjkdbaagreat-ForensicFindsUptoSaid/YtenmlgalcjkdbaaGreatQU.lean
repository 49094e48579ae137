/-
  QU: Fd0 Fd1.
-/
import Derived.Test.YtenmlgalcjkdbaaGreatQR
import Derived.Test.YtenmlgalcjkdbaaGreatQG
set_option linter.unusedVariables false
set_option linter.unusedSimpArgs false
namespace Go.Proofs.YtenmlgalcjkdbaaGreat.AM
open Go

variable {Γ : FuncId → Contract}

theorem getD_extM {α : Type} {a b : List α} {d : α} (hl : a.length = b.length) (h : ∀ k, k < a.length → a.getD k d = b.getD k d) : a = b := by
  apply List.ext_getElem hl
  intro i h1 h2
  have := h i h1
  simpa [List.getD, h1, h2] using this
theorem eqg_vo : Tryz.prog.eqGuardType Tryz.prog.depth 97 = false := by kernel_rfl
theorem eqd_vo (a b : Vt) : eqE Tryz.prog 10000 97 [.int .i64 a.kd, .int .i64 a.vw, .int .i64 a.ht, .str a.bl, .int .i64 a.tk, .int .i64 a.sg, .str a.sig] [.int .i64 b.kd, .int .i64 b.vw, .int .i64 b.ht, .str b.bl, .int .i64 b.tk, .int .i64 b.sg, .str b.sig] = some (decide (a = b)) := by
  have h : eqE Tryz.prog 10000 97 [.int .i64 a.kd, .int .i64 a.vw, .int .i64 a.ht, .str a.bl, .int .i64 a.tk, .int .i64 a.sg, .str a.sig] [.int .i64 b.kd, .int .i64 b.vw, .int .i64 b.ht, .str b.bl, .int .i64 b.tk, .int .i64 b.sg, .str b.sig] = some ((a.kd == b.kd) && ((a.vw == b.vw) && ((a.ht == b.ht) && ((a.bl == b.bl) && ((a.tk == b.tk) && ((a.sg == b.sg) && ((a.sig == b.sig) && true))))))) := by kernel_rfl
  refine h.trans (congrArg some ?_)
  obtain ⟨a0, a1, a2, a3, a4, a5, a6⟩ := a
  obtain ⟨b0, b1, b2, b3, b4, b5, b6⟩ := b
  rw [Bool.eq_iff_iff, decide_eq_true_iff, Vt.mk.injEq]
  simp only [Bool.and_eq_true, beq_iff_eq, and_true]
noncomputable def smVC : Contract := mkC (α := List Vt × List Vt) (fun p => p.1.length ≤ 9223372036854775807 ∧ p.2.length ≤ 9223372036854775807) (fun p => [.c (.sl (votes p.1)), .c (.sl (votes p.2))]) (fun _ => []) (fun p => ⟨[.pv (.c (.bool (decide (p.1 = p.2))))], []⟩)
theorem smV_at (a b : List Vt) (h : a.length ≤ 9223372036854775807) (h' : b.length ≤ 9223372036854775807) : smVC [.c (.sl (votes a)), .c (.sl (votes b))] [] = some ⟨[.pv (.c (.bool (decide (a = b))))], []⟩ := mkC_at (α := List Vt × List Vt) (a, b) ⟨h, h'⟩ (by
  rintro ⟨a', b'⟩ _ h _
  simp only [List.cons.injEq, AV.c.injEq, PC.sl.injEq, votes_iff, and_true] at h
  obtain ⟨rfl, rfl⟩ := h
  rfl)
set_option maxHeartbeats 4000000 in
theorem smV_sound : SoundC Tryz.prog 75 smVC := by
  refine sound_fn Tryz.func75 (by kernel_rfl) rfl rfl ?_
  intro args objs r0 hr
  obtain ⟨⟨a, b⟩, ⟨hl, hl'⟩, rfl, rfl, rfl⟩ := mkC_inv hr
  refine ⟨rfl, by show 2 ≤ _; decide, fun E hN hns hF => ?_⟩
  refine vc_sound none0_sound mixed _ _ _ ?_
  have hN := hN.trans nt_75
  have hl : a.length ≤ 9223372036854775807 := hl
  have hl' : b.length ≤ 9223372036854775807 := hl'
  dsimp only
  by_cases hab : a.length = b.length
  case neg =>
    have g0 : ((a.length : Int) != (b.length : Int)) = true := by simp; omega
    have hne : decide (a = b) = false := decide_eq_false (fun e => hab (by rw [e]))
    rw [hne]
    simp only [runA, runB, runC, runD, runE, runF, fieldE, storeE, binE, ↓reduceIte, Nat.reduceLT, Nat.reduceLeDiff, Nat.reduceEqDiff, Nat.reduceAdd, Nat.reduceMul, Nat.reduceSub, reduceCtorEq, putAt, unE, Nat.reduceBEq, convE, buildE, List.replicate, Int.reduceLT, Int.reduceLE, Int.reduceToNat, mkE, mapSetE, hN, hF, ty_3, ty_4, ty_9, ty_29, ty_97, notIf, isEq, votes_length, g0]
    simp only [runB, finC, finD, Option.isSome_some, Option.isSome_none, ↓reduceIte, Nat.reduceEqDiff, Nat.reduceAdd, Nat.reduceMul, forall_eq_or_imp, forall_eq, implies_true, Nat.reduceBEq, reduceCtorEq, false_implies, List.zip_cons_cons, List.zip_nil_left, List.zip_nil_right, Nat.reduceLeDiff, List.forall_mem_nil, rs_75, ty_3, ty_4, ty_9, ty_29, ty_97]
  have g0 : ((a.length : Int) != (b.length : Int)) = false := by simp [hab]
  simp only [runA, runB, runC, runD, runE, runF, fieldE, storeE, binE, ↓reduceIte, Nat.reduceLT, Nat.reduceLeDiff, Nat.reduceEqDiff, Nat.reduceAdd, Nat.reduceMul, Nat.reduceSub, reduceCtorEq, putAt, unE, Nat.reduceBEq, convE, buildE, List.replicate, Int.reduceLT, Int.reduceLE, Int.reduceToNat, mkE, mapSetE, hN, hF, ty_3, ty_4, ty_9, ty_29, ty_97, notIf, isEq, votes_length, g0]
  refine AWP.loop (fun k st => ∃ i : Nat, (i ≤ a.length ∧ ∀ k, k < i → a.getD k zeroV = b.getD k zeroV) ∧ k = a.length - i ∧ st = ⟨[(0, .c (.sl (votes a))), (1, .c (.sl (votes b))), (5, .c (.int .i64 (i : Int)))], []⟩) ⟨a.length, _, ?w, 0, ⟨Nat.zero_le _, fun k hk => absurd hk (by omega)⟩, rfl, rfl⟩ ?r
  case w =>
    rw [hns]
    simp only [runB, finC, finD, AS.get, AS.mem, false_implies, implies_true, ↓reduceIte, Nat.reduceEqDiff, Option.isSome_some, Option.isSome_none, forall_eq_or_imp, forall_eq, reduceCtorEq, Nat.reduceAdd, Nat.reduceMul, List.zip_cons_cons, List.zip_nil_left, List.zip_nil_right, List.forall_mem_nil]
    first | done | simp
  case r =>
    rintro k st ⟨i, ⟨hi, h8⟩, rfl, rfl⟩
    refine vc_sound none0_sound mixed _ _ _ ?_
    by_cases hlt : i < a.length
    · have k1 : decide ((i : Int) < (a.length : Int)) = true := decide_eq_true (by omega)
      have e1 : IntKind.i64.wrap ((i : Int) + 1) = (i : Int) + 1 := wrapI (by omega)
      have hg := votesD a i hlt
      have hg' := votesD b i (by omega)
      have hq := eqd_vo (a.getD i zeroV) (b.getD i zeroV)
      by_cases hy : a.getD i zeroV = b.getD i zeroV
      · have hd : decide (a.getD i zeroV = b.getD i zeroV) = true := decide_eq_true hy
        rw [hd] at hq
        have h8' : ∀ k, k < i + 1 → a.getD k zeroV = b.getD k zeroV := fun k hk => by
          by_cases e : k = i
          · rw [e]; exact hy
          · exact h8 k (by omega)
        unfold Vt.pcs at hg hg'
        generalize a.getD i zeroV = y at hg hq
        generalize b.getD i zeroV = z at hg' hq
        have nt1 : (!true) = false := rfl
        simp only [runA, runB, runC, runD, runE, runF, fieldE, storeE, binE, ↓reduceIte, Nat.reduceLT, Nat.reduceLeDiff, Nat.reduceEqDiff, Nat.reduceAdd, Nat.reduceMul, Nat.reduceSub, reduceCtorEq, putAt, unE, Nat.reduceBEq, convE, buildE, List.replicate, Int.reduceLT, Int.reduceLE, Int.reduceToNat, mkE, mapSetE, hN, hF, ty_3, ty_4, ty_9, ty_29, ty_97, notIf, isEq, k1, e1, hg, hg', eqg_vo, hq, nt1, votes_length]
        refine drawnP_intro (by kernel_rfl) (by kernel_rfl) ?_
        simp only [runA, runB, runC, runD, runE, runF, fieldE, storeE, binE, ↓reduceIte, Nat.reduceLT, Nat.reduceLeDiff, Nat.reduceEqDiff, Nat.reduceAdd, Nat.reduceMul, Nat.reduceSub, reduceCtorEq, putAt, unE, Nat.reduceBEq, convE, buildE, List.replicate, Int.reduceLT, Int.reduceLE, Int.reduceToNat, mkE, mapSetE, hN, hF, ty_3, ty_4, ty_9, ty_29, ty_97, notIf, isEq, k1, e1, hg, hg', eqg_vo, hq, nt1, votes_length]
        refine ⟨a.length - (i + 1), _, by omega, ?_, i + 1, ⟨by omega, h8'⟩, rfl, rfl⟩
        rw [hns]
        simp only [runB, finC, finD, AS.get, AS.mem, false_implies, implies_true, ↓reduceIte, Nat.reduceEqDiff, Option.isSome_some, Option.isSome_none, forall_eq_or_imp, forall_eq, reduceCtorEq, Nat.reduceAdd, Nat.reduceMul, List.zip_cons_cons, List.zip_nil_left, List.zip_nil_right, List.forall_mem_nil]
        first | done | simp
      · have hd : decide (a.getD i zeroV = b.getD i zeroV) = false := decide_eq_false hy
        rw [hd] at hq
        have hne : decide (a = b) = false := decide_eq_false (fun e => hy (by rw [e]))
        rw [hne]
        unfold Vt.pcs at hg hg'
        generalize a.getD i zeroV = y at hg hq
        generalize b.getD i zeroV = z at hg' hq
        have ntf : (!false) = true := rfl
        simp only [runA, runB, runC, runD, runE, runF, fieldE, storeE, binE, ↓reduceIte, Nat.reduceLT, Nat.reduceLeDiff, Nat.reduceEqDiff, Nat.reduceAdd, Nat.reduceMul, Nat.reduceSub, reduceCtorEq, putAt, unE, Nat.reduceBEq, convE, buildE, List.replicate, Int.reduceLT, Int.reduceLE, Int.reduceToNat, mkE, mapSetE, hN, hF, ty_3, ty_4, ty_9, ty_29, ty_97, notIf, isEq, k1, e1, hg, hg', eqg_vo, hq, ntf, votes_length]
        refine drawnP_intro (by kernel_rfl) (by kernel_rfl) ?_
        simp only [runA, runB, runC, runD, runE, runF, fieldE, storeE, binE, ↓reduceIte, Nat.reduceLT, Nat.reduceLeDiff, Nat.reduceEqDiff, Nat.reduceAdd, Nat.reduceMul, Nat.reduceSub, reduceCtorEq, putAt, unE, Nat.reduceBEq, convE, buildE, List.replicate, Int.reduceLT, Int.reduceLE, Int.reduceToNat, mkE, mapSetE, hN, hF, ty_3, ty_4, ty_9, ty_29, ty_97, notIf, isEq, k1, e1, hg, hg', eqg_vo, hq, ntf, votes_length]
        simp only [runB, finC, finD, Option.isSome_some, Option.isSome_none, ↓reduceIte, Nat.reduceEqDiff, Nat.reduceAdd, Nat.reduceMul, forall_eq_or_imp, forall_eq, implies_true, Nat.reduceBEq, reduceCtorEq, false_implies, List.zip_cons_cons, List.zip_nil_left, List.zip_nil_right, Nat.reduceLeDiff, List.forall_mem_nil, rs_75, ty_3, ty_4, ty_9, ty_29, ty_97]
    · have k1 : decide ((i : Int) < (a.length : Int)) = false := decide_eq_false (by omega)
      obtain rfl : i = a.length := by omega
      have hne : decide (a = b) = true := decide_eq_true (getD_extM hab h8)
      rw [hne]
      simp only [runA, runB, runC, runD, runE, runF, fieldE, storeE, binE, ↓reduceIte, Nat.reduceLT, Nat.reduceLeDiff, Nat.reduceEqDiff, Nat.reduceAdd, Nat.reduceMul, Nat.reduceSub, reduceCtorEq, putAt, unE, Nat.reduceBEq, convE, buildE, List.replicate, Int.reduceLT, Int.reduceLE, Int.reduceToNat, mkE, mapSetE, hN, hF, ty_3, ty_4, ty_9, ty_29, ty_97, notIf, isEq, k1, votes_length]
      simp only [runB, finC, finD, Option.isSome_some, Option.isSome_none, ↓reduceIte, Nat.reduceEqDiff, Nat.reduceAdd, Nat.reduceMul, forall_eq_or_imp, forall_eq, implies_true, Nat.reduceBEq, reduceCtorEq, false_implies, List.zip_cons_cons, List.zip_nil_left, List.zip_nil_right, Nat.reduceLeDiff, List.forall_mem_nil, rs_75, ty_3, ty_4, ty_9, ty_29, ty_97]
def lnC (c : Ct) : Prop := c.vs.length ≤ 9223372036854775807
noncomputable def scRC : Contract := mkC (α := Ct × Ct) (fun p => lnC p.1 ∧ lnC p.2) (fun p => [p.1.av, p.2.av]) (fun _ => []) (fun p => ⟨[.pv (.c (.bool (decide (p.1 = p.2))))], []⟩)
theorem scR_at (a b : Ct) (h : lnC a) (h' : lnC b) : scRC [.agg [.c (.int .i64 a.vw), .c (.int .i64 a.ht), .c (.str a.bl), .c (.sl (votes a.vs))], .agg [.c (.int .i64 b.vw), .c (.int .i64 b.ht), .c (.str b.bl), .c (.sl (votes b.vs))]] [] = some ⟨[.pv (.c (.bool (decide (a = b))))], []⟩ := mkC_at (α := Ct × Ct) (a, b) ⟨h, h'⟩ (by
  rintro ⟨a', b'⟩ _ h _
  have h : [a'.av, b'.av] = [a.av, b.av] := h
  simp only [List.cons.injEq, Ct.av_iff, and_true] at h
  obtain ⟨rfl, rfl⟩ := h
  rfl)

set_option maxRecDepth 100000 in
set_option maxHeartbeats 4000000 in
theorem scR_sound (hΓ : SoundG Tryz.prog Γ) (h2 : Γ 75 = smVC) : SoundC Tryz.prog 28 scRC := by
  refine sound_fn Tryz.func28 (by kernel_rfl) rfl rfl ?_
  intro args objs r0 hr
  obtain ⟨⟨⟨a1, a2, a3, a4⟩, ⟨b1, b2, b3, b4⟩⟩, ⟨hl, hl'⟩, rfl, rfl, rfl⟩ := mkC_inv hr
  refine ⟨rfl, by show 2 ≤ _; decide, fun E hN hns hF => ?_⟩
  refine vc_sound hΓ mixed _ _ _ ?_
  have hN := hN.trans nt_28
  have hl : a4.length ≤ 9223372036854775807 := hl
  have hl' : b4.length ≤ 9223372036854775807 := hl'
  have q2 := smV_at a4 b4 hl hl'
  unfold Ct.av
  dsimp only
  have hE : decide ((⟨a1, a2, a3, a4⟩ : Ct) = ⟨b1, b2, b3, b4⟩) = ((a1 == b1) && ((a2 == b2) && ((a3 == b3) && decide (a4 = b4)))) := by
    rw [Bool.eq_iff_iff]
    simp only [Bool.and_eq_true, decide_eq_true_iff, Ct.mk.injEq, beq_iff_eq]
  rw [hE]
  generalize decide (a4 = b4) = d4 at q2 ⊢
  generalize hb1 : (a1 == b1) = d1
  generalize hb2 : (a2 == b2) = d2
  generalize hb3 : (a3 == b3) = d3
  cases d1 <;> cases d2 <;> cases d3
  all_goals
    simp only [runA, runB, runC, runD, runE, runF, fieldE, storeE, binE, ↓reduceIte, Nat.reduceLT, Nat.reduceLeDiff, Nat.reduceEqDiff, Nat.reduceAdd, Nat.reduceMul, Nat.reduceSub, reduceCtorEq, putAt, unE, Nat.reduceBEq, convE, buildE, List.replicate, Int.reduceLT, Int.reduceLE, Int.reduceToNat, mkE, mapSetE, hN, hF, ty_3, ty_4, ty_9, ty_29, ty_31, ty_97, notIf, isEq, hb1, hb2, hb3, h2, q2, Bool.true_and, Bool.false_and]
    iterate 3 (try (refine drawnP_intro (by kernel_rfl) (by kernel_rfl) ?_; simp only [runA, runB, runC, runD, runE, runF, fieldE, storeE, binE, ↓reduceIte, Nat.reduceLT, Nat.reduceLeDiff, Nat.reduceEqDiff, Nat.reduceAdd, Nat.reduceMul, Nat.reduceSub, reduceCtorEq, putAt, unE, Nat.reduceBEq, convE, buildE, List.replicate, Int.reduceLT, Int.reduceLE, Int.reduceToNat, mkE, mapSetE, hN, hF, ty_3, ty_4, ty_9, ty_29, ty_31, ty_97, notIf, isEq, hb1, hb2, hb3, h2, q2, Bool.true_and, Bool.false_and]))
    simp only [runB, finC, finD, Option.isSome_some, Option.isSome_none, ↓reduceIte, Nat.reduceEqDiff, Nat.reduceAdd, Nat.reduceMul, forall_eq_or_imp, forall_eq, implies_true, Nat.reduceBEq, reduceCtorEq, false_implies, List.zip_cons_cons, List.zip_nil_left, List.zip_nil_right, Nat.reduceLeDiff, List.forall_mem_nil, rs_28, ty_3, ty_4, ty_9, ty_29, ty_31, ty_97, Bool.true_and, Bool.false_and]


variable {Γ : FuncId → Contract}

def ctrows (l : List Ct) : List (List PC) := l.map Ct.pcs
def forks (l : List (Ct × Ct)) : List (List PC) := l.map fun p => p.1.pcs ++ p.2.pcs
theorem Ct.pcs_inj' {a b : Ct} (h : a.pcs = b.pcs) : a = b := by
  obtain ⟨a1, a2, a3, a4⟩ := a
  obtain ⟨b1, b2, b3, b4⟩ := b
  simp only [Ct.pcs, List.cons.injEq, PC.int.injEq, PC.str.injEq, PC.sl.injEq, votes_iff, true_and, and_true] at h
  obtain ⟨rfl, rfl, rfl, rfl⟩ := h
  rfl
theorem ctrows_inj {a b : List Ct} (h : ctrows a = ctrows b) : a = b := (List.map_inj_right (fun x y h => Ct.pcs_inj' h)).1 h
theorem ctrows_length (l : List Ct) : (ctrows l).length = l.length := by simp [ctrows]
theorem forks_length (l : List (Ct × Ct)) : (forks l).length = l.length := by simp [forks]
def zeroC : Ct := ⟨0, 0, [], []⟩
theorem ctrowsD (l : List Ct) (i : Nat) (h : i < l.length) : (ctrows l)[i]? = some (Ct.pcs (l.getD i zeroC)) := by
  unfold ctrows
  rw [List.getElem?_map, List.getElem?_eq_getElem h, List.getD_eq_getElem?_getD, List.getElem?_eq_getElem h]
  rfl
theorem forksD (l : List (Ct × Ct)) (i : Nat) (h : i < l.length) : (forks l)[i]? = some ((l.getD i (zeroC, zeroC)).1.pcs ++ (l.getD i (zeroC, zeroC)).2.pcs) := by
  unfold forks
  rw [List.getElem?_map, List.getElem?_eq_getElem h, List.getD_eq_getElem?_getD, List.getElem?_eq_getElem h]
  rfl
noncomputable def cpcC : Contract := mkC (α := Ct) (fun c => c.vs.length ≤ 1099511627776) (fun c => [c.av]) (fun _ => []) (fun c => ⟨[.pv c.av], []⟩)
theorem cpc_at (c : Ct) (h : c.vs.length ≤ 1099511627776) : cpcC [.agg [.c (.int .i64 c.vw), .c (.int .i64 c.ht), .c (.str c.bl), .c (.sl (votes c.vs))]] [] = some ⟨[.pv (.agg [.c (.int .i64 c.vw), .c (.int .i64 c.ht), .c (.str c.bl), .c (.sl (votes c.vs))])], []⟩ :=
  mkC_at (α := Ct) c h (by
    rintro c' _ h _
    have h' : [c'.av] = [c.av] := h
    simp only [List.cons.injEq, and_true] at h'
    rw [Ct.av_inj h'])

set_option maxRecDepth 100000 in
set_option maxHeartbeats 4000000 in
theorem cpc_sound (hΓ : SoundG Tryz.prog Γ) (h1 : Γ 48 = clnVC) : SoundC Tryz.prog 71 cpcC := by
  refine sound_fn Tryz.func71 (by kernel_rfl) rfl rfl ?_
  intro args objs r0 hr
  obtain ⟨⟨cvw, cht, cbl, cvs⟩, hl, rfl, rfl, rfl⟩ := mkC_inv hr
  refine ⟨rfl, by show 1 ≤ _; decide, fun E hN hns hF => ?_⟩
  refine vc_sound hΓ mixed _ _ _ ?_
  have hN := hN.trans nt_71
  have q1 := clnV_at cvs hl
  unfold Ct.av
  dsimp only
  simp only [runA, runB, runC, runD, runE, runF, fieldE, storeE, binE, ↓reduceIte, Nat.reduceLT, Nat.reduceLeDiff, Nat.reduceEqDiff, Nat.reduceAdd, Nat.reduceMul, Nat.reduceSub, reduceCtorEq, putAt, unE, Nat.reduceBEq, convE, buildE, List.replicate, Int.reduceLT, Int.reduceLE, Int.reduceToNat, mkE, mapSetE, hN, hF, ty_3, ty_9, ty_29, ty_31, ty_97, notIf, isEq, h1, q1]
  iterate 3 (try (refine drawnP_intro (by kernel_rfl) (by kernel_rfl) ?_; simp only [runA, runB, runC, runD, runE, runF, fieldE, storeE, binE, ↓reduceIte, Nat.reduceLT, Nat.reduceLeDiff, Nat.reduceEqDiff, Nat.reduceAdd, Nat.reduceMul, Nat.reduceSub, reduceCtorEq, putAt, unE, Nat.reduceBEq, convE, buildE, List.replicate, Int.reduceLT, Int.reduceLE, Int.reduceToNat, mkE, mapSetE, hN, hF, ty_3, ty_9, ty_29, ty_31, ty_97, notIf, isEq, h1, q1]))
  simp only [runB, finC, finD, Option.isSome_some, Option.isSome_none, ↓reduceIte, Nat.reduceEqDiff, Nat.reduceAdd, Nat.reduceMul, forall_eq_or_imp, forall_eq, implies_true, Nat.reduceBEq, reduceCtorEq, false_implies, List.zip_cons_cons, List.zip_nil_left, List.zip_nil_right, Nat.reduceLeDiff, List.forall_mem_nil, rs_71, agg_31, sz_31]

end Go.Proofs.YtenmlgalcjkdbaaGreat.AM
