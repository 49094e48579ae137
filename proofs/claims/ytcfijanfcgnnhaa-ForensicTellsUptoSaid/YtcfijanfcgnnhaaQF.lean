/-
  QF: Fo8.
-/
import Derived.Test.YtcfijanfcgnnhaaQE
set_option linter.unusedVariables false
set_option linter.unusedSimpArgs false
namespace Go.Proofs.Ytcfijanfcgnnhaa.AM
open Go Go.Proofs

variable {Γ : FuncId → Contract}

theorem eqg_vo : Try.prog.eqGuardType Try.prog.depth 47 = false := by kernel_rfl
theorem eqd_vo (a b : Vt) : eqE Try.prog 10000 47 [.int .i64 a.kd, .int .i64 a.vw, .int .i64 a.ht, .str a.bl, .int .i64 a.tk, .int .i64 a.sg, .str a.sig] [.int .i64 b.kd, .int .i64 b.vw, .int .i64 b.ht, .str b.bl, .int .i64 b.tk, .int .i64 b.sg, .str b.sig] = some (decide (a = b)) := by
  have h : eqE Try.prog 10000 47 [.int .i64 a.kd, .int .i64 a.vw, .int .i64 a.ht, .str a.bl, .int .i64 a.tk, .int .i64 a.sg, .str a.sig] [.int .i64 b.kd, .int .i64 b.vw, .int .i64 b.ht, .str b.bl, .int .i64 b.tk, .int .i64 b.sg, .str b.sig] = some ((a.kd == b.kd) && ((a.vw == b.vw) && ((a.ht == b.ht) && ((a.bl == b.bl) && ((a.tk == b.tk) && ((a.sg == b.sg) && ((a.sig == b.sig) && true))))))) := by kernel_rfl
  refine h.trans (congrArg some ?_)
  obtain ⟨a0, a1, a2, a3, a4, a5, a6⟩ := a
  obtain ⟨b0, b1, b2, b3, b4, b5, b6⟩ := b
  rw [Bool.eq_iff_iff, decide_eq_true_iff, Vt.mk.injEq]
  simp only [Bool.and_eq_true, beq_iff_eq, and_true]
theorem any_succ (l : List Int) (n : Int) (k : Nat) (h : k < l.length) : (l.take (k + 1)).any (· == n) = ((l.take k).any (· == n) || (l.getD k 0 == n)) := by
  rw [List.take_add_one, List.getElem?_eq_getElem h, List.any_append, List.getD_eq_getElem?_getD, List.getElem?_eq_getElem h]
  simp
theorem any_mem (l : List Int) (n : Int) : l.any (· == n) = decide (n ∈ l) := by
  rw [Bool.eq_iff_iff]
  simp
noncomputable def ftlC : Contract := mkC (α := (Ct × Ct) × Int × Int) (fun p => p.1.1.vs.length ≤ 1073741824 ∧ p.1.2.vs.length ≤ 9223372036854775807) (fun p => [forkAV p.1.1 p.1.2, .c (.int .i64 p.2.1), .c (.int .i64 p.2.2)]) (fun _ => []) (fun _ => ⟨[.pv (.c (.bool true))], []⟩)

set_option maxRecDepth 100000 in
set_option maxHeartbeats 16000000 in
theorem ftl_sound (hΓ : SoundG Try.prog Γ) (h1 : Γ 39 = suspC) (h2 : Γ 40 = blmC) (h3 : Γ 41 = sgnIC) (h4 : Γ 42 = fewC) (h5 : Γ 43 = alive42C) : SoundC Try.prog 8 ftlC := by
  refine sound_fn Try.func8 (by kernel_rfl) rfl rfl ?_
  intro args objs r0 hr
  obtain ⟨⟨⟨⟨avw, aht, abl, avs⟩, ⟨bvw, bht, bbl, bvs⟩⟩, r, q⟩, ⟨ha, hb⟩, rfl, rfl, rfl⟩ := mkC_inv hr
  refine ⟨rfl, by show 3 ≤ _; decide, fun E hN hns hF => ?_⟩
  refine vc_sound hΓ mixed _ _ _ ?_
  have hN := hN.trans nt_8
  have ha : avs.length ≤ 1073741824 := ha
  have hb : bvs.length ≤ 9223372036854775807 := hb
  have q1 := susp_at ⟨avw, aht, abl, avs⟩ ⟨bvw, bht, bbl, bvs⟩ (by show avs.length ≤ _; omega) hb
  have q2 := blm_at ⟨avw, aht, abl, avs⟩ ⟨bvw, bht, bbl, bvs⟩ ha hb
  have hsl := susp_len avs bvs
  have hlt0 := susp_lt avs bvs
  have hboth := fun n => @susp_both avs bvs n
  have hin := fun v => @susp_in avs bvs v
  unfold forkAV at q1 q2 ⊢
  dsimp only at q1 q2 ⊢
  generalize suspL avs bvs = S at *
  have hbl := blame_len avs bvs S
  have hbg := blame_get avs bvs S
  generalize blameL avs bvs S = Bl at *
  have hzl := zn_length S
  have hvb := votes_length Bl
  rw [hbl] at hvb
  have hva := votes_length avs
  have w2s : IntKind.i64.wrap (2 * (S.length : Int)) = ((2 * S.length : Nat) : Int) := by rw [wrapI (by omega)]; omega
  have ne0 : (((2 * S.length : Nat) : Int) != ((2 * S.length : Nat) : Int)) = false := by simp
  simp only [runA, runB, runC, runD, runE, runF, fieldE, storeE, binE, ↓reduceIte, Nat.reduceLT, Nat.reduceLeDiff, Nat.reduceEqDiff, Nat.reduceAdd, Nat.reduceMul, Nat.reduceSub, reduceCtorEq, putAt, unE, Nat.reduceBEq, convE, buildE, List.replicate, Int.reduceLT, Int.reduceLE, Int.reduceToNat, mkE, mapSetE, hN, hF, ty_3, ty_4, ty_9, ty_47, ty_60, ty_79, ty_81, ty_83, notIf, isEq, h1, q1, h2, q2]
  iterate 2 (try (refine drawnP_intro (by kernel_rfl) (by kernel_rfl) ?_; simp only [runA, runB, runC, runD, runE, runF, fieldE, storeE, binE, ↓reduceIte, Nat.reduceLT, Nat.reduceLeDiff, Nat.reduceEqDiff, Nat.reduceAdd, Nat.reduceMul, Nat.reduceSub, reduceCtorEq, putAt, unE, Nat.reduceBEq, convE, buildE, List.replicate, Int.reduceLT, Int.reduceLE, Int.reduceToNat, mkE, mapSetE, hN, hF, ty_3, ty_4, ty_9, ty_47, ty_60, ty_79, ty_81, ty_83, notIf, isEq, h1, q1, h2, q2]))
  refine AWP.loop (fun c st => ∃ i : Nat, i ≤ avs.length ∧ c = avs.length - i ∧ st = ⟨[(1, .c (.int .i64 r)), (2, .c (.int .i64 q)), (3, .ptr 192 0), (6, .c (.bool false)), (7, .c (.sl (zn S))), (8, .c (.sl (votes Bl))), (9, .c (.int .i64 (i : Int)))], [(192, .obj [.c (.int .i64 avw), .c (.int .i64 aht), .c (.str abl), .c (.sl (votes avs)), .c (.int .i64 bvw), .c (.int .i64 bht), .c (.str bbl), .c (.sl (votes bvs))] false)]⟩) ⟨avs.length, _, ?w, 0, Nat.zero_le _, rfl, rfl⟩ ?r
  case w =>
    rw [hns]
    simp only [runB, finC, finD, AS.get, AS.mem, false_implies, implies_true, ↓reduceIte, Nat.reduceEqDiff, Option.isSome_some, Option.isSome_none, forall_eq_or_imp, forall_eq, reduceCtorEq, Nat.reduceAdd, Nat.reduceMul, List.zip_cons_cons, List.zip_nil_left, List.zip_nil_right, List.forall_mem_nil]
    first | done | simp
  case r =>
    rintro c st ⟨i, hi, rfl, rfl⟩
    refine vc_sound hΓ mixed _ _ _ ?_
    by_cases hlt : i < avs.length
    · have k1 : decide ((i : Int) < (avs.length : Int)) = true := decide_eq_true (by omega)
      have e1 : IntKind.i64.wrap ((i : Int) + 1) = (i : Int) + 1 := wrapI (by omega)
      have hi2 : ((i : Int) < (avs.length : Int)) = True := eq_true (by omega)
      have hg := votesD avs i hlt
      have hym : avs.getD i zeroV ∈ avs := by rw [List.getD_eq_getElem?_getD, List.getElem?_eq_getElem hlt]; exact List.getElem_mem hlt
      have hyin := hin _ hym
      generalize avs.getD i zeroV = y at *
      obtain ⟨kd, vw, ht, bl, tk, sg, sig⟩ := y
      unfold Vt.pcs at hg
      dsimp only at hg hyin
      have q3 := sgnI_at ⟨bvw, bht, bbl, bvs⟩ sg hb
      dsimp only at q3
      simp only [runA, runB, runC, runD, runE, runF, fieldE, storeE, binE, ↓reduceIte, Nat.reduceLT, Nat.reduceLeDiff, Nat.reduceEqDiff, Nat.reduceAdd, Nat.reduceMul, Nat.reduceSub, reduceCtorEq, putAt, unE, Nat.reduceBEq, convE, buildE, List.replicate, Int.reduceLT, Int.reduceLE, Int.reduceToNat, mkE, mapSetE, hN, hF, ty_3, ty_4, ty_9, ty_47, ty_60, ty_79, ty_81, ty_83, notIf, isEq, k1, hi2, hva, hg, hzl]
      iterate 2 (try (refine drawnP_intro (by kernel_rfl) (by kernel_rfl) ?_; simp only [runA, runB, runC, runD, runE, runF, fieldE, storeE, binE, ↓reduceIte, Nat.reduceLT, Nat.reduceLeDiff, Nat.reduceEqDiff, Nat.reduceAdd, Nat.reduceMul, Nat.reduceSub, reduceCtorEq, putAt, unE, Nat.reduceBEq, convE, buildE, List.replicate, Int.reduceLT, Int.reduceLE, Int.reduceToNat, mkE, mapSetE, hN, hF, ty_3, ty_4, ty_9, ty_47, ty_60, ty_79, ty_81, ty_83, notIf, isEq, k1, hi2, hva, hg, hzl]))
      refine AWP.loop (fun c st => ∃ k : Nat, k ≤ S.length ∧ c = S.length - k ∧ st = ⟨[(1, .c (.int .i64 r)), (2, .c (.int .i64 q)), (3, .ptr 192 0), (6, .c (.bool false)), (7, .c (.sl (zn S))), (8, .c (.sl (votes Bl))), (9, .c (.int .i64 (i : Int))), (10, .ptr 640 0), (11, .c (.bool ((S.take k).any (· == sg)))), (12, .c (.int .i64 (k : Int)))], [(192, .obj [.c (.int .i64 avw), .c (.int .i64 aht), .c (.str abl), .c (.sl (votes avs)), .c (.int .i64 bvw), .c (.int .i64 bht), .c (.str bbl), .c (.sl (votes bvs))] false), (640, .obj [.c (.int .i64 kd), .c (.int .i64 vw), .c (.int .i64 ht), .c (.str bl), .c (.int .i64 tk), .c (.int .i64 sg), .c (.str sig)] false)]⟩) ⟨S.length, _, ?w2, 0, Nat.zero_le _, rfl, rfl⟩ ?r2
      case w2 =>
        rw [hns]
        simp only [runB, finC, finD, AS.get, AS.mem, false_implies, implies_true, ↓reduceIte, Nat.reduceEqDiff, Option.isSome_some, Option.isSome_none, forall_eq_or_imp, forall_eq, reduceCtorEq, Nat.reduceAdd, Nat.reduceMul, List.zip_cons_cons, List.zip_nil_left, List.zip_nil_right, List.forall_mem_nil, List.take_zero, List.any_nil]
        first | done | simp
      case r2 =>
        rintro c st ⟨k, hk, rfl, rfl⟩
        refine vc_sound hΓ mixed _ _ _ ?_
        by_cases hlk : k < S.length
        · have k2 : decide ((k : Int) < (S.length : Int)) = true := decide_eq_true (by omega)
          have e2 : IntKind.i64.wrap ((k : Int) + 1) = (k : Int) + 1 := wrapI (by omega)
          have hk2 : ((k : Int) < (S.length : Int)) = True := eq_true (by omega)
          have hgk := znD S k hlk
          have has := any_succ S sg k hlk
          generalize S.getD k 0 = n at *
          generalize (S.take k).any (· == sg) = inB at *
          cases inB with
          | true =>
            rw [Bool.true_or] at has
            simp only [runA, runB, runC, runD, runE, runF, fieldE, storeE, binE, ↓reduceIte, Nat.reduceLT, Nat.reduceLeDiff, Nat.reduceEqDiff, Nat.reduceAdd, Nat.reduceMul, Nat.reduceSub, reduceCtorEq, putAt, unE, Nat.reduceBEq, convE, buildE, List.replicate, Int.reduceLT, Int.reduceLE, Int.reduceToNat, mkE, mapSetE, hN, hF, ty_3, ty_4, ty_9, ty_47, ty_60, ty_79, ty_81, ty_83, notIf, isEq, k2, hk2, hzl, hgk, e2]
            iterate 2 (try (refine drawnP_intro (by kernel_rfl) (by kernel_rfl) ?_; simp only [runA, runB, runC, runD, runE, runF, fieldE, storeE, binE, ↓reduceIte, Nat.reduceLT, Nat.reduceLeDiff, Nat.reduceEqDiff, Nat.reduceAdd, Nat.reduceMul, Nat.reduceSub, reduceCtorEq, putAt, unE, Nat.reduceBEq, convE, buildE, List.replicate, Int.reduceLT, Int.reduceLE, Int.reduceToNat, mkE, mapSetE, hN, hF, ty_3, ty_4, ty_9, ty_47, ty_60, ty_79, ty_81, ty_83, notIf, isEq, k2, hk2, hzl, hgk, e2]))
            refine ⟨S.length - (k + 1), _, by omega, ?_, k + 1, by omega, rfl, rfl⟩
            rw [has]
            rw [hns]
            simp only [runB, finC, finD, AS.get, AS.mem, false_implies, implies_true, ↓reduceIte, Nat.reduceEqDiff, Option.isSome_some, Option.isSome_none, forall_eq_or_imp, forall_eq, reduceCtorEq, Nat.reduceAdd, Nat.reduceMul, List.zip_cons_cons, List.zip_nil_left, List.zip_nil_right, List.forall_mem_nil]
            first | done | (simp; done) | (simp; omega) | omega
          | false =>
            rw [Bool.false_or] at has
            obtain ⟨eB, heB⟩ : ∃ eB, (n == sg) = eB := ⟨_, rfl⟩
            rw [heB] at has
            simp only [runA, runB, runC, runD, runE, runF, fieldE, storeE, binE, ↓reduceIte, Nat.reduceLT, Nat.reduceLeDiff, Nat.reduceEqDiff, Nat.reduceAdd, Nat.reduceMul, Nat.reduceSub, reduceCtorEq, putAt, unE, Nat.reduceBEq, convE, buildE, List.replicate, Int.reduceLT, Int.reduceLE, Int.reduceToNat, mkE, mapSetE, hN, hF, ty_3, ty_4, ty_9, ty_47, ty_60, ty_79, ty_81, ty_83, notIf, isEq, k2, hk2, hzl, hgk, e2, heB]
            iterate 2 (try (refine drawnP_intro (by kernel_rfl) (by kernel_rfl) ?_; simp only [runA, runB, runC, runD, runE, runF, fieldE, storeE, binE, ↓reduceIte, Nat.reduceLT, Nat.reduceLeDiff, Nat.reduceEqDiff, Nat.reduceAdd, Nat.reduceMul, Nat.reduceSub, reduceCtorEq, putAt, unE, Nat.reduceBEq, convE, buildE, List.replicate, Int.reduceLT, Int.reduceLE, Int.reduceToNat, mkE, mapSetE, hN, hF, ty_3, ty_4, ty_9, ty_47, ty_60, ty_79, ty_81, ty_83, notIf, isEq, k2, hk2, hzl, hgk, e2, heB]))
            refine ⟨S.length - (k + 1), _, by omega, ?_, k + 1, by omega, rfl, rfl⟩
            rw [has]
            rw [hns]
            simp only [runB, finC, finD, AS.get, AS.mem, false_implies, implies_true, ↓reduceIte, Nat.reduceEqDiff, Option.isSome_some, Option.isSome_none, forall_eq_or_imp, forall_eq, reduceCtorEq, Nat.reduceAdd, Nat.reduceMul, List.zip_cons_cons, List.zip_nil_left, List.zip_nil_right, List.forall_mem_nil]
            first | done | (simp; done) | (simp; omega) | omega
        · have k2 : decide ((k : Int) < (S.length : Int)) = false := decide_eq_false (by omega)
          obtain rfl : k = S.length := by omega
          rw [List.take_length, any_mem]
          cases p1 : kd == 1 with
          | false =>
            simp only [runA, runB, runC, runD, runE, runF, fieldE, storeE, binE, ↓reduceIte, Nat.reduceLT, Nat.reduceLeDiff, Nat.reduceEqDiff, Nat.reduceAdd, Nat.reduceMul, Nat.reduceSub, reduceCtorEq, putAt, unE, Nat.reduceBEq, convE, buildE, List.replicate, Int.reduceLT, Int.reduceLE, Int.reduceToNat, mkE, mapSetE, hN, hF, ty_3, ty_4, ty_9, ty_47, ty_60, ty_79, ty_81, ty_83, notIf, isEq, k2, hzl, p1, e1]
            iterate 3 (try (refine drawnP_intro (by kernel_rfl) (by kernel_rfl) ?_; simp only [runA, runB, runC, runD, runE, runF, fieldE, storeE, binE, ↓reduceIte, Nat.reduceLT, Nat.reduceLeDiff, Nat.reduceEqDiff, Nat.reduceAdd, Nat.reduceMul, Nat.reduceSub, reduceCtorEq, putAt, unE, Nat.reduceBEq, convE, buildE, List.replicate, Int.reduceLT, Int.reduceLE, Int.reduceToNat, mkE, mapSetE, hN, hF, ty_3, ty_4, ty_9, ty_47, ty_60, ty_79, ty_81, ty_83, notIf, isEq, k2, hzl, p1, e1]))
            refine ⟨avs.length - (i + 1), _, by omega, ?_, i + 1, by omega, rfl, rfl⟩
            rw [hns]
            simp only [runB, finC, finD, AS.get, AS.mem, false_implies, implies_true, ↓reduceIte, Nat.reduceEqDiff, Option.isSome_some, Option.isSome_none, forall_eq_or_imp, forall_eq, reduceCtorEq, Nat.reduceAdd, Nat.reduceMul, List.zip_cons_cons, List.zip_nil_left, List.zip_nil_right, List.forall_mem_nil]
            first | done | (simp; done) | (simp; omega) | omega
          | true =>
            have hkd : kd = 1 := by simpa using p1
            have hiff := hyin hkd
            have nt1 : (!true) = false := rfl
            have hbeq : (decide (sg ∈ S) == decide (idxP (isS sg) bvs ≥ 0)) = true := by
              have : decide (sg ∈ S) = decide (idxP (isS sg) bvs ≥ 0) := by
                rw [decide_eq_decide]
                constructor
                · intro h; have := hiff.1 h; omega
                · intro h; exact hiff.2 (by omega)
              rw [this]; simp
            generalize decide (sg ∈ S) = bA at *
            generalize idxP (isS sg) bvs = iB at *
            simp only [runA, runB, runC, runD, runE, runF, fieldE, storeE, binE, ↓reduceIte, Nat.reduceLT, Nat.reduceLeDiff, Nat.reduceEqDiff, Nat.reduceAdd, Nat.reduceMul, Nat.reduceSub, reduceCtorEq, putAt, unE, Nat.reduceBEq, convE, buildE, List.replicate, Int.reduceLT, Int.reduceLE, Int.reduceToNat, mkE, mapSetE, hN, hF, ty_3, ty_4, ty_9, ty_47, ty_60, ty_79, ty_81, ty_83, notIf, isEq, k2, hzl, p1, e1, h3, q3, hbeq, nt1]
            iterate 3 (try (refine drawnP_intro (by kernel_rfl) (by kernel_rfl) ?_; simp only [runA, runB, runC, runD, runE, runF, fieldE, storeE, binE, ↓reduceIte, Nat.reduceLT, Nat.reduceLeDiff, Nat.reduceEqDiff, Nat.reduceAdd, Nat.reduceMul, Nat.reduceSub, reduceCtorEq, putAt, unE, Nat.reduceBEq, convE, buildE, List.replicate, Int.reduceLT, Int.reduceLE, Int.reduceToNat, mkE, mapSetE, hN, hF, ty_3, ty_4, ty_9, ty_47, ty_60, ty_79, ty_81, ty_83, notIf, isEq, k2, hzl, p1, e1, h3, q3, hbeq, nt1]))
            refine ⟨avs.length - (i + 1), _, by omega, ?_, i + 1, by omega, rfl, rfl⟩
            rw [hns]
            simp only [runB, finC, finD, AS.get, AS.mem, false_implies, implies_true, ↓reduceIte, Nat.reduceEqDiff, Option.isSome_some, Option.isSome_none, forall_eq_or_imp, forall_eq, reduceCtorEq, Nat.reduceAdd, Nat.reduceMul, List.zip_cons_cons, List.zip_nil_left, List.zip_nil_right, List.forall_mem_nil]
            first | done | (simp; done) | (simp; omega) | omega
    · have k1 : decide ((i : Int) < (avs.length : Int)) = false := decide_eq_false (by omega)
      obtain rfl : i = avs.length := by omega
      simp only [runA, runB, runC, runD, runE, runF, fieldE, storeE, binE, ↓reduceIte, Nat.reduceLT, Nat.reduceLeDiff, Nat.reduceEqDiff, Nat.reduceAdd, Nat.reduceMul, Nat.reduceSub, reduceCtorEq, putAt, unE, Nat.reduceBEq, convE, buildE, List.replicate, Int.reduceLT, Int.reduceLE, Int.reduceToNat, mkE, mapSetE, hN, hF, ty_3, ty_4, ty_9, ty_47, ty_60, ty_79, ty_81, ty_83, notIf, isEq, k1, hva, hzl, hvb, w2s, ne0]
      iterate 2 (try (refine drawnP_intro (by kernel_rfl) (by kernel_rfl) ?_; simp only [runA, runB, runC, runD, runE, runF, fieldE, storeE, binE, ↓reduceIte, Nat.reduceLT, Nat.reduceLeDiff, Nat.reduceEqDiff, Nat.reduceAdd, Nat.reduceMul, Nat.reduceSub, reduceCtorEq, putAt, unE, Nat.reduceBEq, convE, buildE, List.replicate, Int.reduceLT, Int.reduceLE, Int.reduceToNat, mkE, mapSetE, hN, hF, ty_3, ty_4, ty_9, ty_47, ty_60, ty_79, ty_81, ty_83, notIf, isEq, k1, hva, hzl, hvb, w2s, ne0]))
      refine AWP.loop (fun c st => ∃ i : Nat, i ≤ S.length ∧ c = S.length - i ∧ st = ⟨[(1, .c (.int .i64 r)), (2, .c (.int .i64 q)), (3, .ptr 192 0), (6, .c (.bool false)), (7, .c (.sl (zn S))), (8, .c (.sl (votes Bl))), (13, .c (.int .i64 (i : Int)))], [(192, .obj [.c (.int .i64 avw), .c (.int .i64 aht), .c (.str abl), .c (.sl (votes avs)), .c (.int .i64 bvw), .c (.int .i64 bht), .c (.str bbl), .c (.sl (votes bvs))] false)]⟩) ⟨S.length, _, ?w3, 0, Nat.zero_le _, rfl, rfl⟩ ?r3
      case w3 =>
        rw [hns]
        simp only [runB, finC, finD, AS.get, AS.mem, false_implies, implies_true, ↓reduceIte, Nat.reduceEqDiff, Option.isSome_some, Option.isSome_none, forall_eq_or_imp, forall_eq, reduceCtorEq, Nat.reduceAdd, Nat.reduceMul, List.zip_cons_cons, List.zip_nil_left, List.zip_nil_right, List.forall_mem_nil]
        first | done | simp
      case r3 =>
        rintro c st ⟨i, hi, rfl, rfl⟩
        refine vc_sound hΓ mixed _ _ _ ?_
        by_cases hlt : i < S.length
        · have k1 : decide ((i : Int) < (S.length : Int)) = true := decide_eq_true (by omega)
          have e1 : IntKind.i64.wrap ((i : Int) + 1) = (i : Int) + 1 := wrapI (by omega)
          have hi2 : ((i : Int) < (S.length : Int)) = True := eq_true (by omega)
          have hg := znD S i hlt
          have hnm : S.getD i 0 ∈ S := by rw [List.getD_eq_getElem?_getD, List.getElem?_eq_getElem hlt]; exact List.getElem_mem hlt
          obtain ⟨⟨x, hx, hxl⟩, ⟨z, hz, hzl2⟩⟩ := hboth _ hnm
          obtain ⟨g1, g2⟩ := hbg i hlt
          have hvi : ∀ j v, Bl[j]? = some v → (votes Bl)[j]? = some (Vt.pcs v) := fun j v h => by unfold votes; rw [List.getElem?_map, h]; rfl
          have v1 := hvi _ _ g1
          have v2 := hvi _ _ g2
          have f1 : fstV avs (S.getD i 0) = avs.getD x zeroV := by unfold fstV; rw [hx, if_neg (by omega), Int.toNat_natCast]
          have f2 : fstV bvs (S.getD i 0) = bvs.getD z zeroV := by unfold fstV; rw [hz, if_neg (by omega), Int.toNat_natCast]
          rw [f1] at v1
          rw [f2] at v2
          have v3 := votesD avs x hxl
          have v4 := votesD bvs z hzl2
          have q3 := sgnI_at ⟨avw, aht, abl, avs⟩ (S.getD i 0) (by show avs.length ≤ _; omega)
          have q4 := sgnI_at ⟨bvw, bht, bbl, bvs⟩ (S.getD i 0) hb
          dsimp only at q3 q4
          rw [hx] at q3
          rw [hz] at q4
          have hlast : 0 < i → ∃ p : Int, (zn S)[i - 1]? = some [.int .i64 p] ∧ decide (p ≥ S.getD i 0) = false := fun h0 => by
            refine ⟨S.getD (i - 1) 0, znD S (i - 1) (by omega), decide_eq_false ?_⟩
            have := List.pairwise_iff_getElem.1 hlt0 (i - 1) i (by omega) hlt (by omega)
            rw [List.getD_eq_getElem?_getD, List.getElem?_eq_getElem (by omega : i - 1 < S.length), List.getD_eq_getElem?_getD, List.getElem?_eq_getElem hlt]
            show ¬ S[i - 1] ≥ S[i]
            omega
          generalize S.getD i 0 = n at *
          generalize avs.getD x zeroV = ya at *
          generalize bvs.getD z zeroV = yb at *
          have E1 := eqd_vo ya ya
          have E2 := eqd_vo yb yb
          rw [decide_eq_true rfl] at E1 E2
          unfold Vt.pcs at v1 v2 v3 v4
          have n1 : decide ((x : Int) < 0) = false := decide_eq_false (by omega)
          have n2 : decide ((z : Int) < 0) = false := decide_eq_false (by omega)
          have u1 : IntKind.i64.wrap (2 * (i : Int)) = ((2 * i : Nat) : Int) := by rw [wrapI (by omega)]; omega
          have u2 : IntKind.i64.wrap (((2 * i : Nat) : Int) + 1) = ((2 * i + 1 : Nat) : Int) := by rw [wrapI (by omega)]; omega
          have c1 : (((2 * i : Nat) : Int) < ((2 * S.length : Nat) : Int)) = True := eq_true (by omega)
          have c2 : (((2 * i + 1 : Nat) : Int) < ((2 * S.length : Nat) : Int)) = True := eq_true (by omega)
          have c3 : ((x : Int) < (avs.length : Int)) = True := eq_true (by omega)
          have c4 : ((z : Int) < (bvs.length : Int)) = True := eq_true (by omega)
          have hvb2 := votes_length bvs
          have nt1 : (!true) = false := rfl
          by_cases h0 : 0 < i
          · obtain ⟨p, p1, p2⟩ := hlast h0
            have k3 : decide ((i : Int) > 0) = true := decide_eq_true (by omega)
            have u3 : IntKind.i64.wrap ((i : Int) - 1) = ((i - 1 : Nat) : Int) := by rw [wrapI (by omega)]; omega
            have c5 : (((i - 1 : Nat) : Int) < (S.length : Int)) = True := eq_true (by omega)
            generalize 2 * i + 1 = i21 at *
            generalize 2 * i = i20 at *
            generalize i - 1 = i10 at *
            simp only [runA, runB, runC, runD, runE, runF, fieldE, storeE, binE, ↓reduceIte, Nat.reduceLT, Nat.reduceLeDiff, Nat.reduceEqDiff, Nat.reduceAdd, Nat.reduceMul, Nat.reduceSub, reduceCtorEq, putAt, unE, Nat.reduceBEq, convE, buildE, List.replicate, Int.reduceLT, Int.reduceLE, Int.reduceToNat, mkE, mapSetE, hN, hF, ty_3, ty_4, ty_9, ty_47, ty_60, ty_79, ty_81, ty_83, notIf, isEq, k1, hi2, hzl, hg, h3, q3, q4, n1, n2, u1, u2, c1, c2, c3, c4, hvb, hva, hvb2, v1, v2, v3, v4, eqg_vo, E1, E2, nt1, k3, u3, c5, p1, p2, e1]
            iterate 4 (try (refine drawnP_intro (by kernel_rfl) (by kernel_rfl) ?_; simp only [runA, runB, runC, runD, runE, runF, fieldE, storeE, binE, ↓reduceIte, Nat.reduceLT, Nat.reduceLeDiff, Nat.reduceEqDiff, Nat.reduceAdd, Nat.reduceMul, Nat.reduceSub, reduceCtorEq, putAt, unE, Nat.reduceBEq, convE, buildE, List.replicate, Int.reduceLT, Int.reduceLE, Int.reduceToNat, mkE, mapSetE, hN, hF, ty_3, ty_4, ty_9, ty_47, ty_60, ty_79, ty_81, ty_83, notIf, isEq, k1, hi2, hzl, hg, h3, q3, q4, n1, n2, u1, u2, c1, c2, c3, c4, hvb, hva, hvb2, v1, v2, v3, v4, eqg_vo, E1, E2, nt1, k3, u3, c5, p1, p2, e1]))
            refine ⟨S.length - (i + 1), _, by omega, ?_, i + 1, by omega, rfl, rfl⟩
            rw [hns]
            simp only [runB, finC, finD, AS.get, AS.mem, false_implies, implies_true, ↓reduceIte, Nat.reduceEqDiff, Option.isSome_some, Option.isSome_none, forall_eq_or_imp, forall_eq, reduceCtorEq, Nat.reduceAdd, Nat.reduceMul, List.zip_cons_cons, List.zip_nil_left, List.zip_nil_right, List.forall_mem_nil]
            first | done | (simp; done) | (simp; omega) | omega
          · have k3 : decide ((i : Int) > 0) = false := decide_eq_false (by omega)
            generalize 2 * i + 1 = i21 at *
            generalize 2 * i = i20 at *
            simp only [runA, runB, runC, runD, runE, runF, fieldE, storeE, binE, ↓reduceIte, Nat.reduceLT, Nat.reduceLeDiff, Nat.reduceEqDiff, Nat.reduceAdd, Nat.reduceMul, Nat.reduceSub, reduceCtorEq, putAt, unE, Nat.reduceBEq, convE, buildE, List.replicate, Int.reduceLT, Int.reduceLE, Int.reduceToNat, mkE, mapSetE, hN, hF, ty_3, ty_4, ty_9, ty_47, ty_60, ty_79, ty_81, ty_83, notIf, isEq, k1, hi2, hzl, hg, h3, q3, q4, n1, n2, u1, u2, c1, c2, c3, c4, hvb, hva, hvb2, v1, v2, v3, v4, eqg_vo, E1, E2, nt1, k3, e1]
            iterate 4 (try (refine drawnP_intro (by kernel_rfl) (by kernel_rfl) ?_; simp only [runA, runB, runC, runD, runE, runF, fieldE, storeE, binE, ↓reduceIte, Nat.reduceLT, Nat.reduceLeDiff, Nat.reduceEqDiff, Nat.reduceAdd, Nat.reduceMul, Nat.reduceSub, reduceCtorEq, putAt, unE, Nat.reduceBEq, convE, buildE, List.replicate, Int.reduceLT, Int.reduceLE, Int.reduceToNat, mkE, mapSetE, hN, hF, ty_3, ty_4, ty_9, ty_47, ty_60, ty_79, ty_81, ty_83, notIf, isEq, k1, hi2, hzl, hg, h3, q3, q4, n1, n2, u1, u2, c1, c2, c3, c4, hvb, hva, hvb2, v1, v2, v3, v4, eqg_vo, E1, E2, nt1, k3, e1]))
            refine ⟨S.length - (i + 1), _, by omega, ?_, i + 1, by omega, rfl, rfl⟩
            rw [hns]
            simp only [runB, finC, finD, AS.get, AS.mem, false_implies, implies_true, ↓reduceIte, Nat.reduceEqDiff, Option.isSome_some, Option.isSome_none, forall_eq_or_imp, forall_eq, reduceCtorEq, Nat.reduceAdd, Nat.reduceMul, List.zip_cons_cons, List.zip_nil_left, List.zip_nil_right, List.forall_mem_nil]
            first | done | (simp; done) | (simp; omega) | omega
        · have k1 : decide ((i : Int) < (S.length : Int)) = false := decide_eq_false (by omega)
          have qf := few_at r q
          have qa : alive42C [] [] = some ⟨[.pv (.c (.bool true))], []⟩ := rfl
          have bs : ∀ x : Int, (x == x) = true := fun x => by simp
          by_cases c1 : r ≥ 1
          case neg =>
            have b1 : decide (r ≥ 1) = false := decide_eq_false c1
            rw [show fewS r q = 0 from if_pos (by omega)] at qf
            simp only [runA, runB, runC, runD, runE, runF, fieldE, storeE, binE, ↓reduceIte, Nat.reduceLT, Nat.reduceLeDiff, Nat.reduceEqDiff, Nat.reduceAdd, Nat.reduceMul, Nat.reduceSub, reduceCtorEq, putAt, unE, Nat.reduceBEq, convE, buildE, List.replicate, Int.reduceLT, Int.reduceLE, Int.reduceToNat, mkE, mapSetE, hN, hF, ty_3, ty_4, ty_9, ty_47, ty_60, ty_79, ty_81, ty_83, notIf, isEq, k1, hzl, qf, h4, h5, qa, bs, b1]
            iterate 3 (try (refine drawnP_intro (by kernel_rfl) (by kernel_rfl) ?_; simp only [runA, runB, runC, runD, runE, runF, fieldE, storeE, binE, ↓reduceIte, Nat.reduceLT, Nat.reduceLeDiff, Nat.reduceEqDiff, Nat.reduceAdd, Nat.reduceMul, Nat.reduceSub, reduceCtorEq, putAt, unE, Nat.reduceBEq, convE, buildE, List.replicate, Int.reduceLT, Int.reduceLE, Int.reduceToNat, mkE, mapSetE, hN, hF, ty_3, ty_4, ty_9, ty_47, ty_60, ty_79, ty_81, ty_83, notIf, isEq, k1, hzl, qf, h4, h5, qa, bs, b1]))
            simp only [runB, finC, finD, Option.isSome_some, Option.isSome_none, ↓reduceIte, Nat.reduceEqDiff, Nat.reduceAdd, Nat.reduceMul, forall_eq_or_imp, forall_eq, implies_true, Nat.reduceBEq, reduceCtorEq, false_implies, List.zip_cons_cons, List.zip_nil_left, List.zip_nil_right, Nat.reduceLeDiff, List.forall_mem_nil, rs_8]
          have b1 : decide (r ≥ 1) = true := decide_eq_true c1
          by_cases c2 : r ≤ 7
          case neg =>
            have b2 : decide (r ≤ 7) = false := decide_eq_false c2
            rw [show fewS r q = 0 from if_pos (by omega)] at qf
            simp only [runA, runB, runC, runD, runE, runF, fieldE, storeE, binE, ↓reduceIte, Nat.reduceLT, Nat.reduceLeDiff, Nat.reduceEqDiff, Nat.reduceAdd, Nat.reduceMul, Nat.reduceSub, reduceCtorEq, putAt, unE, Nat.reduceBEq, convE, buildE, List.replicate, Int.reduceLT, Int.reduceLE, Int.reduceToNat, mkE, mapSetE, hN, hF, ty_3, ty_4, ty_9, ty_47, ty_60, ty_79, ty_81, ty_83, notIf, isEq, k1, hzl, qf, h4, h5, qa, bs, b1, b2]
            iterate 3 (try (refine drawnP_intro (by kernel_rfl) (by kernel_rfl) ?_; simp only [runA, runB, runC, runD, runE, runF, fieldE, storeE, binE, ↓reduceIte, Nat.reduceLT, Nat.reduceLeDiff, Nat.reduceEqDiff, Nat.reduceAdd, Nat.reduceMul, Nat.reduceSub, reduceCtorEq, putAt, unE, Nat.reduceBEq, convE, buildE, List.replicate, Int.reduceLT, Int.reduceLE, Int.reduceToNat, mkE, mapSetE, hN, hF, ty_3, ty_4, ty_9, ty_47, ty_60, ty_79, ty_81, ty_83, notIf, isEq, k1, hzl, qf, h4, h5, qa, bs, b1, b2]))
            simp only [runB, finC, finD, Option.isSome_some, Option.isSome_none, ↓reduceIte, Nat.reduceEqDiff, Nat.reduceAdd, Nat.reduceMul, forall_eq_or_imp, forall_eq, implies_true, Nat.reduceBEq, reduceCtorEq, false_implies, List.zip_cons_cons, List.zip_nil_left, List.zip_nil_right, Nat.reduceLeDiff, List.forall_mem_nil, rs_8]
          have b2 : decide (r ≤ 7) = true := decide_eq_true c2
          by_cases c3 : q ≥ 1
          case neg =>
            have b3 : decide (q ≥ 1) = false := decide_eq_false c3
            rw [show fewS r q = 0 from if_pos (by omega)] at qf
            simp only [runA, runB, runC, runD, runE, runF, fieldE, storeE, binE, ↓reduceIte, Nat.reduceLT, Nat.reduceLeDiff, Nat.reduceEqDiff, Nat.reduceAdd, Nat.reduceMul, Nat.reduceSub, reduceCtorEq, putAt, unE, Nat.reduceBEq, convE, buildE, List.replicate, Int.reduceLT, Int.reduceLE, Int.reduceToNat, mkE, mapSetE, hN, hF, ty_3, ty_4, ty_9, ty_47, ty_60, ty_79, ty_81, ty_83, notIf, isEq, k1, hzl, qf, h4, h5, qa, bs, b1, b2, b3]
            iterate 3 (try (refine drawnP_intro (by kernel_rfl) (by kernel_rfl) ?_; simp only [runA, runB, runC, runD, runE, runF, fieldE, storeE, binE, ↓reduceIte, Nat.reduceLT, Nat.reduceLeDiff, Nat.reduceEqDiff, Nat.reduceAdd, Nat.reduceMul, Nat.reduceSub, reduceCtorEq, putAt, unE, Nat.reduceBEq, convE, buildE, List.replicate, Int.reduceLT, Int.reduceLE, Int.reduceToNat, mkE, mapSetE, hN, hF, ty_3, ty_4, ty_9, ty_47, ty_60, ty_79, ty_81, ty_83, notIf, isEq, k1, hzl, qf, h4, h5, qa, bs, b1, b2, b3]))
            simp only [runB, finC, finD, Option.isSome_some, Option.isSome_none, ↓reduceIte, Nat.reduceEqDiff, Nat.reduceAdd, Nat.reduceMul, forall_eq_or_imp, forall_eq, implies_true, Nat.reduceBEq, reduceCtorEq, false_implies, List.zip_cons_cons, List.zip_nil_left, List.zip_nil_right, Nat.reduceLeDiff, List.forall_mem_nil, rs_8]
          have b3 : decide (q ≥ 1) = true := decide_eq_true c3
          by_cases c4 : q ≤ r
          case neg =>
            have b4 : decide (q ≤ r) = false := decide_eq_false c4
            rw [show fewS r q = 0 from if_pos (by omega)] at qf
            simp only [runA, runB, runC, runD, runE, runF, fieldE, storeE, binE, ↓reduceIte, Nat.reduceLT, Nat.reduceLeDiff, Nat.reduceEqDiff, Nat.reduceAdd, Nat.reduceMul, Nat.reduceSub, reduceCtorEq, putAt, unE, Nat.reduceBEq, convE, buildE, List.replicate, Int.reduceLT, Int.reduceLE, Int.reduceToNat, mkE, mapSetE, hN, hF, ty_3, ty_4, ty_9, ty_47, ty_60, ty_79, ty_81, ty_83, notIf, isEq, k1, hzl, qf, h4, h5, qa, bs, b1, b2, b3, b4]
            iterate 3 (try (refine drawnP_intro (by kernel_rfl) (by kernel_rfl) ?_; simp only [runA, runB, runC, runD, runE, runF, fieldE, storeE, binE, ↓reduceIte, Nat.reduceLT, Nat.reduceLeDiff, Nat.reduceEqDiff, Nat.reduceAdd, Nat.reduceMul, Nat.reduceSub, reduceCtorEq, putAt, unE, Nat.reduceBEq, convE, buildE, List.replicate, Int.reduceLT, Int.reduceLE, Int.reduceToNat, mkE, mapSetE, hN, hF, ty_3, ty_4, ty_9, ty_47, ty_60, ty_79, ty_81, ty_83, notIf, isEq, k1, hzl, qf, h4, h5, qa, bs, b1, b2, b3, b4]))
            simp only [runB, finC, finD, Option.isSome_some, Option.isSome_none, ↓reduceIte, Nat.reduceEqDiff, Nat.reduceAdd, Nat.reduceMul, forall_eq_or_imp, forall_eq, implies_true, Nat.reduceBEq, reduceCtorEq, false_implies, List.zip_cons_cons, List.zip_nil_left, List.zip_nil_right, Nat.reduceLeDiff, List.forall_mem_nil, rs_8]
          have b4 : decide (q ≤ r) = true := decide_eq_true c4
          have w1 : IntKind.i64.wrap (2 * q) = 2 * q := wrapI (by omega)
          have w2 : IntKind.i64.wrap (2 * q - r) = 2 * q - r := wrapI (by omega)
          rw [show fewS r q = if 0 > 2 * q - r then 0 else 2 * q - r from if_neg (by omega)] at qf
          by_cases c5 : 0 > 2 * q - r
          · have b5 : (0 > 2 * q - r) = True := eq_true c5
            rw [if_pos c5] at qf
            simp only [runA, runB, runC, runD, runE, runF, fieldE, storeE, binE, ↓reduceIte, Nat.reduceLT, Nat.reduceLeDiff, Nat.reduceEqDiff, Nat.reduceAdd, Nat.reduceMul, Nat.reduceSub, reduceCtorEq, putAt, unE, Nat.reduceBEq, convE, buildE, List.replicate, Int.reduceLT, Int.reduceLE, Int.reduceToNat, mkE, mapSetE, hN, hF, ty_3, ty_4, ty_9, ty_47, ty_60, ty_79, ty_81, ty_83, notIf, isEq, k1, hzl, qf, h4, h5, qa, bs, b1, b2, b3, b4, w1, w2, mm, b5, c5]
            iterate 3 (try (refine drawnP_intro (by kernel_rfl) (by kernel_rfl) ?_; simp only [runA, runB, runC, runD, runE, runF, fieldE, storeE, binE, ↓reduceIte, Nat.reduceLT, Nat.reduceLeDiff, Nat.reduceEqDiff, Nat.reduceAdd, Nat.reduceMul, Nat.reduceSub, reduceCtorEq, putAt, unE, Nat.reduceBEq, convE, buildE, List.replicate, Int.reduceLT, Int.reduceLE, Int.reduceToNat, mkE, mapSetE, hN, hF, ty_3, ty_4, ty_9, ty_47, ty_60, ty_79, ty_81, ty_83, notIf, isEq, k1, hzl, qf, h4, h5, qa, bs, b1, b2, b3, b4, w1, w2, mm, b5, c5]))
            simp only [runB, finC, finD, Option.isSome_some, Option.isSome_none, ↓reduceIte, Nat.reduceEqDiff, Nat.reduceAdd, Nat.reduceMul, forall_eq_or_imp, forall_eq, implies_true, Nat.reduceBEq, reduceCtorEq, false_implies, List.zip_cons_cons, List.zip_nil_left, List.zip_nil_right, Nat.reduceLeDiff, List.forall_mem_nil, rs_8]
          · have b5 : (0 > 2 * q - r) = False := eq_false c5
            rw [if_neg c5] at qf
            simp only [runA, runB, runC, runD, runE, runF, fieldE, storeE, binE, ↓reduceIte, Nat.reduceLT, Nat.reduceLeDiff, Nat.reduceEqDiff, Nat.reduceAdd, Nat.reduceMul, Nat.reduceSub, reduceCtorEq, putAt, unE, Nat.reduceBEq, convE, buildE, List.replicate, Int.reduceLT, Int.reduceLE, Int.reduceToNat, mkE, mapSetE, hN, hF, ty_3, ty_4, ty_9, ty_47, ty_60, ty_79, ty_81, ty_83, notIf, isEq, k1, hzl, qf, h4, h5, qa, bs, b1, b2, b3, b4, w1, w2, mm, b5, c5]
            iterate 3 (try (refine drawnP_intro (by kernel_rfl) (by kernel_rfl) ?_; simp only [runA, runB, runC, runD, runE, runF, fieldE, storeE, binE, ↓reduceIte, Nat.reduceLT, Nat.reduceLeDiff, Nat.reduceEqDiff, Nat.reduceAdd, Nat.reduceMul, Nat.reduceSub, reduceCtorEq, putAt, unE, Nat.reduceBEq, convE, buildE, List.replicate, Int.reduceLT, Int.reduceLE, Int.reduceToNat, mkE, mapSetE, hN, hF, ty_3, ty_4, ty_9, ty_47, ty_60, ty_79, ty_81, ty_83, notIf, isEq, k1, hzl, qf, h4, h5, qa, bs, b1, b2, b3, b4, w1, w2, mm, b5, c5]))
            simp only [runB, finC, finD, Option.isSome_some, Option.isSome_none, ↓reduceIte, Nat.reduceEqDiff, Nat.reduceAdd, Nat.reduceMul, forall_eq_or_imp, forall_eq, implies_true, Nat.reduceBEq, reduceCtorEq, false_implies, List.zip_cons_cons, List.zip_nil_left, List.zip_nil_right, Nat.reduceLeDiff, List.forall_mem_nil, rs_8]

end Go.Proofs.Ytcfijanfcgnnhaa.AM
