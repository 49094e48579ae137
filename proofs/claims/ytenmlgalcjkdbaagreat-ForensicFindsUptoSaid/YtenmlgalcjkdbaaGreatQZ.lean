/-
  QZ: Fd6.
-/
import Derived.Test.YtenmlgalcjkdbaaGreatQY
import Derived.Test.YtenmlgalcjkdbaaGreatQR
import Derived.Test.YtenmlgalcjkdbaaGreatQS
import Derived.Test.YtenmlgalcjkdbaaGreatQW
set_option linter.unusedVariables false
set_option linter.unusedSimpArgs false
namespace Go.Proofs.YtenmlgalcjkdbaaGreat.AM
open Go

variable {Γ : FuncId → Contract}

theorem rowsOK_ctrows (l : List Ct) : rowsOK 4 (ctrows l) := by
  intro r hr
  obtain ⟨t, _, rfl⟩ := List.mem_map.1 hr
  rfl
theorem ctrows_take (l : List Ct) (n : Nat) : List.take n (ctrows l) = ctrows (l.take n) := by simp [ctrows, List.map_take]
def okFF (p : Cfg × List Blk × List Ct) : Prop := okBl p.2.1 ∧ p.2.2.length ≤ 1048576 ∧ (∀ c ∈ p.2.2, c.vs.length ≤ 1048576) ∧ p.1.ro.length ≤ 1048576
noncomputable def ffC : Contract := mkC (α := Cfg × List Blk × List Ct) okFF (fun p => [p.1.av, .c (.sl (brows p.2.1)), .c (.sl (ctrows p.2.2))]) (fun _ => []) (fun _ => ⟨[.pv (.c (.bool true))], []⟩)
theorem ownI_treeOK {l : List Blk} (hl : okBl l) {i : Nat} (h : i ≤ l.length) (h10 : i ≤ 10) : treeOK (ownI l i) ∧ okR (ownI l i) := by
  obtain ⟨h1, h2⟩ := ownI_ok hl i h
  refine ⟨ownI_tree hl h, ownI_tl hl h, by omega, fun b hb => (h2 b hb).1⟩

set_option maxRecDepth 100000 in
set_option maxHeartbeats 32000000 in
theorem ff_sound (hΓ : SoundG Tryz.prog Γ) (h1 : Γ 22 = alive42C) (h2 : Γ 23 = newTC) (h3 : Γ 24 = putTC) (h4 : Γ 25 = findC) (h5 : Γ 26 = ceckC) (h6 : Γ 27 = rcflC) (h7 : Γ 28 = scRC) (h8 : Γ 29 = suspC) (h9 : Γ 30 = fewC) : SoundC Tryz.prog 4 ffC := by
  refine sound_fn Tryz.func4 (by kernel_rfl) rfl rfl ?_
  intro args objs r0 hr
  obtain ⟨⟨⟨ro, cl, q, ba, ca⟩, blks, certs⟩, hok, rfl, rfl, rfl⟩ := mkC_inv hr
  refine ⟨rfl, by show 3 ≤ _; decide, fun E hN hns hF => ?_⟩
  refine vc_sound hΓ mixed _ _ _ ?_
  have hN := hN.trans nt_4
  obtain ⟨hbl, hcn, hcv, hro⟩ := hok
  replace hbl : okBl blks := hbl
  replace hcn : certs.length ≤ 1048576 := hcn
  replace hcv : ∀ c ∈ certs, c.vs.length ≤ 1048576 := hcv
  replace hro : ro.length ≤ 1048576 := hro
  have hbl1 := hbl.1
  unfold Cfg.av
  dsimp only
  have qa : alive42C [] [] = some ⟨[.pv (.c (.bool true))], []⟩ := rfl
  obtain ⟨l, hl0⟩ : ∃ l, l = certs.take 12 := ⟨_, rfl⟩
  have hl12 : l.length ≤ 12 := by rw [hl0, List.length_take]; omega
  have hvs : ∀ c ∈ l, c.vs.length ≤ 1048576 := fun c hc => hcv c (List.mem_of_mem_take (hl0 ▸ hc))
  have hcl := ctrows_length l
  have hcc := ctrows_length certs
  refine (Decidable.em (certs.length > 12)).elim (fun hbig => ?big) (fun hbig => ?small)
  case' big =>
    have k12 : decide ((certs.length : Int) > 12) = true := decide_eq_true (by omega)
    have k13 : ((12 : Int) ≤ (certs.length : Int)) = True := eq_true (by omega)
    have hzc := rowsOK_ctrows certs
    have k14 : (((0 : Nat) : Int) ≤ 12) = True := eq_true (by decide)
    have htk : List.take 12 (ctrows certs) = ctrows l := by rw [ctrows_take, hl0]
    simp only [runA, runB, runC, runD, runE, runF, fieldE, storeE, binE, ↓reduceIte, Nat.reduceLT, Nat.reduceLeDiff, Nat.reduceEqDiff, Nat.reduceAdd, Nat.reduceMul, Nat.reduceSub, reduceCtorEq, putAt, unE, Nat.reduceBEq, convE, buildE, List.replicate, Int.reduceLT, Int.reduceLE, Int.reduceToNat, mkE, mapSetE, hN, hF, ty_3, ty_4, ty_9, ty_22, ty_24, ty_29, ty_31, ty_33, ty_43, ty_57, ty_58, ty_59, ty_62, ty_68, ty_69, notIf, isEq, h1, qa, hcc, k12, k13, k14, hzc, htk, h2, newT_at, sliceE, boundE, Int.le_refl, Int.reduceToNat, List.drop_zero]
    iterate 3 (try (refine drawnP_intro (by kernel_rfl) (by kernel_rfl) ?_; simp only [runA, runB, runC, runD, runE, runF, fieldE, storeE, binE, ↓reduceIte, Nat.reduceLT, Nat.reduceLeDiff, Nat.reduceEqDiff, Nat.reduceAdd, Nat.reduceMul, Nat.reduceSub, reduceCtorEq, putAt, unE, Nat.reduceBEq, convE, buildE, List.replicate, Int.reduceLT, Int.reduceLE, Int.reduceToNat, mkE, mapSetE, hN, hF, ty_3, ty_4, ty_9, ty_22, ty_24, ty_29, ty_31, ty_33, ty_43, ty_57, ty_58, ty_59, ty_62, ty_68, ty_69, notIf, isEq, h1, qa, hcc, k12, k13, k14, hzc, htk, h2, newT_at, sliceE, boundE, Int.le_refl, Int.reduceToNat, List.drop_zero]))
  case' small =>
    have k12 : decide ((certs.length : Int) > 12) = false := decide_eq_false (by omega)
    obtain rfl : l = certs := by rw [hl0]; exact List.take_of_length_le (by omega)
    simp only [runA, runB, runC, runD, runE, runF, fieldE, storeE, binE, ↓reduceIte, Nat.reduceLT, Nat.reduceLeDiff, Nat.reduceEqDiff, Nat.reduceAdd, Nat.reduceMul, Nat.reduceSub, reduceCtorEq, putAt, unE, Nat.reduceBEq, convE, buildE, List.replicate, Int.reduceLT, Int.reduceLE, Int.reduceToNat, mkE, mapSetE, hN, hF, ty_3, ty_4, ty_9, ty_22, ty_24, ty_29, ty_31, ty_33, ty_43, ty_57, ty_58, ty_59, ty_62, ty_68, ty_69, notIf, isEq, h1, qa, hcc, k12, h2, newT_at]
    iterate 3 (try (refine drawnP_intro (by kernel_rfl) (by kernel_rfl) ?_; simp only [runA, runB, runC, runD, runE, runF, fieldE, storeE, binE, ↓reduceIte, Nat.reduceLT, Nat.reduceLeDiff, Nat.reduceEqDiff, Nat.reduceAdd, Nat.reduceMul, Nat.reduceSub, reduceCtorEq, putAt, unE, Nat.reduceBEq, convE, buildE, List.replicate, Int.reduceLT, Int.reduceLE, Int.reduceToNat, mkE, mapSetE, hN, hF, ty_3, ty_4, ty_9, ty_22, ty_24, ty_29, ty_31, ty_33, ty_43, ty_57, ty_58, ty_59, ty_62, ty_68, ty_69, notIf, isEq, h1, qa, hcc, k12, h2, newT_at]))
  all_goals
    refine AWP.loop (fun c st => ∃ i : Nat, i ≤ min 10 blks.length ∧ c = min 10 blks.length - i ∧ st = ⟨[(1, .c (.sl (brows blks))), (2, .c (.sl (ctrows l))), (3, .ptr 192 0), (6, .c (.bool false)), (7, .ptr 1474 0), (8, .own 2945 9 (brows (ownI blks i))), (9, .c (.int .i64 (i : Int)))], [(192, .obj [.c (.sl (texts ro)), .c (.sl (texts cl)), .c (.int .i64 q), .c (.int .i64 ba), .c (.int .i64 ca)] false), (1474, .obj [.mp 1482] false), (1482, .mp true (esOf (ownI blks i))), (2945, .row 9 (ownI blks i).length)]⟩) ⟨min 10 blks.length, _, ?w, 0, Nat.zero_le _, rfl, rfl⟩ ?r
    case w =>
      rw [hns]
      simp only [runB, finC, finD, AS.get, AS.mem, false_implies, implies_true, ↓reduceIte, Nat.reduceEqDiff, Option.isSome_some, Option.isSome_none, forall_eq_or_imp, forall_eq, reduceCtorEq, Nat.reduceAdd, Nat.reduceMul, List.zip_cons_cons, List.zip_nil_left, List.zip_nil_right, List.forall_mem_nil, show ownI blks 0 = [] from rfl, show esOf [] = [] from rfl, brows_nil, List.length_nil]
      first | done | simp
    case r =>
      rintro c st ⟨i, hi, rfl, rfl⟩
      refine vc_sound hΓ mixed _ _ _ ?_
      have e1 : IntKind.i64.wrap ((i : Int) + 1) = (i : Int) + 1 := wrapI (by omega)
      have hol := (ownI_ok hbl i (by omega)).1
      obtain ⟨htr, hro2⟩ := ownI_treeOK hbl (i := i) (by omega) (by omega)
      have hbo := brows_length (ownI blks i)
      by_cases hlt : i < min 10 blks.length
      · have k1 : decide ((i : Int) < (blks.length : Int)) = true := by simp; omega
        have k2 : decide ((i : Int) < 10) = true := by simp; omega
        have hi2 : ((i : Int) < (blks.length : Int)) = True := eq_true (by omega)
        have hlt' : i < blks.length := by omega
        have hg := browsD blks i hlt'
        have hsm := okBl_getD hbl hlt'
        have hsucc := ownI_succ hlt'
        unfold Blk.pcs at hg
        generalize blks.getD i zeroBk = y at hg hsm hsucc
        obtain ⟨o, ho⟩ : ∃ o, o = ownI blks i := ⟨_, rfl⟩
        rw [← ho] at hol htr hro2 hbo hsucc ⊢
        have q5 := putT_p o y ⟨by omega, by omega⟩
        have hbm := brows_length blks
        cases hP : putB' o y with
        | false =>
          have hO : putO o y = o := by unfold putO; rw [hP]; rfl
          rw [hP, hO] at q5
          rw [hO] at hsucc
          simp only [runA, runB, runC, runD, runE, runF, fieldE, storeE, binE, ↓reduceIte, Nat.reduceLT, Nat.reduceLeDiff, Nat.reduceEqDiff, Nat.reduceAdd, Nat.reduceMul, Nat.reduceSub, reduceCtorEq, putAt, unE, Nat.reduceBEq, convE, buildE, List.replicate, Int.reduceLT, Int.reduceLE, Int.reduceToNat, mkE, mapSetE, hN, hF, ty_3, ty_4, ty_9, ty_22, ty_24, ty_29, ty_31, ty_33, ty_43, ty_57, ty_58, ty_59, ty_62, ty_68, ty_69, notIf, isEq, k1, k2, hi2, hbm, hg, h3, q5, e1]
          iterate 2 (try (refine drawnP_intro (by kernel_rfl) (by kernel_rfl) ?_; simp only [runA, runB, runC, runD, runE, runF, fieldE, storeE, binE, ↓reduceIte, Nat.reduceLT, Nat.reduceLeDiff, Nat.reduceEqDiff, Nat.reduceAdd, Nat.reduceMul, Nat.reduceSub, reduceCtorEq, putAt, unE, Nat.reduceBEq, convE, buildE, List.replicate, Int.reduceLT, Int.reduceLE, Int.reduceToNat, mkE, mapSetE, hN, hF, ty_3, ty_4, ty_9, ty_22, ty_24, ty_29, ty_31, ty_33, ty_43, ty_57, ty_58, ty_59, ty_62, ty_68, ty_69, notIf, isEq, k1, k2, hi2, hbm, hg, h3, q5, e1]))
          refine ⟨min 10 blks.length - (i + 1), _, by omega, ?_, i + 1, by omega, rfl, rfl⟩
          rw [hns, hsucc]
          simp only [runB, finC, finD, AS.get, AS.mem, false_implies, implies_true, ↓reduceIte, Nat.reduceEqDiff, Option.isSome_some, Option.isSome_none, forall_eq_or_imp, forall_eq, reduceCtorEq, Nat.reduceAdd, Nat.reduceMul, List.zip_cons_cons, List.zip_nil_left, List.zip_nil_right, List.forall_mem_nil]
          first | done | (simp; done) | (refine ⟨by omega, by simp⟩; done) | (simp; omega) | omega
        | true =>
          have hO : putO o y = o ++ [y] := by unfold putO; rw [hP]; rfl
          rw [hP, hO] at q5
          rw [hO] at hsucc
          have hsn := brows_snoc o y
          have hrow2 : rowsOK 9 [[.int .i64 y.vw, .int .i64 y.ht, .str y.pa, .int .i64 y.ju.vw, .int .i64 y.ju.ht, .str y.ju.bl, .sl (votes y.ju.vs), .sl (trows y.txs), .str y.sig]] := rowsOK_brows [y]
          have hby : (o.length + 1) * 128 ≤ 140737488355328 := by omega
          simp only [runA, runB, runC, runD, runE, runF, fieldE, storeE, binE, ↓reduceIte, Nat.reduceLT, Nat.reduceLeDiff, Nat.reduceEqDiff, Nat.reduceAdd, Nat.reduceMul, Nat.reduceSub, reduceCtorEq, putAt, unE, Nat.reduceBEq, convE, buildE, List.replicate, Int.reduceLT, Int.reduceLE, Int.reduceToNat, mkE, mapSetE, hN, hF, ty_3, ty_4, ty_9, ty_22, ty_24, ty_29, ty_31, ty_33, ty_43, ty_57, ty_58, ty_59, ty_62, ty_68, ty_69, notIf, isEq, k1, k2, hi2, hbm, hg, h3, q5, e1, hbo, hrow2, hby, hsn]
          iterate 2 (try (refine drawnP_intro (by kernel_rfl) (by kernel_rfl) ?_; simp only [runA, runB, runC, runD, runE, runF, fieldE, storeE, binE, ↓reduceIte, Nat.reduceLT, Nat.reduceLeDiff, Nat.reduceEqDiff, Nat.reduceAdd, Nat.reduceMul, Nat.reduceSub, reduceCtorEq, putAt, unE, Nat.reduceBEq, convE, buildE, List.replicate, Int.reduceLT, Int.reduceLE, Int.reduceToNat, mkE, mapSetE, hN, hF, ty_3, ty_4, ty_9, ty_22, ty_24, ty_29, ty_31, ty_33, ty_43, ty_57, ty_58, ty_59, ty_62, ty_68, ty_69, notIf, isEq, k1, k2, hi2, hbm, hg, h3, q5, e1, hbo, hrow2, hby, hsn]))
          refine ⟨min 10 blks.length - (i + 1), _, by omega, ?_, i + 1, by omega, rfl, rfl⟩
          rw [hns, hsucc]
          simp only [runB, finC, finD, AS.get, AS.mem, false_implies, implies_true, ↓reduceIte, Nat.reduceEqDiff, Option.isSome_some, Option.isSome_none, forall_eq_or_imp, forall_eq, reduceCtorEq, Nat.reduceAdd, Nat.reduceMul, List.zip_cons_cons, List.zip_nil_left, List.zip_nil_right, List.forall_mem_nil, List.length_append, List.length_cons, List.length_nil, Nat.zero_add]
          first | done | (simp; done) | (refine ⟨by omega, by simp⟩; done) | (simp; omega) | omega
      · have hz1 : (decide ((i : Int) < (blks.length : Int)) = true ∧ decide ((i : Int) < 10) = false) ∨ decide ((i : Int) < (blks.length : Int)) = false := by
          by_cases hll : i < blks.length
          · exact .inl ⟨decide_eq_true (by omega), decide_eq_false (by omega)⟩
          · exact .inr (decide_eq_false (by omega))
        have hbm := brows_length blks
        have hi10 : i ≤ 10 := by omega
        generalize ownI blks i = own at *
        have q4 := find_at own l ro q ⟨htr, by show l.length ≤ 1000; omega, fun c hc => by have := hvs c hc; omega, by show ro.length ≤ _; omega⟩
        obtain ⟨F, hF0⟩ : ∃ F, (findS own ro q l).2 = F := ⟨_, rfl⟩
        have hFn : F.length ≤ 144 := by
          have h1 := (find_len own ro q l l.length (Nat.le_refl _)).2
          rw [List.take_length, hF0] at h1
          exact Nat.le_trans h1 (Nat.mul_le_mul hl12 hl12)
        rw [hF0] at q4
        refine hz1.elim (fun hk12 => ?_) (fun k1 => ?_)
        all_goals
          have k2 := decide_eq_true (p := True) trivial
          try obtain ⟨k1, k2⟩ := hk12
          simp only [runA, runB, runC, runD, runE, runF, fieldE, storeE, binE, ↓reduceIte, Nat.reduceLT, Nat.reduceLeDiff, Nat.reduceEqDiff, Nat.reduceAdd, Nat.reduceMul, Nat.reduceSub, reduceCtorEq, putAt, unE, Nat.reduceBEq, convE, buildE, List.replicate, Int.reduceLT, Int.reduceLE, Int.reduceToNat, mkE, mapSetE, hN, hF, ty_3, ty_4, ty_9, ty_22, ty_24, ty_29, ty_31, ty_33, ty_43, ty_57, ty_58, ty_59, ty_62, ty_68, ty_69, notIf, isEq, k1, k2, hbm, h4, q4]
          iterate 2 (try (refine drawnP_intro (by kernel_rfl) (by kernel_rfl) ?_; simp only [runA, runB, runC, runD, runE, runF, fieldE, storeE, binE, ↓reduceIte, Nat.reduceLT, Nat.reduceLeDiff, Nat.reduceEqDiff, Nat.reduceAdd, Nat.reduceMul, Nat.reduceSub, reduceCtorEq, putAt, unE, Nat.reduceBEq, convE, buildE, List.replicate, Int.reduceLT, Int.reduceLE, Int.reduceToNat, mkE, mapSetE, hN, hF, ty_3, ty_4, ty_9, ty_22, ty_24, ty_29, ty_31, ty_33, ty_43, ty_57, ty_58, ty_59, ty_62, ty_68, ty_69, notIf, isEq, k1, k2, hbm, h4, q4]))
        all_goals
          refine AWP.loop (fun c st => ∃ k : Nat, k ≤ l.length ∧ c = l.length - k ∧ st = ⟨[(2, .c (.sl (ctrows l))), (3, .ptr 192 0), (6, .c (.bool false)), (8, .own 2945 9 (brows own)), (10, .c (.sl (forks F))), (11, .c (.int .i64 ((cnt own ro q l k 0 : Nat) : Int))), (12, .c (.int .i64 (k : Int)))], [(192, .obj [.c (.sl (texts ro)), .c (.sl (texts cl)), .c (.int .i64 q), .c (.int .i64 ba), .c (.int .i64 ca)] false), (2945, .row 9 own.length)]⟩) ⟨l.length, _, ?w2, 0, Nat.zero_le _, rfl, rfl⟩ ?r2
          case w2 =>
            rw [hns]
            simp only [runB, finC, finD, AS.get, AS.mem, false_implies, implies_true, ↓reduceIte, Nat.reduceEqDiff, Option.isSome_some, Option.isSome_none, forall_eq_or_imp, forall_eq, reduceCtorEq, Nat.reduceAdd, Nat.reduceMul, List.zip_cons_cons, List.zip_nil_left, List.zip_nil_right, List.forall_mem_nil, cnt_zero, List.take_zero, show (findS own ro q []).2.length = 0 from rfl]
            first | done | simp
          case r2 =>
            rintro c st ⟨k, hk0, rfl, rfl⟩
            refine vc_sound hΓ mixed _ _ _ ?_
            by_cases hk : k < l.length
            · have c1 : decide ((k : Int) < (l.length : Int)) = true := decide_eq_true (by omega)
              have hk2 : ((k : Int) < (l.length : Int)) = True := eq_true (by omega)
              have hgb := ctrowsD l k hk
              have hbv := hvs (l.getD k zeroC) (by rw [List.getD_eq_getElem?_getD, List.getElem?_eq_getElem hk]; exact List.getElem_mem _)
              simp only [runA, runB, runC, runD, runE, runF, fieldE, storeE, binE, ↓reduceIte, Nat.reduceLT, Nat.reduceLeDiff, Nat.reduceEqDiff, Nat.reduceAdd, Nat.reduceMul, Nat.reduceSub, reduceCtorEq, putAt, unE, Nat.reduceBEq, convE, buildE, List.replicate, Int.reduceLT, Int.reduceLE, Int.reduceToNat, mkE, mapSetE, hN, hF, ty_3, ty_4, ty_9, ty_22, ty_24, ty_29, ty_31, ty_33, ty_43, ty_57, ty_58, ty_59, ty_62, ty_68, ty_69, notIf, isEq, c1, hcl]
              iterate 2 (try (refine drawnP_intro (by kernel_rfl) (by kernel_rfl) ?_; simp only [runA, runB, runC, runD, runE, runF, fieldE, storeE, binE, ↓reduceIte, Nat.reduceLT, Nat.reduceLeDiff, Nat.reduceEqDiff, Nat.reduceAdd, Nat.reduceMul, Nat.reduceSub, reduceCtorEq, putAt, unE, Nat.reduceBEq, convE, buildE, List.replicate, Int.reduceLT, Int.reduceLE, Int.reduceToNat, mkE, mapSetE, hN, hF, ty_3, ty_4, ty_9, ty_22, ty_24, ty_29, ty_31, ty_33, ty_43, ty_57, ty_58, ty_59, ty_62, ty_68, ty_69, notIf, isEq, c1, hcl]))
              refine AWP.loop (fun c st => ∃ i : Nat, i ≤ k ∧ c = k - i ∧ st = ⟨[(2, .c (.sl (ctrows l))), (3, .ptr 192 0), (6, .c (.bool false)), (8, .own 2945 9 (brows own)), (10, .c (.sl (forks F))), (11, .c (.int .i64 ((cnt own ro q l k i : Nat) : Int))), (12, .c (.int .i64 (k : Int))), (13, .c (.int .i64 (i : Int)))], [(192, .obj [.c (.sl (texts ro)), .c (.sl (texts cl)), .c (.int .i64 q), .c (.int .i64 ba), .c (.int .i64 ca)] false), (2945, .row 9 own.length)]⟩) ⟨k, _, ?w3, 0, Nat.zero_le _, rfl, rfl⟩ ?r3
              case w3 =>
                rw [hns]
                simp only [runB, finC, finD, AS.get, AS.mem, false_implies, implies_true, ↓reduceIte, Nat.reduceEqDiff, Option.isSome_some, Option.isSome_none, forall_eq_or_imp, forall_eq, reduceCtorEq, Nat.reduceAdd, Nat.reduceMul, List.zip_cons_cons, List.zip_nil_left, List.zip_nil_right, List.forall_mem_nil]
                first | done | simp
              case r3 =>
              rintro c st ⟨i, hi, rfl, rfl⟩
              refine vc_sound hΓ mixed _ _ _ ?_
              have hbo2 := brows_length own
              have hFl := forks_length F
              by_cases hlt : i < k
              · have c2 : decide ((i : Int) < (k : Int)) = true := decide_eq_true (by omega)
                have e2 : IntKind.i64.wrap ((i : Int) + 1) = (i : Int) + 1 := wrapI (by omega)
                have hi2 : ((i : Int) < (l.length : Int)) = True := eq_true (by omega)
                have hcs := cnt_succ own ro q l k i (by omega)
                have hgot := got_at own ro q l k i hlt hk
                have hga := ctrowsD l i (by omega)
                have hav := hvs (l.getD i zeroC) (by rw [List.getD_eq_getElem?_getD, List.getElem?_eq_getElem (by omega : i < l.length)]; exact List.getElem_mem _)
                have hmany := fork_many (own := own) (a := l.getD i zeroC) (b := l.getD k zeroC) (ro := ro) (q := q)
                generalize cnt own ro q l k i = n at *
                generalize l.getD i zeroC = a at *
                generalize l.getD k zeroC = b at *
                rw [hF0] at hgot
                have q1 := ceck_at a.vw a.ht a.bl a.vs ro q (by omega) (by omega)
                rw [show (⟨a.vw, a.ht, a.bl, a.vs⟩ : Ct) = a from rfl] at q1
                have q2 := ceck_at b.vw b.ht b.bl b.vs ro q (by omega) (by omega)
                rw [show (⟨b.vw, b.ht, b.bl, b.vs⟩ : Ct) = b from rfl] at q2
                unfold Ct.pcs at hga hgb
                have g41 : ((41 : Int) != 0) = true := rfl
                have g0 : ((0 : Int) != 0) = false := rfl
                rcases ctS_val a ro q with ha | ha
                case inr =>
                  rw [if_neg (by unfold pr okC; rw [decide_eq_false (p := ctS a ro q = 0) (by rw [ha]; decide)]; simp)] at hcs
                  rw [Nat.add_zero] at hcs
                  rw [ha] at q1
                  simp only [runA, runB, runC, runD, runE, runF, fieldE, storeE, binE, ↓reduceIte, Nat.reduceLT, Nat.reduceLeDiff, Nat.reduceEqDiff, Nat.reduceAdd, Nat.reduceMul, Nat.reduceSub, reduceCtorEq, putAt, unE, Nat.reduceBEq, convE, buildE, List.replicate, Int.reduceLT, Int.reduceLE, Int.reduceToNat, mkE, mapSetE, hN, hF, ty_3, ty_4, ty_9, ty_22, ty_24, ty_29, ty_31, ty_33, ty_43, ty_57, ty_58, ty_59, ty_62, ty_68, ty_69, notIf, isEq, c2, hi2, hk2, hcl, hga, hgb, e2, h5, q1, g41]
                  iterate 3 (try (refine drawnP_intro (by kernel_rfl) (by kernel_rfl) ?_; simp only [runA, runB, runC, runD, runE, runF, fieldE, storeE, binE, ↓reduceIte, Nat.reduceLT, Nat.reduceLeDiff, Nat.reduceEqDiff, Nat.reduceAdd, Nat.reduceMul, Nat.reduceSub, reduceCtorEq, putAt, unE, Nat.reduceBEq, convE, buildE, List.replicate, Int.reduceLT, Int.reduceLE, Int.reduceToNat, mkE, mapSetE, hN, hF, ty_3, ty_4, ty_9, ty_22, ty_24, ty_29, ty_31, ty_33, ty_43, ty_57, ty_58, ty_59, ty_62, ty_68, ty_69, notIf, isEq, c2, hi2, hk2, hcl, hga, hgb, e2, h5, q1, g41]))
                  refine ⟨k - (i + 1), _, by omega, ?_, i + 1, by omega, rfl, rfl⟩
                  rw [hns, hcs]
                  simp only [runB, finC, finD, AS.get, AS.mem, false_implies, implies_true, ↓reduceIte, Nat.reduceEqDiff, Option.isSome_some, Option.isSome_none, forall_eq_or_imp, forall_eq, reduceCtorEq, Nat.reduceAdd, Nat.reduceMul, List.zip_cons_cons, List.zip_nil_left, List.zip_nil_right, List.forall_mem_nil]
                  first | done | (simp; done) | (refine ⟨by omega, by simp⟩; done) | (simp; omega) | omega
                rw [ha] at q1
                rcases ctS_val b ro q with hb | hb
                case inr =>
                  rw [if_neg (by unfold pr okC; rw [decide_eq_false (p := ctS b ro q = 0) (by rw [hb]; decide)]; simp)] at hcs
                  rw [Nat.add_zero] at hcs
                  rw [hb] at q2
                  simp only [runA, runB, runC, runD, runE, runF, fieldE, storeE, binE, ↓reduceIte, Nat.reduceLT, Nat.reduceLeDiff, Nat.reduceEqDiff, Nat.reduceAdd, Nat.reduceMul, Nat.reduceSub, reduceCtorEq, putAt, unE, Nat.reduceBEq, convE, buildE, List.replicate, Int.reduceLT, Int.reduceLE, Int.reduceToNat, mkE, mapSetE, hN, hF, ty_3, ty_4, ty_9, ty_22, ty_24, ty_29, ty_31, ty_33, ty_43, ty_57, ty_58, ty_59, ty_62, ty_68, ty_69, notIf, isEq, c2, hi2, hk2, hcl, hga, hgb, e2, h5, q1, q2, g41, g0]
                  iterate 3 (try (refine drawnP_intro (by kernel_rfl) (by kernel_rfl) ?_; simp only [runA, runB, runC, runD, runE, runF, fieldE, storeE, binE, ↓reduceIte, Nat.reduceLT, Nat.reduceLeDiff, Nat.reduceEqDiff, Nat.reduceAdd, Nat.reduceMul, Nat.reduceSub, reduceCtorEq, putAt, unE, Nat.reduceBEq, convE, buildE, List.replicate, Int.reduceLT, Int.reduceLE, Int.reduceToNat, mkE, mapSetE, hN, hF, ty_3, ty_4, ty_9, ty_22, ty_24, ty_29, ty_31, ty_33, ty_43, ty_57, ty_58, ty_59, ty_62, ty_68, ty_69, notIf, isEq, c2, hi2, hk2, hcl, hga, hgb, e2, h5, q1, q2, g41, g0]))
                  refine ⟨k - (i + 1), _, by omega, ?_, i + 1, by omega, rfl, rfl⟩
                  rw [hns, hcs]
                  simp only [runB, finC, finD, AS.get, AS.mem, false_implies, implies_true, ↓reduceIte, Nat.reduceEqDiff, Option.isSome_some, Option.isSome_none, forall_eq_or_imp, forall_eq, reduceCtorEq, Nat.reduceAdd, Nat.reduceMul, List.zip_cons_cons, List.zip_nil_left, List.zip_nil_right, List.forall_mem_nil]
                  first | done | (simp; done) | (refine ⟨by omega, by simp⟩; done) | (simp; omega) | omega
                rw [hb] at q2
                have q3 := rcfl_at own a.bl b.bl hro2
                cases hcf : conS own a.bl b.bl with
                | false =>
                  rw [if_neg (by unfold pr; rw [hcf]; simp)] at hcs
                  rw [Nat.add_zero] at hcs
                  rw [hcf] at q3
                  simp only [runA, runB, runC, runD, runE, runF, fieldE, storeE, binE, ↓reduceIte, Nat.reduceLT, Nat.reduceLeDiff, Nat.reduceEqDiff, Nat.reduceAdd, Nat.reduceMul, Nat.reduceSub, reduceCtorEq, putAt, unE, Nat.reduceBEq, convE, buildE, List.replicate, Int.reduceLT, Int.reduceLE, Int.reduceToNat, mkE, mapSetE, hN, hF, ty_3, ty_4, ty_9, ty_22, ty_24, ty_29, ty_31, ty_33, ty_43, ty_57, ty_58, ty_59, ty_62, ty_68, ty_69, notIf, isEq, c2, hi2, hk2, hcl, hga, hgb, e2, h5, q1, q2, g0, h6, q3, Bool.not_true, Bool.not_false]
                  iterate 3 (try (refine drawnP_intro (by kernel_rfl) (by kernel_rfl) ?_; simp only [runA, runB, runC, runD, runE, runF, fieldE, storeE, binE, ↓reduceIte, Nat.reduceLT, Nat.reduceLeDiff, Nat.reduceEqDiff, Nat.reduceAdd, Nat.reduceMul, Nat.reduceSub, reduceCtorEq, putAt, unE, Nat.reduceBEq, convE, buildE, List.replicate, Int.reduceLT, Int.reduceLE, Int.reduceToNat, mkE, mapSetE, hN, hF, ty_3, ty_4, ty_9, ty_22, ty_24, ty_29, ty_31, ty_33, ty_43, ty_57, ty_58, ty_59, ty_62, ty_68, ty_69, notIf, isEq, c2, hi2, hk2, hcl, hga, hgb, e2, h5, q1, q2, g0, h6, q3, Bool.not_true, Bool.not_false]))
                  refine ⟨k - (i + 1), _, by omega, ?_, i + 1, by omega, rfl, rfl⟩
                  rw [hns, hcs]
                  simp only [runB, finC, finD, AS.get, AS.mem, false_implies, implies_true, ↓reduceIte, Nat.reduceEqDiff, Option.isSome_some, Option.isSome_none, forall_eq_or_imp, forall_eq, reduceCtorEq, Nat.reduceAdd, Nat.reduceMul, List.zip_cons_cons, List.zip_nil_left, List.zip_nil_right, List.forall_mem_nil]
                  first | done | (simp; done) | (refine ⟨by omega, by simp⟩; done) | (simp; omega) | omega
                | true =>
                  have hp : pr own ro q b a = true := by unfold pr okC; rw [hcf, decide_eq_true ha, decide_eq_true hb]; rfl
                  rw [if_pos hp] at hcs
                  rw [hcf] at q3
                  have hget := hgot hp
                  have hnF : n < F.length := (List.getElem?_eq_some_iff.1 hget).1
                  have hrow := forksD F n hnF
                  rw [show F.getD n (zeroC, zeroC) = (a, b) from by rw [List.getD_eq_getElem?_getD, hget]; rfl] at hrow
                  unfold Ct.pcs at hrow
                  have c3 : decide ((n : Int) ≥ (F.length : Int)) = false := decide_eq_false (by omega)
                  have hn2 : ((n : Int) < (F.length : Int)) = True := eq_true (by omega)
                  have en : IntKind.i64.wrap ((n : Int) + 1) = (n : Int) + 1 := wrapI (by omega)
                  have qa := scR_at a a (by unfold lnC; omega) (by unfold lnC; omega)
                  have qb := scR_at b b (by unfold lnC; omega) (by unfold lnC; omega)
                  rw [decide_eq_true (rfl : a = a)] at qa
                  rw [decide_eq_true (rfl : b = b)] at qb
                  have q8 := susp_at a b (by omega) (by omega)
                  unfold forkAV at q8
                  have q9 := few_at ((ro.length : Nat) : Int) q
                  have hfew := hmany ha hb hcf
                  have hzl := zn_length (suspL a.vs b.vs)
                  have htl := texts_length ro
                  have c4 : decide (((suspL a.vs b.vs).length : Int) < fewS ((ro.length : Nat) : Int) q) = false := decide_eq_false (by omega)
                  generalize fewS ((ro.length : Nat) : Int) q = few at *
                  generalize suspL a.vs b.vs = SU at *
                  simp only [runA, runB, runC, runD, runE, runF, fieldE, storeE, binE, ↓reduceIte, Nat.reduceLT, Nat.reduceLeDiff, Nat.reduceEqDiff, Nat.reduceAdd, Nat.reduceMul, Nat.reduceSub, reduceCtorEq, putAt, unE, Nat.reduceBEq, convE, buildE, List.replicate, Int.reduceLT, Int.reduceLE, Int.reduceToNat, mkE, mapSetE, hN, hF, ty_3, ty_4, ty_9, ty_22, ty_24, ty_29, ty_31, ty_33, ty_43, ty_57, ty_58, ty_59, ty_62, ty_68, ty_69, notIf, isEq, c2, hi2, hk2, hcl, hga, hgb, e2, h5, q1, q2, g0, h6, q3, c3, hn2, hFl, hrow, h7, qa, qb, h8, q8, h9, q9, hzl, htl, c4, en]
                  iterate 6 (try (refine drawnP_intro (by kernel_rfl) (by kernel_rfl) ?_; simp only [runA, runB, runC, runD, runE, runF, fieldE, storeE, binE, ↓reduceIte, Nat.reduceLT, Nat.reduceLeDiff, Nat.reduceEqDiff, Nat.reduceAdd, Nat.reduceMul, Nat.reduceSub, reduceCtorEq, putAt, unE, Nat.reduceBEq, convE, buildE, List.replicate, Int.reduceLT, Int.reduceLE, Int.reduceToNat, mkE, mapSetE, hN, hF, ty_3, ty_4, ty_9, ty_22, ty_24, ty_29, ty_31, ty_33, ty_43, ty_57, ty_58, ty_59, ty_62, ty_68, ty_69, notIf, isEq, c2, hi2, hk2, hcl, hga, hgb, e2, h5, q1, q2, g0, h6, q3, c3, hn2, hFl, hrow, h7, qa, qb, h8, q8, h9, q9, hzl, htl, c4, en]))
                  refine ⟨k - (i + 1), _, by omega, ?_, i + 1, by omega, rfl, rfl⟩
                  rw [hns, hcs]
                  simp only [runB, finC, finD, AS.get, AS.mem, false_implies, implies_true, ↓reduceIte, Nat.reduceEqDiff, Option.isSome_some, Option.isSome_none, forall_eq_or_imp, forall_eq, reduceCtorEq, Nat.reduceAdd, Nat.reduceMul, List.zip_cons_cons, List.zip_nil_left, List.zip_nil_right, List.forall_mem_nil]
                  first | done | (simp; done) | (refine ⟨by omega, by simp⟩; done) | (simp; omega) | omega
              · have c2 : decide ((i : Int) < (k : Int)) = false := decide_eq_false (by omega)
                obtain rfl : i = k := by omega
                have e2 : IntKind.i64.wrap ((i : Int) + 1) = (i : Int) + 1 := wrapI (by omega)
                have hce := cnt_end own ro q l i hk
                rw [← cnt_zero own ro q l (i + 1)] at hce
                generalize cnt own ro q l i i = n at *
                subst hce
                simp only [runA, runB, runC, runD, runE, runF, fieldE, storeE, binE, ↓reduceIte, Nat.reduceLT, Nat.reduceLeDiff, Nat.reduceEqDiff, Nat.reduceAdd, Nat.reduceMul, Nat.reduceSub, reduceCtorEq, putAt, unE, Nat.reduceBEq, convE, buildE, List.replicate, Int.reduceLT, Int.reduceLE, Int.reduceToNat, mkE, mapSetE, hN, hF, ty_3, ty_4, ty_9, ty_22, ty_24, ty_29, ty_31, ty_33, ty_43, ty_57, ty_58, ty_59, ty_62, ty_68, ty_69, notIf, isEq, c2, e2]
                iterate 2 (try (refine drawnP_intro (by kernel_rfl) (by kernel_rfl) ?_; simp only [runA, runB, runC, runD, runE, runF, fieldE, storeE, binE, ↓reduceIte, Nat.reduceLT, Nat.reduceLeDiff, Nat.reduceEqDiff, Nat.reduceAdd, Nat.reduceMul, Nat.reduceSub, reduceCtorEq, putAt, unE, Nat.reduceBEq, convE, buildE, List.replicate, Int.reduceLT, Int.reduceLE, Int.reduceToNat, mkE, mapSetE, hN, hF, ty_3, ty_4, ty_9, ty_22, ty_24, ty_29, ty_31, ty_33, ty_43, ty_57, ty_58, ty_59, ty_62, ty_68, ty_69, notIf, isEq, c2, e2]))
                refine ⟨l.length - (i + 1), _, by omega, ?_, i + 1, by omega, rfl, rfl⟩
                rw [hns]
                simp only [runB, finC, finD, AS.get, AS.mem, false_implies, implies_true, ↓reduceIte, Nat.reduceEqDiff, Option.isSome_some, Option.isSome_none, forall_eq_or_imp, forall_eq, reduceCtorEq, Nat.reduceAdd, Nat.reduceMul, List.zip_cons_cons, List.zip_nil_left, List.zip_nil_right, List.forall_mem_nil]
                first | done | (simp; done) | (refine ⟨by omega, by simp⟩; done) | (simp; omega) | omega
            · have c1 : decide ((k : Int) < (l.length : Int)) = false := decide_eq_false (by omega)
              obtain rfl : k = l.length := by omega
              have hcz : cnt own ro q l l.length 0 = F.length := by rw [cnt_zero, List.take_length, hF0]
              have bn : (((F.length : Nat) : Int) == ((F.length : Nat) : Int)) = true := by simp
              have hFl := forks_length F
              rw [hcz]
              simp only [runA, runB, runC, runD, runE, runF, fieldE, storeE, binE, ↓reduceIte, Nat.reduceLT, Nat.reduceLeDiff, Nat.reduceEqDiff, Nat.reduceAdd, Nat.reduceMul, Nat.reduceSub, reduceCtorEq, putAt, unE, Nat.reduceBEq, convE, buildE, List.replicate, Int.reduceLT, Int.reduceLE, Int.reduceToNat, mkE, mapSetE, hN, hF, ty_3, ty_4, ty_9, ty_22, ty_24, ty_29, ty_31, ty_33, ty_43, ty_57, ty_58, ty_59, ty_62, ty_68, ty_69, notIf, isEq, c1, hcl, hFl, bn]
              iterate 2 (try (refine drawnP_intro (by kernel_rfl) (by kernel_rfl) ?_; simp only [runA, runB, runC, runD, runE, runF, fieldE, storeE, binE, ↓reduceIte, Nat.reduceLT, Nat.reduceLeDiff, Nat.reduceEqDiff, Nat.reduceAdd, Nat.reduceMul, Nat.reduceSub, reduceCtorEq, putAt, unE, Nat.reduceBEq, convE, buildE, List.replicate, Int.reduceLT, Int.reduceLE, Int.reduceToNat, mkE, mapSetE, hN, hF, ty_3, ty_4, ty_9, ty_22, ty_24, ty_29, ty_31, ty_33, ty_43, ty_57, ty_58, ty_59, ty_62, ty_68, ty_69, notIf, isEq, c1, hcl, hFl, bn]))
              simp only [runB, finC, finD, Option.isSome_some, Option.isSome_none, ↓reduceIte, Nat.reduceEqDiff, Nat.reduceAdd, Nat.reduceMul, forall_eq_or_imp, forall_eq, implies_true, Nat.reduceBEq, reduceCtorEq, false_implies, List.zip_cons_cons, List.zip_nil_left, List.zip_nil_right, Nat.reduceLeDiff, List.forall_mem_nil, rs_4]

end Go.Proofs.YtenmlgalcjkdbaaGreat.AM
