/-
  QB: Rq Bn.
-/
import Derived.Test.YtenmlgalcjkdbaaQA
import Derived.Test.YtenmlgalcjkdbaaQ8
import Derived.Test.YtenmlgalcjkdbaaQ9
set_option linter.unusedVariables false
set_option linter.unusedSimpArgs false
namespace Go.Proofs.Ytenmlgalcjkdbaa.AM
open Go Go.RowKit

variable {Γ : FuncId → Contract}

theorem MRel.below0 {w w' : World} {Ext : Nat → Prop} {G : Gh} {res : List RV} (M : MRel (cEnv w Ext G.K) G (look (entryMem 0 [])) w) (b : Below w.heap.size w w') (he : exitMem ⟨res, []⟩ = []) : MRel (cEnv w Ext G.K) G (look (exitMem ⟨res, []⟩)) w' := by
  have hG : ∀ i, G.h i = none := fun i => (M.home i).none_of
  refine ⟨fun k o v h => ?_, fun n => ?_, fun n n' h h' k e => ?_, b.os.trans M.os, b.tape.trans M.tape, b.output.trans M.output, Nat.le_trans M.size0 b.size, Nat.le_trans M.sizeB b.size, fun k hk hE => b.block k hk, M.k0, M.kfr⟩
  · rw [cell_same (b.block k (M.k_lt h))]
    exact M.agree k o v h
  · rw [he, hG n]
    trivial
  · rw [hG n] at e
    cases e

noncomputable def repC : Contract := mkC (α := List UInt8 × Nat) (fun p => p.2 ≤ 9223372036854775807 ∧ p.1.length * p.2 ≤ 140737488355328) (fun p => [.c (.str p.1), .c (.int .i64 (p.2 : Int))]) (fun _ => []) (fun p => ⟨[.pv (.c (.str (Lib.repeatL p.1 p.2)))], []⟩)
theorem rep_at (s : List UInt8) (c : Nat) (g0 : c ≤ 9223372036854775807) (g1 : s.length * c ≤ 140737488355328) : repC [.c (.str s), .c (.int .i64 (c : Int))] [] = some ⟨[.pv (.c (.str (Lib.repeatL s c)))], []⟩ :=
  mkC_at (α := List UInt8 × Nat) (s, c) ⟨g0, g1⟩ (by
    rintro ⟨s', c'⟩ _ h _
    simp only [List.cons.injEq, AV.c.injEq, PC.str.injEq, PC.int.injEq, true_and, and_true, Int.natCast_inj] at h
    obtain ⟨rfl, rfl⟩ := h
    rfl)
theorem rep_sound : SoundC Try.prog 94 repC := by
  refine ⟨⟨_, Try.func94, rfl, rfl⟩, fun args objs r hr => ?_⟩
  obtain ⟨⟨s, c⟩, ⟨h1, h2⟩, rfl, rfl, rfl⟩ := mkC_inv hr
  refine ⟨fun x hx => resB_spec (l := [.pv (.c (.str (Lib.repeatL s c)))]) rfl x hx, fun Ext G w vals M hl hx => ?_⟩
  match vals, hl with
  | [v1, v2], _ =>
  have e1 : v1 = .string ⟨s.toArray⟩ := by
    have := hx 0 _ v1 rfl rfl
    cases this with
    | c _ _ h => cases h; rfl
  have e2 : v2 = .int .i64 (c : Int) := by
    have := hx 1 _ v2 rfl rfl
    cases this with
    | c _ _ h => cases h; rfl
  subst e1 e2
  refine Calls.mono (Try.strings_Repeat ⟨s.toArray⟩ c w h1 (by show s.toArray.size * c ≤ _; simpa using h2)) ?_
  rintro e W' ⟨rfl, bel⟩
  refine ⟨G, _, rfl, Gh.le_refl _, M.below0 bel rfl, ?_⟩
  exact .c _ _ (.str _)

def genS : List UInt8 := List.replicate 32 0
theorem repeat_zero : ∀ n, Lib.repeatL [0] n = List.replicate n (0 : UInt8) := by
  intro n
  induction n with
  | zero => rfl
  | succ n ih =>
    show [0] ++ Lib.repeatL [0] n = _
    rw [ih]; rfl

def cfirstC : Contract := fun args objs => match args, objs with | [], [] => some ⟨[.pv (.agg [.c (.int .i64 0), .c (.int .i64 0), .c (.str genS), .c (.sl [])])], []⟩ | _, _ => none
def genC : Contract := fun args objs => match args, objs with | [], [] => some ⟨[.pv (.c (.str genS))], []⟩ | _, _ => none
set_option maxHeartbeats 1000000 in
theorem cfirst_sound (hΓ : SoundG Try.prog Γ) (h1 : Γ 94 = repC) : SoundC Try.prog 71 cfirstC := by
  refine sound_fn Try.func71 (by kernel_rfl) rfl rfl ?_
  intro args objs r hr
  unfold cfirstC at hr
  split at hr
  · cases hr
    refine ⟨rfl, by show 0 ≤ _; decide, fun E hN hns hF => ?_⟩
    refine vc_sound hΓ mixed _ _ _ ?_
    have hN := hN.trans nt_71
    have q1 : repC [.c (.str [0]), .c (.int .i64 32)] [] = some ⟨[.pv (.c (.str genS))], []⟩ := by
      have h := rep_at [0] 32 (by decide) (by decide)
      rw [repeat_zero] at h
      exact h
    generalize genS = g at q1
    simp only [runA, runB, runC, runD, runE, runF, fieldE, storeE, binE, ↓reduceIte, Nat.reduceLT, Nat.reduceLeDiff, Nat.reduceEqDiff, Nat.reduceAdd, Nat.reduceMul, Nat.reduceSub, reduceCtorEq, putAt, unE, Nat.reduceBEq, convE, buildE, List.replicate, Int.reduceLT, Int.reduceLE, Int.reduceToNat, mkE, mapSetE, hN, hF, ty_3, ty_9, ty_22, ty_24, notIf, isEq, h1, q1]
    simp only [runB, finC, finD, Option.isSome_some, Option.isSome_none, ↓reduceIte, Nat.reduceEqDiff, Nat.reduceAdd, Nat.reduceMul, forall_eq_or_imp, forall_eq, implies_true, Nat.reduceBEq, reduceCtorEq, false_implies, List.zip_cons_cons, List.zip_nil_left, List.zip_nil_right, Nat.reduceLeDiff, List.forall_mem_nil, rs_71, ty_3, ty_9, ty_22, ty_24]
  · cases hr
set_option maxHeartbeats 1000000 in
theorem gen_sound (hΓ : SoundG Try.prog Γ) (h1 : Γ 71 = cfirstC) : SoundC Try.prog 47 genC := by
  refine sound_fn Try.func47 (by kernel_rfl) rfl rfl ?_
  intro args objs r hr
  unfold genC at hr
  split at hr
  · cases hr
    refine ⟨rfl, by show 0 ≤ _; decide, fun E hN hns hF => ?_⟩
    refine vc_sound hΓ mixed _ _ _ ?_
    have hN := hN.trans nt_47
    have q1 : cfirstC [] [] = some ⟨[.pv (.agg [.c (.int .i64 0), .c (.int .i64 0), .c (.str genS), .c (.sl [])])], []⟩ := rfl
    generalize genS = g at q1
    simp only [runA, runB, runC, runD, runE, runF, fieldE, storeE, binE, ↓reduceIte, Nat.reduceLT, Nat.reduceLeDiff, Nat.reduceEqDiff, Nat.reduceAdd, Nat.reduceMul, Nat.reduceSub, reduceCtorEq, putAt, unE, Nat.reduceBEq, convE, buildE, List.replicate, Int.reduceLT, Int.reduceLE, Int.reduceToNat, mkE, mapSetE, hN, hF, ty_3, ty_9, ty_22, ty_24, notIf, isEq, h1, q1]
    simp only [runB, finC, finD, Option.isSome_some, Option.isSome_none, ↓reduceIte, Nat.reduceEqDiff, Nat.reduceAdd, Nat.reduceMul, forall_eq_or_imp, forall_eq, implies_true, Nat.reduceBEq, reduceCtorEq, false_implies, List.zip_cons_cons, List.zip_nil_left, List.zip_nil_right, Nat.reduceLeDiff, List.forall_mem_nil, rs_47, ty_3, ty_9, ty_22, ty_24]
  · cases hr
set_option maxRecDepth 100000 in
set_option maxHeartbeats 1000000 in
theorem refGen_sound : SoundC Try.prog 27 genC := by
  refine sound_fn Try.func27 (by kernel_rfl) rfl rfl ?_
  intro args objs r hr
  unfold genC at hr
  split at hr
  · cases hr
    refine ⟨rfl, by show 0 ≤ _; decide, fun E hN hns hF => ?_⟩
    refine vc_sound none0_sound mixed _ _ _ ?_
    have hN := hN.trans nt_27
    have h32 : ((32 : Int) * ((1 : Nat) : Int) ≤ 140737488355328) = True := eq_true (by decide)
    have hb : bytesOf [[.int .u8 0], [.int .u8 0], [.int .u8 0], [.int .u8 0], [.int .u8 0], [.int .u8 0], [.int .u8 0], [.int .u8 0], [.int .u8 0], [.int .u8 0], [.int .u8 0], [.int .u8 0], [.int .u8 0], [.int .u8 0], [.int .u8 0], [.int .u8 0], [.int .u8 0], [.int .u8 0], [.int .u8 0], [.int .u8 0], [.int .u8 0], [.int .u8 0], [.int .u8 0], [.int .u8 0], [.int .u8 0], [.int .u8 0], [.int .u8 0], [.int .u8 0], [.int .u8 0], [.int .u8 0], [.int .u8 0], [.int .u8 0]] = some genS := bytesOf_bytes genS
    have h32' : ((32 : Nat) * 1 ≤ 140737488355328) = True := eq_true (by decide)
    simp only [runA, runB, runC, runD, runE, runF, fieldE, storeE, binE, ↓reduceIte, Nat.reduceLT, Nat.reduceLeDiff, Nat.reduceEqDiff, Nat.reduceAdd, Nat.reduceMul, Nat.reduceSub, reduceCtorEq, putAt, unE, Nat.reduceBEq, convE, buildE, List.replicate, Int.reduceLT, Int.reduceLE, Int.reduceToNat, mkE, mapSetE, hN, hF, ty_5, ty_9, ty_88, notIf, isEq, h32, h32', hb]
    simp only [runB, finC, finD, Option.isSome_some, Option.isSome_none, ↓reduceIte, Nat.reduceEqDiff, Nat.reduceAdd, Nat.reduceMul, forall_eq_or_imp, forall_eq, implies_true, Nat.reduceBEq, reduceCtorEq, false_implies, List.zip_cons_cons, List.zip_nil_left, List.zip_nil_right, Nat.reduceLeDiff, List.forall_mem_nil, rs_27, ty_5, ty_9, ty_88, genS]
  · cases hr
end Go.Proofs.Ytenmlgalcjkdbaa.AM
set_option linter.unusedVariables false
set_option linter.unusedSimpArgs false
namespace Go.Proofs.Ytenmlgalcjkdbaa.AM
open Go

variable {Γ : FuncId → Contract}


def leaderC : Contract := fun args objs => match args, objs with | [.c (.int .i64 5), .c (.int .i64 4)], [] => some ⟨[.pv (.c (.int .i64 1))], []⟩ | _, _ => none
set_option maxHeartbeats 1000000 in
theorem leader_sound : SoundC Try.prog 46 leaderC := by
  refine sound_fn Try.func46 (by kernel_rfl) rfl rfl ?_
  intro args objs r hr
  unfold leaderC at hr
  split at hr
  · cases hr
    refine ⟨rfl, by show 2 ≤ _; decide, fun E hN hns hF => ?_⟩
    refine vc_sound none0_sound mixed _ _ _ ?_
    have hN := hN.trans nt_46
    have g1 : decide ((5 : Int) < 0) = false := rfl
    have g2 : decide ((4 : Int) < 1) = false := rfl
    have g3 : ((4 : Int) = 0) = False := by simp
    have g4 : (5 : Int).tmod 4 = 1 := rfl
    simp only [runA, runB, runC, runD, runE, runF, fieldE, storeE, binE, ↓reduceIte, Nat.reduceLT, Nat.reduceLeDiff, Nat.reduceEqDiff, Nat.reduceAdd, Nat.reduceMul, Nat.reduceSub, reduceCtorEq, putAt, unE, Nat.reduceBEq, convE, buildE, List.replicate, Int.reduceLT, Int.reduceLE, Int.reduceToNat, mkE, mapSetE, hN, hF, ty_3, notIf, isEq, g1, g2, g3, g4]
    simp only [runB, finC, finD, Option.isSome_some, Option.isSome_none, ↓reduceIte, Nat.reduceEqDiff, Nat.reduceAdd, Nat.reduceMul, forall_eq_or_imp, forall_eq, implies_true, Nat.reduceBEq, reduceCtorEq, false_implies, List.zip_cons_cons, List.zip_nil_left, List.zip_nil_right, Nat.reduceLeDiff, List.forall_mem_nil, rs_46, ty_3]
  · cases hr
def alive10C : Contract := fun args objs => match args, objs with | [], [] => some ⟨[.pv (.c (.bool true))], []⟩ | _, _ => none
set_option maxHeartbeats 1000000 in
theorem alive10_sound (hΓ : SoundG Try.prog Γ) (h1 : Γ 46 = leaderC) (h2 : Γ 47 = genC) : SoundC Try.prog 11 alive10C := by
  refine sound_fn Try.func11 (by kernel_rfl) rfl rfl ?_
  intro args objs r hr
  unfold alive10C at hr
  split at hr
  · cases hr
    refine ⟨rfl, by show 0 ≤ _; decide, fun E hN hns hF => ?_⟩
    refine vc_sound hΓ mixed _ _ _ ?_
    have hN := hN.trans nt_11
    have q1 : leaderC [.c (.int .i64 5), .c (.int .i64 4)] [] = some ⟨[.pv (.c (.int .i64 1))], []⟩ := rfl
    have q2 : genC [] [] = some ⟨[.pv (.c (.str genS))], []⟩ := rfl
    have b1 : ((1 : Int) == 1) = true := rfl
    have hlen : (genS.length : Int) = 32 := rfl
    have b2 : ((32 : Int) == 32) = true := rfl
    generalize genS = g at q2 hlen
    simp only [runA, runB, runC, runD, runE, runF, fieldE, storeE, binE, ↓reduceIte, Nat.reduceLT, Nat.reduceLeDiff, Nat.reduceEqDiff, Nat.reduceAdd, Nat.reduceMul, Nat.reduceSub, reduceCtorEq, putAt, unE, Nat.reduceBEq, convE, buildE, List.replicate, Int.reduceLT, Int.reduceLE, Int.reduceToNat, mkE, mapSetE, hN, hF, ty_3, ty_4, ty_9, notIf, isEq, h1, h2, q1, q2, b1, hlen, b2]
    simp only [runB, finC, finD, Option.isSome_some, Option.isSome_none, ↓reduceIte, Nat.reduceEqDiff, Nat.reduceAdd, Nat.reduceMul, forall_eq_or_imp, forall_eq, implies_true, Nat.reduceBEq, reduceCtorEq, false_implies, List.zip_cons_cons, List.zip_nil_left, List.zip_nil_right, Nat.reduceLeDiff, List.forall_mem_nil, rs_11, ty_3, ty_4, ty_9]
  · cases hr
theorem nameS_same (vw ht : Int) (pa : List UInt8) (jv jh : Int) (jb : List UInt8) (js vs : List Vt) (txs : List Txn) (sig sg : List UInt8) (h1 : okB ⟨vw, ht, pa, ⟨jv, jh, jb, js⟩, txs, sig⟩) (h2 : okB ⟨vw, ht, pa, ⟨jv, jh, jb, vs⟩, txs, sg⟩) : nameS ⟨vw, ht, pa, ⟨jv, jh, jb, vs⟩, txs, sg⟩ = nameS ⟨vw, ht, pa, ⟨jv, jh, jb, js⟩, txs, sig⟩ := by
  unfold nameS bkT
  rw [if_pos h1, if_pos h2, if_pos h1, if_pos h2]
  rfl
noncomputable def blockNamesC : Contract := mkC (α := Blk × List Vt × List UInt8) (fun p => p.1.txs.length ≤ 9223372036854775807) (fun p => [p.1.av, .c (.sl (votes p.2.1)), .c (.str p.2.2)]) (fun _ => []) (fun _ => ⟨[.pv (.c (.bool true))], []⟩)

set_option maxRecDepth 100000 in
set_option maxHeartbeats 4000000 in
theorem blockNames_sound (hΓ : SoundG Try.prog Γ) (h1 : Γ 11 = alive10C) (h2 : Γ 12 = bkCkC) (h3 : Γ 13 = bkNC) : SoundC Try.prog 3 blockNamesC := by
  refine sound_fn Try.func3 (by kernel_rfl) rfl rfl ?_
  intro args objs r0 hr
  obtain ⟨⟨⟨vw, ht, pa, ⟨jv, jh, jb, js⟩, txs, sig⟩, vs, sg⟩, hl, rfl, rfl, rfl⟩ := mkC_inv hr
  refine ⟨rfl, by show 3 ≤ _; decide, fun E hN hns hF => ?_⟩
  refine vc_sound hΓ mixed _ _ _ ?_
  have hN := hN.trans nt_3
  have hl : txs.length ≤ 9223372036854775807 := hl
  have q0 : alive10C [] [] = some ⟨[.pv (.c (.bool true))], []⟩ := rfl
  have q1 := bkCk_at ⟨vw, ht, pa, ⟨jv, jh, jb, js⟩, txs, sig⟩ hl
  have q2 := bkCk_at ⟨vw, ht, pa, ⟨jv, jh, jb, vs⟩, txs, sg⟩ hl
  have q3 := bkN_at vw ht pa jv jh jb js txs sig hl
  have q4 := bkN_at vw ht pa jv jh jb vs txs sg hl
  unfold Blk.av
  dsimp only at q1 q2 ⊢
  have n0 : ((0 : Int) != 0) = false := rfl
  have n9 : ((9 : Int) != 0) = true := rfl
  have e0 : ((0 : Int) == 0) = true := rfl
  have e9 : ((9 : Int) == 0) = false := rfl
  have bs : (([] : List UInt8) == []) = true := rfl
  by_cases hb : okB ⟨vw, ht, pa, ⟨jv, jh, jb, js⟩, txs, sig⟩
  case neg =>
    rw [show bkS ⟨vw, ht, pa, ⟨jv, jh, jb, js⟩, txs, sig⟩ = 9 from if_neg hb] at q1
    rw [show nameS ⟨vw, ht, pa, ⟨jv, jh, jb, js⟩, txs, sig⟩ = [] from if_neg hb] at q3
    simp only [runA, runB, runC, runD, runE, runF, fieldE, storeE, binE, ↓reduceIte, Nat.reduceLT, Nat.reduceLeDiff, Nat.reduceEqDiff, Nat.reduceAdd, Nat.reduceMul, Nat.reduceSub, reduceCtorEq, putAt, unE, Nat.reduceBEq, convE, buildE, List.replicate, Int.reduceLT, Int.reduceLE, Int.reduceToNat, mkE, mapSetE, hN, hF, ty_3, ty_4, ty_9, ty_22, ty_24, ty_25, ty_27, ty_122, notIf, isEq, h1, q0, h2, q1, h3, q3, n9, e9, bs]
    simp only [runB, finC, finD, Option.isSome_some, Option.isSome_none, ↓reduceIte, Nat.reduceEqDiff, Nat.reduceAdd, Nat.reduceMul, forall_eq_or_imp, forall_eq, implies_true, Nat.reduceBEq, reduceCtorEq, false_implies, List.zip_cons_cons, List.zip_nil_left, List.zip_nil_right, Nat.reduceLeDiff, List.forall_mem_nil, rs_3, ty_3, ty_4, ty_9, ty_22, ty_24, ty_25, ty_27, ty_122]
  rw [show bkS ⟨vw, ht, pa, ⟨jv, jh, jb, js⟩, txs, sig⟩ = 0 from if_pos hb] at q1
  by_cases hc : okB ⟨vw, ht, pa, ⟨jv, jh, jb, vs⟩, txs, sg⟩
  case neg =>
    rw [show bkS ⟨vw, ht, pa, ⟨jv, jh, jb, vs⟩, txs, sg⟩ = 9 from if_neg hc] at q2
    simp only [runA, runB, runC, runD, runE, runF, fieldE, storeE, binE, ↓reduceIte, Nat.reduceLT, Nat.reduceLeDiff, Nat.reduceEqDiff, Nat.reduceAdd, Nat.reduceMul, Nat.reduceSub, reduceCtorEq, putAt, unE, Nat.reduceBEq, convE, buildE, List.replicate, Int.reduceLT, Int.reduceLE, Int.reduceToNat, mkE, mapSetE, hN, hF, ty_3, ty_4, ty_9, ty_22, ty_24, ty_25, ty_27, ty_122, notIf, isEq, h1, q0, h2, q1, q2, n0, n9, e0]
    simp only [runB, finC, finD, Option.isSome_some, Option.isSome_none, ↓reduceIte, Nat.reduceEqDiff, Nat.reduceAdd, Nat.reduceMul, forall_eq_or_imp, forall_eq, implies_true, Nat.reduceBEq, reduceCtorEq, false_implies, List.zip_cons_cons, List.zip_nil_left, List.zip_nil_right, Nat.reduceLeDiff, List.forall_mem_nil, rs_3, ty_3, ty_4, ty_9, ty_22, ty_24, ty_25, ty_27, ty_122]
  rw [show bkS ⟨vw, ht, pa, ⟨jv, jh, jb, vs⟩, txs, sg⟩ = 0 from if_pos hc] at q2
  rw [nameS_same vw ht pa jv jh jb js vs txs sig sg hb hc] at q4
  have hlen : ((nameS ⟨vw, ht, pa, ⟨jv, jh, jb, js⟩, txs, sig⟩).length : Int) = 32 := by rw [nameS_len hb]; rfl
  generalize nameS ⟨vw, ht, pa, ⟨jv, jh, jb, js⟩, txs, sig⟩ = nm at q3 q4 hlen
  have hnm : (nm == nm) = true := by simp
  have b2 : ((32 : Int) == 32) = true := rfl
  simp only [runA, runB, runC, runD, runE, runF, fieldE, storeE, binE, ↓reduceIte, Nat.reduceLT, Nat.reduceLeDiff, Nat.reduceEqDiff, Nat.reduceAdd, Nat.reduceMul, Nat.reduceSub, reduceCtorEq, putAt, unE, Nat.reduceBEq, convE, buildE, List.replicate, Int.reduceLT, Int.reduceLE, Int.reduceToNat, mkE, mapSetE, hN, hF, ty_3, ty_4, ty_9, ty_22, ty_24, ty_25, ty_27, ty_122, notIf, isEq, h1, q0, h2, q1, q2, n0, h3, q3, q4, hnm, hlen, b2]
  refine drawnP_intro (by kernel_rfl) (by kernel_rfl) ?_
  simp only [runA, runB, runC, runD, runE, runF, fieldE, storeE, binE, ↓reduceIte, Nat.reduceLT, Nat.reduceLeDiff, Nat.reduceEqDiff, Nat.reduceAdd, Nat.reduceMul, Nat.reduceSub, reduceCtorEq, putAt, unE, Nat.reduceBEq, convE, buildE, List.replicate, Int.reduceLT, Int.reduceLE, Int.reduceToNat, mkE, mapSetE, hN, hF, ty_3, ty_4, ty_9, ty_22, ty_24, ty_25, ty_27, ty_122, notIf, isEq, h1, q0, h2, q1, q2, n0, h3, q3, q4, hnm, hlen, b2]
  simp only [runB, finC, finD, Option.isSome_some, Option.isSome_none, ↓reduceIte, Nat.reduceEqDiff, Nat.reduceAdd, Nat.reduceMul, forall_eq_or_imp, forall_eq, implies_true, Nat.reduceBEq, reduceCtorEq, false_implies, List.zip_cons_cons, List.zip_nil_left, List.zip_nil_right, Nat.reduceLeDiff, List.forall_mem_nil, rs_3, ty_3, ty_4, ty_9, ty_22, ty_24, ty_25, ty_27, ty_122]
noncomputable def E1 : FuncId → Contract := (ext (ext (ext (ext (ext (ext (ext M10 122 faultC) 106 cloneC) 77 newC) 95 clientC) 94 repC) 48 txCkC) 46 leaderC)
theorem E1_sound : SoundG Try.prog E1 := (ext_sound (ext_sound (ext_sound (ext_sound (ext_sound (ext_sound (ext_sound M10_sound fault_sound) clone_sound) new_sound) client_sound) rep_sound) refTxCk_sound) leader_sound)
noncomputable def E2 : FuncId → Contract := (ext (ext (ext (ext (ext (ext E1 104 numC) 103 textC) 79 doneC) 73 txCkC) 71 cfirstC) 12 bkCkC)
theorem E2_sound : SoundG Try.prog E2 := (ext_sound (ext_sound (ext_sound (ext_sound (ext_sound (ext_sound E1_sound (num_sound E1_sound rfl rfl)) (text_sound E1_sound rfl rfl)) (done_sound E1_sound rfl)) (txCk_sound E1_sound rfl)) (cfirst_sound E1_sound rfl)) (refBkCk_sound E1_sound rfl))
noncomputable def E3 : FuncId → Contract := (ext (ext (ext E2 123 txtC) 72 oddTC) 47 genC)
theorem E3_sound : SoundG Try.prog E3 := (ext_sound (ext_sound (ext_sound E2_sound (txt_sound E2_sound rfl rfl)) (oddT_sound E2_sound rfl)) (gen_sound E2_sound rfl))
noncomputable def E4 : FuncId → Contract := (ext (ext (ext E3 105 txPutC) 96 ckTIC) 11 alive10C)
theorem E4_sound : SoundG Try.prog E4 := (ext_sound (ext_sound (ext_sound E3_sound (txPut_sound E3_sound rfl rfl)) (ckTI_sound E3_sound rfl)) (alive10_sound E3_sound rfl rfl))
noncomputable def E5 : FuncId → Contract := (ext (ext E4 74 ckTFC) 78 bkTxC)
theorem E5_sound : SoundG Try.prog E5 := (ext_sound (ext_sound E4_sound (ckTF_sound E4_sound rfl)) (bkTx_sound E4_sound rfl rfl rfl))
noncomputable def E6 : FuncId → Contract := (ext E5 49 bkCkC)
theorem E6_sound : SoundG Try.prog E6 := (ext_sound E5_sound (bkCk_sound E5_sound rfl))
noncomputable def E7 : FuncId → Contract := (ext E6 51 bkTC)
theorem E7_sound : SoundG Try.prog E7 := (ext_sound E6_sound (bkT_sound E6_sound rfl rfl rfl rfl))
noncomputable def E8 : FuncId → Contract := (ext E7 13 bkNC)
theorem E8_sound : SoundG Try.prog E8 := (ext_sound E7_sound (bkN_sound E7_sound rfl rfl rfl))

set_option maxRecDepth 100000 in
theorem blockNames_lifted (os : Os) (started : os.Started) (H : Type) (enc : TypeId × Value → H) :
    ReturnsInHanded {} Try.checked os 3 .any (Rows.blockNamesSpec.pre6 enc Try.prog Try.f3 Rows.blockNamesRow.domain false) (Rows.blockNamesSpec.post enc Try.prog Try.f3 false true false false) := by
  refine returnsInHanded_of_change_sized (C := Try.checked) ownK started (by kernel_rfl) Try.func3
    (ChangeSpec.witness6 (enc := enc) (C := Try.checked) false ⟨#[], #[.agg #[.int .i64 0, .int .i64 0, .string ⟨#[]⟩, .int .i64 0, .int .i64 0, .string ⟨#[]⟩, .slice none 0 0, .slice none 0 0, .string ⟨#[]⟩], .slice none 0 0, .string ⟨#[]⟩], []⟩ 8 (by kernel_rfl) (by kernel_rfl) (by kernel_rfl) (by kernel_rfl)) ?_
  intro W base args ds gs before hval hW hcnd hsz _
  refine law_doneN (N := maxLen) laid (blockNames_sound E8_sound rfl rfl rfl) rfl (ts := [27, 22, 9]) (by kernel_rfl) (tb := 4) (by kernel_rfl) (by kernel_rfl) ?_ ?_ ?_ ?_ hval hW (.inl (Nat.le_refl _))
  · intro t ht; simp only [List.mem_cons, List.not_mem_nil, or_false] at ht; rcases ht with rfl | rfl | rfl <;> kernel_rfl
  · intro t ht; simp only [List.mem_cons, List.not_mem_nil, or_false] at ht; rcases ht with rfl | rfl | rfl <;> exact ⟨by kernel_rfl, of_decide_eq_true (by kernel_rfl)⟩
  · intro ds hd
    match ds, hd with
    | [a, b, c], _ => rfl
  · intro xs hxs
    match xs, hxs with
    | [x, y, z], h =>
      obtain ⟨h1, h2, h3, _⟩ := h
      obtain ⟨t, rfl, ht, _⟩ := bk_ofN h1
      obtain ⟨vs, rfl, _⟩ := vos_ofN h2
      obtain ⟨sg, rfl, _⟩ := str_ofN h3
      exact mkC_at (α := Blk × List Vt × List UInt8) (t, vs, sg) (Nat.le_trans ht (by decide)) (fun _ _ _ _ => rfl)
    | [], h => exact h.elim
    | [_], h => exact h.2.elim
    | [_, _], h => exact h.2.2.elim
    | _ :: _ :: _ :: _ :: _, h => exact h.2.2.2.elim


end Go.Proofs.Ytenmlgalcjkdbaa.AM

namespace Go.Proofs.Ytenmlgalcjkdbaa
open Go

theorem blockNames_over : Rows.blockNamesRow.holds Try.pinned (OpenSpec.ofChange Rows.blockNamesSpec) :=
  OpenClaim.holds_of_wide 3 Try.f3 rfl rfl rfl rfl rfl rfl rfl ⟨rfl, rfl, rfl, rfl, rfl⟩ rfl rfl rfl rfl rfl (by kernel_rfl) Try.func3 (by kernel_rfl)
    (of_decide_eq_true (by kernel_rfl)) (by unfold Func.isWrapper; first | (rw [if_pos (by decide +kernel)]; kernel_rfl) | (rw [if_neg (by decide +kernel)]; exact ⟨rfl, rfl⟩))
    (fun os started H enc _ => AM.blockNames_lifted os started H enc)

/-- The row. -/
theorem blockNames_holds : Rows.BlockNamesSaid := blockNames_over
#print axioms blockNames_holds
end Go.Proofs.Ytenmlgalcjkdbaa
