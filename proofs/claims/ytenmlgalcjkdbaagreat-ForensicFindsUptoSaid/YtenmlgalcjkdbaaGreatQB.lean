/-
  QB: Rq.
-/
import Derived.Test.YtenmlgalcjkdbaaGreatQA
import Derived.Test.YtenmlgalcjkdbaaGreatQ8
set_option linter.unusedVariables false
set_option linter.unusedSimpArgs false
namespace Go.Proofs.YtenmlgalcjkdbaaGreat.AM
open Go Go.RowKit

variable {Γ : FuncId → Contract}

theorem MRel.below0 {w w' : World} {Ext : Nat → Prop} {G : Gh} {res : List RV} (M : MRel (cEnv w Ext G.K) G (look (entryMem 0 [])) w) (b : Below w.heap.size w w') (he : exitMem ⟨res, []⟩ = []) : MRel (cEnv w Ext G.K) G (look (exitMem ⟨res, []⟩)) w' := by
  have hG : ∀ i, G.h i = none := fun i => (M.home i).none_of
  refine ⟨fun k o v h => ?_, fun n => ?_, fun n n' h h' k e => ?_, b.os.trans M.os, b.tape.trans M.tape, b.output.trans M.output, Nat.le_trans M.size0 b.size, Nat.le_trans M.sizeB b.size, fun k hk hE => b.block k hk, M.k0, M.kfr⟩
  · rw [cell_same (b.block k (M.k_lt h))]
    exact M.agree k o v h
  · rw [he, hG n]
    trivial
  · rw [hG n] at e
    cases e

noncomputable def repC : Contract := mkC (α := List UInt8 × Nat) (fun p => p.2 ≤ 9223372036854775807 ∧ p.1.length * p.2 ≤ 140737488355328) (fun p => [.c (.str p.1), .c (.int .i64 (p.2 : Int))]) (fun _ => []) (fun p => ⟨[.pv (.c (.str (Lib.repeatL p.1 p.2)))], []⟩)
theorem rep_at (s : List UInt8) (c : Nat) (g0 : c ≤ 9223372036854775807) (g1 : s.length * c ≤ 140737488355328) : repC [.c (.str s), .c (.int .i64 (c : Int))] [] = some ⟨[.pv (.c (.str (Lib.repeatL s c)))], []⟩ :=
  mkC_at (α := List UInt8 × Nat) (s, c) ⟨g0, g1⟩ (by
    rintro ⟨s', c'⟩ _ h _
    simp only [List.cons.injEq, AV.c.injEq, PC.str.injEq, PC.int.injEq, true_and, and_true, Int.natCast_inj] at h
    obtain ⟨rfl, rfl⟩ := h
    rfl)
theorem rep_sound : SoundC Tryz.prog 132 repC := by
  refine ⟨⟨_, Tryz.func132, rfl, rfl⟩, fun args objs r hr => ?_⟩
  obtain ⟨⟨s, c⟩, ⟨h1, h2⟩, rfl, rfl, rfl⟩ := mkC_inv hr
  refine ⟨fun x hx => resB_spec (l := [.pv (.c (.str (Lib.repeatL s c)))]) rfl x hx, fun Ext G w vals M hl hx => ?_⟩
  match vals, hl with
  | [v1, v2], _ =>
  have e1 : v1 = .string ⟨s.toArray⟩ := by
    have := hx 0 _ v1 rfl rfl
    cases this with
    | c _ _ h => cases h; rfl
  have e2 : v2 = .int .i64 (c : Int) := by
    have := hx 1 _ v2 rfl rfl
    cases this with
    | c _ _ h => cases h; rfl
  subst e1 e2
  refine Calls.mono (Tryz.strings_Repeat ⟨s.toArray⟩ c w h1 (by show s.toArray.size * c ≤ _; simpa using h2)) ?_
  rintro e W' ⟨rfl, bel⟩
  refine ⟨G, _, rfl, Gh.le_refl _, M.below0 bel rfl, ?_⟩
  exact .c _ _ (.str _)

def genS : List UInt8 := List.replicate 32 0
theorem repeat_zero : ∀ n, Lib.repeatL [0] n = List.replicate n (0 : UInt8) := by
  intro n
  induction n with
  | zero => rfl
  | succ n ih =>
    show [0] ++ Lib.repeatL [0] n = _
    rw [ih]; rfl

def cfirstC : Contract := fun args objs => match args, objs with | [], [] => some ⟨[.pv (.agg [.c (.int .i64 0), .c (.int .i64 0), .c (.str genS), .c (.sl [])])], []⟩ | _, _ => none
def genC : Contract := fun args objs => match args, objs with | [], [] => some ⟨[.pv (.c (.str genS))], []⟩ | _, _ => none
set_option maxHeartbeats 1000000 in
theorem cfirst_sound (hΓ : SoundG Tryz.prog Γ) (h1 : Γ 132 = repC) : SoundC Tryz.prog 81 cfirstC := by
  refine sound_fn Tryz.func81 (by kernel_rfl) rfl rfl ?_
  intro args objs r hr
  unfold cfirstC at hr
  split at hr
  · cases hr
    refine ⟨rfl, by show 0 ≤ _; decide, fun E hN hns hF => ?_⟩
    refine vc_sound hΓ mixed _ _ _ ?_
    have hN := hN.trans nt_81
    have q1 : repC [.c (.str [0]), .c (.int .i64 32)] [] = some ⟨[.pv (.c (.str genS))], []⟩ := by
      have h := rep_at [0] 32 (by decide) (by decide)
      rw [repeat_zero] at h
      exact h
    generalize genS = g at q1
    simp only [runA, runB, runC, runD, runE, runF, fieldE, storeE, binE, ↓reduceIte, Nat.reduceLT, Nat.reduceLeDiff, Nat.reduceEqDiff, Nat.reduceAdd, Nat.reduceMul, Nat.reduceSub, reduceCtorEq, putAt, unE, Nat.reduceBEq, convE, buildE, List.replicate, Int.reduceLT, Int.reduceLE, Int.reduceToNat, mkE, mapSetE, hN, hF, ty_3, ty_9, ty_29, ty_31, notIf, isEq, h1, q1]
    simp only [runB, finC, finD, Option.isSome_some, Option.isSome_none, ↓reduceIte, Nat.reduceEqDiff, Nat.reduceAdd, Nat.reduceMul, forall_eq_or_imp, forall_eq, implies_true, Nat.reduceBEq, reduceCtorEq, false_implies, List.zip_cons_cons, List.zip_nil_left, List.zip_nil_right, Nat.reduceLeDiff, List.forall_mem_nil, rs_81, ty_3, ty_9, ty_29, ty_31]
  · cases hr
set_option maxHeartbeats 1000000 in
theorem gen_sound (hΓ : SoundG Tryz.prog Γ) (h1 : Γ 81 = cfirstC) : SoundC Tryz.prog 42 genC := by
  refine sound_fn Tryz.func42 (by kernel_rfl) rfl rfl ?_
  intro args objs r hr
  unfold genC at hr
  split at hr
  · cases hr
    refine ⟨rfl, by show 0 ≤ _; decide, fun E hN hns hF => ?_⟩
    refine vc_sound hΓ mixed _ _ _ ?_
    have hN := hN.trans nt_42
    have q1 : cfirstC [] [] = some ⟨[.pv (.agg [.c (.int .i64 0), .c (.int .i64 0), .c (.str genS), .c (.sl [])])], []⟩ := rfl
    generalize genS = g at q1
    simp only [runA, runB, runC, runD, runE, runF, fieldE, storeE, binE, ↓reduceIte, Nat.reduceLT, Nat.reduceLeDiff, Nat.reduceEqDiff, Nat.reduceAdd, Nat.reduceMul, Nat.reduceSub, reduceCtorEq, putAt, unE, Nat.reduceBEq, convE, buildE, List.replicate, Int.reduceLT, Int.reduceLE, Int.reduceToNat, mkE, mapSetE, hN, hF, ty_3, ty_9, ty_29, ty_31, notIf, isEq, h1, q1]
    simp only [runB, finC, finD, Option.isSome_some, Option.isSome_none, ↓reduceIte, Nat.reduceEqDiff, Nat.reduceAdd, Nat.reduceMul, forall_eq_or_imp, forall_eq, implies_true, Nat.reduceBEq, reduceCtorEq, false_implies, List.zip_cons_cons, List.zip_nil_left, List.zip_nil_right, Nat.reduceLeDiff, List.forall_mem_nil, rs_42, ty_3, ty_9, ty_29, ty_31]
  · cases hr
set_option maxRecDepth 100000 in
set_option maxHeartbeats 1000000 in
theorem refGen_sound : SoundC Tryz.prog 9 genC := by
  refine sound_fn Tryz.func9 (by kernel_rfl) rfl rfl ?_
  intro args objs r hr
  unfold genC at hr
  split at hr
  · cases hr
    refine ⟨rfl, by show 0 ≤ _; decide, fun E hN hns hF => ?_⟩
    refine vc_sound none0_sound mixed _ _ _ ?_
    have hN := hN.trans nt_9
    have h32 : ((32 : Int) * ((1 : Nat) : Int) ≤ 140737488355328) = True := eq_true (by decide)
    have hb : bytesOf [[.int .u8 0], [.int .u8 0], [.int .u8 0], [.int .u8 0], [.int .u8 0], [.int .u8 0], [.int .u8 0], [.int .u8 0], [.int .u8 0], [.int .u8 0], [.int .u8 0], [.int .u8 0], [.int .u8 0], [.int .u8 0], [.int .u8 0], [.int .u8 0], [.int .u8 0], [.int .u8 0], [.int .u8 0], [.int .u8 0], [.int .u8 0], [.int .u8 0], [.int .u8 0], [.int .u8 0], [.int .u8 0], [.int .u8 0], [.int .u8 0], [.int .u8 0], [.int .u8 0], [.int .u8 0], [.int .u8 0], [.int .u8 0]] = some genS := bytesOf_bytes genS
    have h32' : ((32 : Nat) * 1 ≤ 140737488355328) = True := eq_true (by decide)
    simp only [runA, runB, runC, runD, runE, runF, fieldE, storeE, binE, ↓reduceIte, Nat.reduceLT, Nat.reduceLeDiff, Nat.reduceEqDiff, Nat.reduceAdd, Nat.reduceMul, Nat.reduceSub, reduceCtorEq, putAt, unE, Nat.reduceBEq, convE, buildE, List.replicate, Int.reduceLT, Int.reduceLE, Int.reduceToNat, mkE, mapSetE, hN, hF, ty_5, ty_9, ty_47, notIf, isEq, h32, h32', hb]
    simp only [runB, finC, finD, Option.isSome_some, Option.isSome_none, ↓reduceIte, Nat.reduceEqDiff, Nat.reduceAdd, Nat.reduceMul, forall_eq_or_imp, forall_eq, implies_true, Nat.reduceBEq, reduceCtorEq, false_implies, List.zip_cons_cons, List.zip_nil_left, List.zip_nil_right, Nat.reduceLeDiff, List.forall_mem_nil, rs_9, ty_5, ty_9, ty_47, genS]
  · cases hr
end Go.Proofs.YtenmlgalcjkdbaaGreat.AM
