/-
  QD: Sn9 SnT SnU.
-/
import Derived.Test.YtldehcnaepgamaaQC
import Derived.Test.YtldehcnaepgamaaQ9
set_option linter.unusedVariables false
set_option linter.unusedSimpArgs false
namespace Go.Proofs.Ytldehcnaepgamaa.AM
open Go

variable {Γ : FuncId → Contract}

noncomputable def num05C : Contract := mkC (α := Int) (fun _ => True) (fun h => [.c (.int .i64 h)]) (fun _ => []) (fun h => ⟨[.pv (.c (.int .i64 h))], []⟩)
theorem num05_at (n : Int) : num05C [.c (.int .i64 n)] [] = some ⟨[.pv (.c (.int .i64 n))], []⟩ :=
  mkC_at (α := Int) n trivial (by
    rintro m _ h _
    simp only [List.cons.injEq, AV.c.injEq, PC.int.injEq, true_and, and_true] at h
    rw [h])
set_option maxHeartbeats 1000000 in
theorem num05_sound : SoundC Try.prog 16 num05C := by
  refine sound_fn Try.func16 (by kernel_rfl) rfl rfl ?_
  intro args objs r hr
  obtain ⟨n, _, rfl, rfl, rfl⟩ := mkC_inv hr
  refine ⟨rfl, by show 1 ≤ _; decide, fun E hN hns hF => ?_⟩
  refine vc_sound none0_sound mixed _ _ _ ?_
  have hN := hN.trans nt_16
  simp only [runA, runB, runC, runD, runE, runF, fieldE, storeE, binE, ↓reduceIte, Nat.reduceLT, Nat.reduceLeDiff, Nat.reduceEqDiff, Nat.reduceAdd, Nat.reduceMul, Nat.reduceSub, reduceCtorEq, putAt, unE, Nat.reduceBEq, convE, buildE, List.replicate, Int.reduceLT, Int.reduceLE, Int.reduceToNat, mkE, mapSetE, hN, hF, ty_3, notIf, isEq]
  simp only [runB, finC, finD, Option.isSome_some, Option.isSome_none, ↓reduceIte, Nat.reduceEqDiff, Nat.reduceAdd, Nat.reduceMul, forall_eq_or_imp, forall_eq, implies_true, Nat.reduceBEq, reduceCtorEq, false_implies, List.zip_cons_cons, List.zip_nil_left, List.zip_nil_right, Nat.reduceLeDiff, List.forall_mem_nil, rs_16]

structure Tl where
  k : Ky
  text : List UInt8
  h : Int
def tlOK (p : Tl) : Prop := p.k.leaves.length ≤ 1048576 ∧ p.text.length ≤ 1099511627776
noncomputable def sigTellsC : Contract := mkC (α := Tl) tlOK (fun p => [p.k.av, .c (.sl (bytes p.text)), .c (.int .i64 p.h)]) (fun _ => []) (fun _ => ⟨[.pv (.c (.bool true))], []⟩)

set_option maxRecDepth 100000 in
set_option maxHeartbeats 8000000 in
theorem sigTells_sound (hΓ : SoundG Try.prog Γ) (h1 : Γ 13 = signC) (h2 : Γ 15 = refSigC) (h3 : Γ 18 = rootKC) (h4 : Γ 19 = keyC) (h5 : Γ 20 = keyC) (h6 : Γ 21 = heightC) (h7 : Γ 22 = heightC) (h8 : Γ 23 = sizeGC) (h9 : Γ 12 = alive5C) (h10 : Γ 16 = num05C) (h11 : Γ 24 = rootC) (h12 : Γ 14 = sameKC) : SoundC Try.prog 4 sigTellsC := by
  refine sound_fn Try.func4 (by kernel_rfl) rfl rfl ?_
  intro args objs r hr
  obtain ⟨⟨⟨seed, leaves, next⟩, text, h⟩, ⟨hl1, hl2⟩, rfl, rfl, rfl⟩ := mkC_inv hr
  have hl1 : leaves.length ≤ 1048576 := hl1
  have hl2 : text.length ≤ 1099511627776 := hl2
  refine ⟨rfl, by show 3 ≤ _; decide, fun E hN hns hF => ?_⟩
  refine vc_sound hΓ mixed _ _ _ ?_
  have hN := hN.trans nt_4
  have q1 := sign_at ⟨seed, leaves, next⟩ text (show leaves.length ≤ _ by omega) hl2
  have q2 := refSig_at ⟨seed, leaves, next⟩ text (show leaves.length ≤ _ by omega) hl2
  have q3 := rootK_at ⟨seed, leaves, next⟩ (show leaves.length ≤ _ by omega)
  have q4 := key_at ⟨seed, leaves, next⟩ (show leaves.length ≤ _ by omega)
  have q5 := height_at ⟨seed, leaves, next⟩ (show leaves.length ≤ _ by omega)
  have q6 := sizeG_at h
  have q7 := num05_at
  have b0 : ((0 : Int) != 0) = false := rfl
  have b1 : ((0 : Int) == 0) = true := rfl
  have b9 : ((9 : Int) == 9) = true := rfl
  have b9' : ((9 : Int) != 0) = true := rfl
  have b17 : ((17 : Int) != 0) = true := rfl
  have bs : (([] : List UInt8) == []) = true := rfl
  have bb : ∀ x : List UInt8, (x == x) = true := fun x => by simp
  have bi : ∀ x : Int, (x != x) = false := fun x => by simp
  unfold Ky.av
  dsimp only at q1 q2 q3 q4 q5 ⊢
  generalize heightS ⟨seed, leaves, next⟩ = hh at q5
  by_cases hg : goodK ⟨seed, leaves, next⟩
  case neg =>
    rw [show signS ⟨seed, leaves, next⟩ text = ([], zeroK, 9) from if_neg hg] at q1 q2
    rw [show keyS ⟨seed, leaves, next⟩ = 9 from if_neg hg] at q4
    rw [show rootK ⟨seed, leaves, next⟩ = ([], 9) from if_neg hg] at q3
    simp only [Ky.av, zeroK, texts, List.map_nil] at q1 q2 q3
    have tl : (leaves.map fun s => [PC.str s]) = texts leaves := rfl
    rw [tl] at q1 q2 q3
    by_cases hc : h < 0
    · have s1 : decide (h ≥ 0) = false := by simp; omega
      have hz : sizeS h = 0 := if_pos (.inl hc)
      rw [hz] at q6
      simp only [runA, runB, runC, runD, runE, runF, fieldE, storeE, binE, ↓reduceIte, Nat.reduceLT, Nat.reduceLeDiff, Nat.reduceEqDiff, Nat.reduceAdd, Nat.reduceMul, Nat.reduceSub, reduceCtorEq, putAt, unE, Nat.reduceBEq, convE, buildE, List.replicate, Int.reduceLT, Int.reduceLE, Int.reduceToNat, mkE, mapSetE, hN, hF, ty_3, ty_4, ty_5, ty_9, ty_22, ty_24, ty_25, ty_27, notIf, isEq, texts_length, h1, h2, h3, h4, h5, h6, h7, h8, h9, alive5C, h10, h11, h12, q1, q2, q3, q4, q5, q6, q7, b0, b1, b9, b9', b17, bs, bb, bi, s1]
      refine drawnP_intro (by kernel_rfl) (by kernel_rfl) ?_
      simp only [runA, runB, runC, runD, runE, runF, fieldE, storeE, binE, ↓reduceIte, Nat.reduceLT, Nat.reduceLeDiff, Nat.reduceEqDiff, Nat.reduceAdd, Nat.reduceMul, Nat.reduceSub, reduceCtorEq, putAt, unE, Nat.reduceBEq, convE, buildE, List.replicate, Int.reduceLT, Int.reduceLE, Int.reduceToNat, mkE, mapSetE, hN, hF, ty_3, ty_4, ty_5, ty_9, ty_22, ty_24, ty_25, ty_27, notIf, isEq, texts_length, h1, h2, h3, h4, h5, h6, h7, h8, h9, alive5C, h10, h11, h12, q1, q2, q3, q4, q5, q6, q7, b0, b1, b9, b9', b17, bs, bb, bi, s1]
      simp only [runB, finC, finD, Option.isSome_some, Option.isSome_none, ↓reduceIte, Nat.reduceEqDiff, Nat.reduceAdd, Nat.reduceMul, forall_eq_or_imp, forall_eq, implies_true, Nat.reduceBEq, reduceCtorEq, false_implies, List.zip_cons_cons, List.zip_nil_left, List.zip_nil_right, Nat.reduceLeDiff, List.forall_mem_nil, rs_4]
    by_cases hd : 4 < h
    · have s1 : decide (h ≥ 0) = true := by simp; omega
      have s2 : decide (h ≤ 4) = false := by simp; omega
      have hz : sizeS h = 0 := if_pos (.inr hd)
      rw [hz] at q6
      simp only [runA, runB, runC, runD, runE, runF, fieldE, storeE, binE, ↓reduceIte, Nat.reduceLT, Nat.reduceLeDiff, Nat.reduceEqDiff, Nat.reduceAdd, Nat.reduceMul, Nat.reduceSub, reduceCtorEq, putAt, unE, Nat.reduceBEq, convE, buildE, List.replicate, Int.reduceLT, Int.reduceLE, Int.reduceToNat, mkE, mapSetE, hN, hF, ty_3, ty_4, ty_5, ty_9, ty_22, ty_24, ty_25, ty_27, notIf, isEq, texts_length, h1, h2, h3, h4, h5, h6, h7, h8, h9, alive5C, h10, h11, h12, q1, q2, q3, q4, q5, q6, q7, b0, b1, b9, b9', b17, bs, bb, bi, s1, s2]
      refine drawnP_intro (by kernel_rfl) (by kernel_rfl) ?_
      simp only [runA, runB, runC, runD, runE, runF, fieldE, storeE, binE, ↓reduceIte, Nat.reduceLT, Nat.reduceLeDiff, Nat.reduceEqDiff, Nat.reduceAdd, Nat.reduceMul, Nat.reduceSub, reduceCtorEq, putAt, unE, Nat.reduceBEq, convE, buildE, List.replicate, Int.reduceLT, Int.reduceLE, Int.reduceToNat, mkE, mapSetE, hN, hF, ty_3, ty_4, ty_5, ty_9, ty_22, ty_24, ty_25, ty_27, notIf, isEq, texts_length, h1, h2, h3, h4, h5, h6, h7, h8, h9, alive5C, h10, h11, h12, q1, q2, q3, q4, q5, q6, q7, b0, b1, b9, b9', b17, bs, bb, bi, s1, s2]
      simp only [runB, finC, finD, Option.isSome_some, Option.isSome_none, ↓reduceIte, Nat.reduceEqDiff, Nat.reduceAdd, Nat.reduceMul, forall_eq_or_imp, forall_eq, implies_true, Nat.reduceBEq, reduceCtorEq, false_implies, List.zip_cons_cons, List.zip_nil_left, List.zip_nil_right, Nat.reduceLeDiff, List.forall_mem_nil, rs_4]
    have s1 : decide (h ≥ 0) = true := by simp; omega
    have s2 : decide (h ≤ 4) = true := by simp; omega
    have hz : sizeS h = 90 + 8 * h := if_neg (by omega)
    have s3 : IntKind.i64.wrap (8 * h) = 8 * h := wrapI (by omega)
    have s4 : IntKind.i64.wrap (90 + 8 * h) = 90 + 8 * h := wrapI (by omega)
    rw [hz] at q6
    simp only [runA, runB, runC, runD, runE, runF, fieldE, storeE, binE, ↓reduceIte, Nat.reduceLT, Nat.reduceLeDiff, Nat.reduceEqDiff, Nat.reduceAdd, Nat.reduceMul, Nat.reduceSub, reduceCtorEq, putAt, unE, Nat.reduceBEq, convE, buildE, List.replicate, Int.reduceLT, Int.reduceLE, Int.reduceToNat, mkE, mapSetE, hN, hF, ty_3, ty_4, ty_5, ty_9, ty_22, ty_24, ty_25, ty_27, notIf, isEq, texts_length, h1, h2, h3, h4, h5, h6, h7, h8, h9, alive5C, h10, h11, h12, q1, q2, q3, q4, q5, q6, q7, b0, b1, b9, b9', b17, bs, bb, bi, s1, s2, s3, s4]
    refine drawnP_intro (by kernel_rfl) (by kernel_rfl) ?_
    simp only [runA, runB, runC, runD, runE, runF, fieldE, storeE, binE, ↓reduceIte, Nat.reduceLT, Nat.reduceLeDiff, Nat.reduceEqDiff, Nat.reduceAdd, Nat.reduceMul, Nat.reduceSub, reduceCtorEq, putAt, unE, Nat.reduceBEq, convE, buildE, List.replicate, Int.reduceLT, Int.reduceLE, Int.reduceToNat, mkE, mapSetE, hN, hF, ty_3, ty_4, ty_5, ty_9, ty_22, ty_24, ty_25, ty_27, notIf, isEq, texts_length, h1, h2, h3, h4, h5, h6, h7, h8, h9, alive5C, h10, h11, h12, q1, q2, q3, q4, q5, q6, q7, b0, b1, b9, b9', b17, bs, bb, bi, s1, s2, s3, s4]
    simp only [runB, finC, finD, Option.isSome_some, Option.isSome_none, ↓reduceIte, Nat.reduceEqDiff, Nat.reduceAdd, Nat.reduceMul, forall_eq_or_imp, forall_eq, implies_true, Nat.reduceBEq, reduceCtorEq, false_implies, List.zip_cons_cons, List.zip_nil_left, List.zip_nil_right, Nat.reduceLeDiff, List.forall_mem_nil, rs_4]
  have q8 := root_at leaves hg.okl
  rw [show keyS ⟨seed, leaves, next⟩ = 0 from if_pos hg] at q4
  rw [show rootK ⟨seed, leaves, next⟩ = (rootS leaves, 0) from if_pos hg] at q3
  dsimp only at q3
  generalize rootS leaves = rt at q3 q8
  obtain ⟨a1, a2, a3, a4, a5⟩ := id hg
  dsimp only at a1 a2 a3 a4 a5
  have a6 : leaves.length ≤ 16 := by unfold okN16 at a2; omega
  have e1 : IntKind.i64.wrap (next + 1) = next + 1 := wrapI (by omega)
  by_cases hn : next = (leaves.length : Int)
  case pos =>
    rw [show signS ⟨seed, leaves, next⟩ text = ([], zeroK, 17) from by unfold signS; rw [if_pos hg, if_pos hn]] at q1 q2
    simp only [Ky.av, zeroK, texts, List.map_nil] at q1 q2
    have tl : (leaves.map fun s => [PC.str s]) = texts leaves := rfl
    rw [tl] at q1 q2
    by_cases hc : h < 0
    · have s1 : decide (h ≥ 0) = false := by simp; omega
      have hz : sizeS h = 0 := if_pos (.inl hc)
      rw [hz] at q6
      simp only [runA, runB, runC, runD, runE, runF, fieldE, storeE, binE, ↓reduceIte, Nat.reduceLT, Nat.reduceLeDiff, Nat.reduceEqDiff, Nat.reduceAdd, Nat.reduceMul, Nat.reduceSub, reduceCtorEq, putAt, unE, Nat.reduceBEq, convE, buildE, List.replicate, Int.reduceLT, Int.reduceLE, Int.reduceToNat, mkE, mapSetE, hN, hF, ty_3, ty_4, ty_5, ty_9, ty_22, ty_24, ty_25, ty_27, notIf, isEq, texts_length, h1, h2, h3, h4, h5, h6, h7, h8, h9, alive5C, h10, h11, h12, q1, q2, q3, q4, q5, q6, q7, b0, b1, b9, b9', b17, bs, bb, bi, s1, q8, e1]
      refine drawnP_intro (by kernel_rfl) (by kernel_rfl) ?_
      simp only [runA, runB, runC, runD, runE, runF, fieldE, storeE, binE, ↓reduceIte, Nat.reduceLT, Nat.reduceLeDiff, Nat.reduceEqDiff, Nat.reduceAdd, Nat.reduceMul, Nat.reduceSub, reduceCtorEq, putAt, unE, Nat.reduceBEq, convE, buildE, List.replicate, Int.reduceLT, Int.reduceLE, Int.reduceToNat, mkE, mapSetE, hN, hF, ty_3, ty_4, ty_5, ty_9, ty_22, ty_24, ty_25, ty_27, notIf, isEq, texts_length, h1, h2, h3, h4, h5, h6, h7, h8, h9, alive5C, h10, h11, h12, q1, q2, q3, q4, q5, q6, q7, b0, b1, b9, b9', b17, bs, bb, bi, s1, q8, e1]
      simp only [runB, finC, finD, Option.isSome_some, Option.isSome_none, ↓reduceIte, Nat.reduceEqDiff, Nat.reduceAdd, Nat.reduceMul, forall_eq_or_imp, forall_eq, implies_true, Nat.reduceBEq, reduceCtorEq, false_implies, List.zip_cons_cons, List.zip_nil_left, List.zip_nil_right, Nat.reduceLeDiff, List.forall_mem_nil, rs_4]
    by_cases hd : 4 < h
    · have s1 : decide (h ≥ 0) = true := by simp; omega
      have s2 : decide (h ≤ 4) = false := by simp; omega
      have hz : sizeS h = 0 := if_pos (.inr hd)
      rw [hz] at q6
      simp only [runA, runB, runC, runD, runE, runF, fieldE, storeE, binE, ↓reduceIte, Nat.reduceLT, Nat.reduceLeDiff, Nat.reduceEqDiff, Nat.reduceAdd, Nat.reduceMul, Nat.reduceSub, reduceCtorEq, putAt, unE, Nat.reduceBEq, convE, buildE, List.replicate, Int.reduceLT, Int.reduceLE, Int.reduceToNat, mkE, mapSetE, hN, hF, ty_3, ty_4, ty_5, ty_9, ty_22, ty_24, ty_25, ty_27, notIf, isEq, texts_length, h1, h2, h3, h4, h5, h6, h7, h8, h9, alive5C, h10, h11, h12, q1, q2, q3, q4, q5, q6, q7, b0, b1, b9, b9', b17, bs, bb, bi, s1, s2, q8, e1]
      refine drawnP_intro (by kernel_rfl) (by kernel_rfl) ?_
      simp only [runA, runB, runC, runD, runE, runF, fieldE, storeE, binE, ↓reduceIte, Nat.reduceLT, Nat.reduceLeDiff, Nat.reduceEqDiff, Nat.reduceAdd, Nat.reduceMul, Nat.reduceSub, reduceCtorEq, putAt, unE, Nat.reduceBEq, convE, buildE, List.replicate, Int.reduceLT, Int.reduceLE, Int.reduceToNat, mkE, mapSetE, hN, hF, ty_3, ty_4, ty_5, ty_9, ty_22, ty_24, ty_25, ty_27, notIf, isEq, texts_length, h1, h2, h3, h4, h5, h6, h7, h8, h9, alive5C, h10, h11, h12, q1, q2, q3, q4, q5, q6, q7, b0, b1, b9, b9', b17, bs, bb, bi, s1, s2, q8, e1]
      simp only [runB, finC, finD, Option.isSome_some, Option.isSome_none, ↓reduceIte, Nat.reduceEqDiff, Nat.reduceAdd, Nat.reduceMul, forall_eq_or_imp, forall_eq, implies_true, Nat.reduceBEq, reduceCtorEq, false_implies, List.zip_cons_cons, List.zip_nil_left, List.zip_nil_right, Nat.reduceLeDiff, List.forall_mem_nil, rs_4]
    have s1 : decide (h ≥ 0) = true := by simp; omega
    have s2 : decide (h ≤ 4) = true := by simp; omega
    have hz : sizeS h = 90 + 8 * h := if_neg (by omega)
    have s3 : IntKind.i64.wrap (8 * h) = 8 * h := wrapI (by omega)
    have s4 : IntKind.i64.wrap (90 + 8 * h) = 90 + 8 * h := wrapI (by omega)
    rw [hz] at q6
    simp only [runA, runB, runC, runD, runE, runF, fieldE, storeE, binE, ↓reduceIte, Nat.reduceLT, Nat.reduceLeDiff, Nat.reduceEqDiff, Nat.reduceAdd, Nat.reduceMul, Nat.reduceSub, reduceCtorEq, putAt, unE, Nat.reduceBEq, convE, buildE, List.replicate, Int.reduceLT, Int.reduceLE, Int.reduceToNat, mkE, mapSetE, hN, hF, ty_3, ty_4, ty_5, ty_9, ty_22, ty_24, ty_25, ty_27, notIf, isEq, texts_length, h1, h2, h3, h4, h5, h6, h7, h8, h9, alive5C, h10, h11, h12, q1, q2, q3, q4, q5, q6, q7, b0, b1, b9, b9', b17, bs, bb, bi, s1, s2, s3, s4, q8, e1]
    refine drawnP_intro (by kernel_rfl) (by kernel_rfl) ?_
    simp only [runA, runB, runC, runD, runE, runF, fieldE, storeE, binE, ↓reduceIte, Nat.reduceLT, Nat.reduceLeDiff, Nat.reduceEqDiff, Nat.reduceAdd, Nat.reduceMul, Nat.reduceSub, reduceCtorEq, putAt, unE, Nat.reduceBEq, convE, buildE, List.replicate, Int.reduceLT, Int.reduceLE, Int.reduceToNat, mkE, mapSetE, hN, hF, ty_3, ty_4, ty_5, ty_9, ty_22, ty_24, ty_25, ty_27, notIf, isEq, texts_length, h1, h2, h3, h4, h5, h6, h7, h8, h9, alive5C, h10, h11, h12, q1, q2, q3, q4, q5, q6, q7, b0, b1, b9, b9', b17, bs, bb, bi, s1, s2, s3, s4, q8, e1]
    simp only [runB, finC, finD, Option.isSome_some, Option.isSome_none, ↓reduceIte, Nat.reduceEqDiff, Nat.reduceAdd, Nat.reduceMul, forall_eq_or_imp, forall_eq, implies_true, Nat.reduceBEq, reduceCtorEq, false_implies, List.zip_cons_cons, List.zip_nil_left, List.zip_nil_right, Nat.reduceLeDiff, List.forall_mem_nil, rs_4]
  rw [show signS ⟨seed, leaves, next⟩ text = (sigB ⟨seed, leaves, next⟩ text, ⟨seed, leaves, next + 1⟩, 0) from by unfold signS; rw [if_pos hg, if_neg hn]; rfl] at q1 q2
  unfold Ky.av at q1
  dsimp only at q1 q2
  generalize sigB ⟨seed, leaves, next⟩ text = sg at q1 q2
  have q9 := sameK_at ⟨seed, leaves, next + 1⟩ ⟨seed, leaves, next + 1⟩ (show leaves.length ≤ _ by omega)
  rw [decide_eq_true rfl] at q9
  dsimp only at q9
  by_cases hc : h < 0
  · have s1 : decide (h ≥ 0) = false := by simp; omega
    have hz : sizeS h = 0 := if_pos (.inl hc)
    rw [hz] at q6
    simp only [runA, runB, runC, runD, runE, runF, fieldE, storeE, binE, ↓reduceIte, Nat.reduceLT, Nat.reduceLeDiff, Nat.reduceEqDiff, Nat.reduceAdd, Nat.reduceMul, Nat.reduceSub, reduceCtorEq, putAt, unE, Nat.reduceBEq, convE, buildE, List.replicate, Int.reduceLT, Int.reduceLE, Int.reduceToNat, mkE, mapSetE, hN, hF, ty_3, ty_4, ty_5, ty_9, ty_22, ty_24, ty_25, ty_27, notIf, isEq, texts_length, h1, h2, h3, h4, h5, h6, h7, h8, h9, alive5C, h10, h11, h12, q1, q2, q3, q4, q5, q6, q7, b0, b1, b9, b9', b17, bs, bb, bi, s1, q8, q9, e1]
    refine drawnP_intro (by kernel_rfl) (by kernel_rfl) ?_
    simp only [runA, runB, runC, runD, runE, runF, fieldE, storeE, binE, ↓reduceIte, Nat.reduceLT, Nat.reduceLeDiff, Nat.reduceEqDiff, Nat.reduceAdd, Nat.reduceMul, Nat.reduceSub, reduceCtorEq, putAt, unE, Nat.reduceBEq, convE, buildE, List.replicate, Int.reduceLT, Int.reduceLE, Int.reduceToNat, mkE, mapSetE, hN, hF, ty_3, ty_4, ty_5, ty_9, ty_22, ty_24, ty_25, ty_27, notIf, isEq, texts_length, h1, h2, h3, h4, h5, h6, h7, h8, h9, alive5C, h10, h11, h12, q1, q2, q3, q4, q5, q6, q7, b0, b1, b9, b9', b17, bs, bb, bi, s1, q8, q9, e1]
    simp only [runB, finC, finD, Option.isSome_some, Option.isSome_none, ↓reduceIte, Nat.reduceEqDiff, Nat.reduceAdd, Nat.reduceMul, forall_eq_or_imp, forall_eq, implies_true, Nat.reduceBEq, reduceCtorEq, false_implies, List.zip_cons_cons, List.zip_nil_left, List.zip_nil_right, Nat.reduceLeDiff, List.forall_mem_nil, rs_4]
  by_cases hd : 4 < h
  · have s1 : decide (h ≥ 0) = true := by simp; omega
    have s2 : decide (h ≤ 4) = false := by simp; omega
    have hz : sizeS h = 0 := if_pos (.inr hd)
    rw [hz] at q6
    simp only [runA, runB, runC, runD, runE, runF, fieldE, storeE, binE, ↓reduceIte, Nat.reduceLT, Nat.reduceLeDiff, Nat.reduceEqDiff, Nat.reduceAdd, Nat.reduceMul, Nat.reduceSub, reduceCtorEq, putAt, unE, Nat.reduceBEq, convE, buildE, List.replicate, Int.reduceLT, Int.reduceLE, Int.reduceToNat, mkE, mapSetE, hN, hF, ty_3, ty_4, ty_5, ty_9, ty_22, ty_24, ty_25, ty_27, notIf, isEq, texts_length, h1, h2, h3, h4, h5, h6, h7, h8, h9, alive5C, h10, h11, h12, q1, q2, q3, q4, q5, q6, q7, b0, b1, b9, b9', b17, bs, bb, bi, s1, s2, q8, q9, e1]
    refine drawnP_intro (by kernel_rfl) (by kernel_rfl) ?_
    simp only [runA, runB, runC, runD, runE, runF, fieldE, storeE, binE, ↓reduceIte, Nat.reduceLT, Nat.reduceLeDiff, Nat.reduceEqDiff, Nat.reduceAdd, Nat.reduceMul, Nat.reduceSub, reduceCtorEq, putAt, unE, Nat.reduceBEq, convE, buildE, List.replicate, Int.reduceLT, Int.reduceLE, Int.reduceToNat, mkE, mapSetE, hN, hF, ty_3, ty_4, ty_5, ty_9, ty_22, ty_24, ty_25, ty_27, notIf, isEq, texts_length, h1, h2, h3, h4, h5, h6, h7, h8, h9, alive5C, h10, h11, h12, q1, q2, q3, q4, q5, q6, q7, b0, b1, b9, b9', b17, bs, bb, bi, s1, s2, q8, q9, e1]
    simp only [runB, finC, finD, Option.isSome_some, Option.isSome_none, ↓reduceIte, Nat.reduceEqDiff, Nat.reduceAdd, Nat.reduceMul, forall_eq_or_imp, forall_eq, implies_true, Nat.reduceBEq, reduceCtorEq, false_implies, List.zip_cons_cons, List.zip_nil_left, List.zip_nil_right, Nat.reduceLeDiff, List.forall_mem_nil, rs_4]
  have s1 : decide (h ≥ 0) = true := by simp; omega
  have s2 : decide (h ≤ 4) = true := by simp; omega
  have hz : sizeS h = 90 + 8 * h := if_neg (by omega)
  have s3 : IntKind.i64.wrap (8 * h) = 8 * h := wrapI (by omega)
  have s4 : IntKind.i64.wrap (90 + 8 * h) = 90 + 8 * h := wrapI (by omega)
  rw [hz] at q6
  simp only [runA, runB, runC, runD, runE, runF, fieldE, storeE, binE, ↓reduceIte, Nat.reduceLT, Nat.reduceLeDiff, Nat.reduceEqDiff, Nat.reduceAdd, Nat.reduceMul, Nat.reduceSub, reduceCtorEq, putAt, unE, Nat.reduceBEq, convE, buildE, List.replicate, Int.reduceLT, Int.reduceLE, Int.reduceToNat, mkE, mapSetE, hN, hF, ty_3, ty_4, ty_5, ty_9, ty_22, ty_24, ty_25, ty_27, notIf, isEq, texts_length, h1, h2, h3, h4, h5, h6, h7, h8, h9, alive5C, h10, h11, h12, q1, q2, q3, q4, q5, q6, q7, b0, b1, b9, b9', b17, bs, bb, bi, s1, s2, s3, s4, q8, q9, e1]
  refine drawnP_intro (by kernel_rfl) (by kernel_rfl) ?_
  simp only [runA, runB, runC, runD, runE, runF, fieldE, storeE, binE, ↓reduceIte, Nat.reduceLT, Nat.reduceLeDiff, Nat.reduceEqDiff, Nat.reduceAdd, Nat.reduceMul, Nat.reduceSub, reduceCtorEq, putAt, unE, Nat.reduceBEq, convE, buildE, List.replicate, Int.reduceLT, Int.reduceLE, Int.reduceToNat, mkE, mapSetE, hN, hF, ty_3, ty_4, ty_5, ty_9, ty_22, ty_24, ty_25, ty_27, notIf, isEq, texts_length, h1, h2, h3, h4, h5, h6, h7, h8, h9, alive5C, h10, h11, h12, q1, q2, q3, q4, q5, q6, q7, b0, b1, b9, b9', b17, bs, bb, bi, s1, s2, s3, s4, q8, q9, e1]
  simp only [runB, finC, finD, Option.isSome_some, Option.isSome_none, ↓reduceIte, Nat.reduceEqDiff, Nat.reduceAdd, Nat.reduceMul, forall_eq_or_imp, forall_eq, implies_true, Nat.reduceBEq, reduceCtorEq, false_implies, List.zip_cons_cons, List.zip_nil_left, List.zip_nil_right, Nat.reduceLeDiff, List.forall_mem_nil, rs_4]

end Go.Proofs.Ytldehcnaepgamaa.AM
set_option linter.unusedVariables false
set_option linter.unusedSimpArgs false
namespace Go.Proofs.Ytldehcnaepgamaa.AM
open Go

noncomputable def NA : FuncId → Contract := ext none0 23 sizeC
theorem NA_sound : SoundG Try.prog NA := ext_sound none0_sound size_sound
noncomputable def N1 : FuncId → Contract := (ext (ext (ext (ext (ext (ext (ext (ext (ext (ext M13 133 digC) 104 secC) 107 secC) 103 chainC) 106 chainC) 112 endedC) 64 oddC) 110 len64C) 59 cloneTC) 23 sizeGC)
theorem N1_sound : SoundG Try.prog N1 := (ext_sound (ext_sound (ext_sound (ext_sound (ext_sound (ext_sound (ext_sound (ext_sound (ext_sound (ext_sound M13_sound dig_sound) (sec_sound M13_sound rfl rfl)) (refSec_sound M13_sound rfl rfl)) (chain_sound M13_sound rfl)) (refChain_sound M13_sound rfl)) (ended_sound M13_sound rfl)) odd_sound) len64_sound) cloneT_sound) sizeG_sound)
noncomputable def N2 : FuncId → Contract := (ext (ext (ext (ext (ext (ext N1 14 sameKC) 20 keyC) 102 parC) 105 parC) 108 idxFC) 66 len64C)
theorem N2_sound : SoundG Try.prog N2 := (ext_sound (ext_sound (ext_sound (ext_sound (ext_sound (ext_sound N1_sound sameK_sound) (refKey_sound N1_sound)) (par_sound N1_sound rfl rfl rfl)) (refPar_sound N1_sound rfl)) (idxF_sound N1_sound rfl)) (len_sound N1_sound rfl))
noncomputable def N3 : FuncId → Contract := (ext (ext (ext (ext (ext N2 58 sgnC) 62 sgnC) 72 opnC) 65 conFC) 22 heightC)
theorem N3_sound : SoundG Try.prog N3 := (ext_sound (ext_sound (ext_sound (ext_sound (ext_sound N2_sound (sgn_sound N2_sound rfl rfl rfl)) (refSgn_sound N2_sound rfl rfl rfl)) (opn_sound N2_sound rfl rfl rfl)) (conF_sound N2_sound rfl)) (refHeight_sound N2_sound rfl))
noncomputable def N4 : FuncId → Contract := (ext (ext N3 19 keyC) 15 refSigC)
theorem N4_sound : SoundG Try.prog N4 := (ext_sound (ext_sound N3_sound (key_sound N3_sound rfl)) (refSig_sound N3_sound rfl rfl rfl rfl))
noncomputable def N5 : FuncId → Contract := (ext (ext (ext N4 18 rootKC) 21 heightC) 13 signC)
theorem N5_sound : SoundG Try.prog N5 := (ext_sound (ext_sound (ext_sound N4_sound (rootK_sound N4_sound rfl rfl)) (height_sound N4_sound rfl rfl)) (sign_sound N4_sound rfl rfl rfl rfl rfl))

set_option maxRecDepth 100000 in
theorem bytes_ofN {N : Nat} {x : AV} (h : AVTn Try.prog N 25 x) : ∃ b : List UInt8, x = .c (.sl (bytes b)) ∧ b.length ≤ N := by
  obtain ⟨n, cs, hp, hx⟩ := h
  have u3 : Try.prog.underlying 25 = some (.slice 5) := by kernel_rfl
  have u4 : Try.prog.underlying 5 = some (.int .u8) := by kernel_rfl
  rw [u3] at hx
  obtain ⟨c, rfl, rfl⟩ := hx
  cases n with
  | zero => exact hp.elim
  | succ n =>
    simp only [PTn, u3] at hp
    obtain ⟨rows, hv, hl, hr⟩ := hp
    cases hv
    have key : ∀ rows : List (List PC), (∀ r ∈ rows, PTn Try.prog N n 5 r) → ∃ l : List UInt8, rows = bytes l := by
      intro rows
      induction rows with
      | nil => intro _; exact ⟨[], rfl⟩
      | cons r rows ih =>
        intro h
        obtain ⟨l, hl1⟩ := ih fun r hr => h r (by simp [hr])
        have h0 := h r (by simp)
        cases n with
        | zero => exact h0.elim
        | succ n =>
          simp only [PTn, u4] at h0
          obtain ⟨v, rfl, hw⟩ := h0
          simp [Lit.wf, IntKind.min, IntKind.max, IntKind.bits, IntKind.signed] at hw
          refine ⟨UInt8.ofNat v.toNat :: l, ?_⟩
          rw [hl1]
          show _ = [PC.int .u8 ((UInt8.ofNat v.toNat).toNat : Int)] :: bytes l
          rw [UInt8.toNat_ofNat_of_lt' (by show _ < 256; omega), show ((v.toNat : Nat) : Int) = v from by omega]
    obtain ⟨l, rfl⟩ := key rows hr
    exact ⟨l, rfl, by rw [bytes_length] at hl; exact hl⟩
set_option maxRecDepth 100000 in
theorem int_cellN {N n : Nat} {c : PC} (h : PTn Try.prog N n 3 [c]) : ∃ v : Int, c = .int .i64 v := by
  have u3 : Try.prog.underlying 3 = some (.int .i64) := by kernel_rfl
  cases n with
  | zero => exact h.elim
  | succ n =>
    simp only [PTn, u3] at h
    obtain ⟨v, hv, _⟩ := h
    cases hv
    exact ⟨v, rfl⟩
set_option maxRecDepth 100000 in
theorem str_cellN {N n : Nat} {c : PC} (h : PTn Try.prog N n 9 [c]) : ∃ s : List UInt8, c = .str s ∧ s.length ≤ N := by
  have u3 : Try.prog.underlying 9 = some .string := by kernel_rfl
  cases n with
  | zero => exact h.elim
  | succ n =>
    simp only [PTn, u3] at h
    obtain ⟨v, hv, hl⟩ := h
    cases hv
    exact ⟨v, rfl, hl⟩
set_option maxRecDepth 100000 in
theorem texts_cellN {N n : Nat} {c : PC} (hp : PTn Try.prog N n 22 [c]) : ∃ l : List (List UInt8), c = .sl (texts l) ∧ l.length ≤ N := by
  have u3 : Try.prog.underlying 22 = some (.slice 9) := by kernel_rfl
  cases n with
  | zero => exact hp.elim
  | succ n =>
    simp only [PTn, u3] at hp
    obtain ⟨rows, hv, hl, hr⟩ := hp
    cases hv
    have key : ∀ rows : List (List PC), (∀ r ∈ rows, PTn Try.prog N n 9 r) → ∃ l : List (List UInt8), rows = texts l := by
      intro rows
      induction rows with
      | nil => intro _; exact ⟨[], rfl⟩
      | cons r rows ih =>
        intro h
        obtain ⟨l, hl1⟩ := ih fun r hr => h r (by simp [hr])
        have h0 := h r (by simp)
        have u4 : Try.prog.underlying 9 = some .string := by kernel_rfl
        cases n with
        | zero => exact h0.elim
        | succ n =>
          simp only [PTn, u4] at h0
          obtain ⟨s, rfl, hs⟩ := h0
          exact ⟨s :: l, by rw [hl1]; rfl⟩
    obtain ⟨l, rfl⟩ := key rows hr
    exact ⟨l, rfl, by rw [texts_length] at hl; exact hl⟩
set_option maxRecDepth 100000 in
theorem key_ofN {N : Nat} {x : AV} (h : AVTn Try.prog N 24 x) : ∃ k : Ky, x = k.av ∧ k.leaves.length ≤ N ∧ k.seed.length ≤ N := by
  obtain ⟨n, cs, hp, hx⟩ := h
  obtain ⟨fs, f0, h1, h2, h3, h4, h5⟩ := tyField_run fd_24_0
  obtain ⟨fs', f1, k1, k2, k3, k4, k5⟩ := tyField_run fd_24_1
  obtain ⟨fs'', f2, i1, i2, i3, i4, i5⟩ := tyField_run fd_24_2
  rw [h1] at k1 i1
  cases k1
  cases i1
  rw [h1] at hx
  have hc3 : Try.prog.cellsOf 24 = 3 := by kernel_rfl
  have hc1 : Try.prog.cellsOf 3 = 1 := by kernel_rfl
  have hcs : Try.prog.cellsOf 9 = 1 := by kernel_rfl
  have hcl : Try.prog.cellsOf 22 = 1 := by kernel_rfl
  cases n with
  | zero => exact hp.elim
  | succ n =>
    simp only [PTn, h1, hc3] at hp
    obtain ⟨hl, hf⟩ := hp
    have q0 := hf f0 (List.mem_of_getElem? (i := 0) (by simpa using h2))
    have q1 := hf f1 (List.mem_of_getElem? (i := 1) (by simpa using k2))
    have q2 := hf f2 (List.mem_of_getElem? (i := 2) (by simpa using i2))
    rw [h3, h4, hcs] at q0
    rw [k3, k4, hcl] at q1
    rw [i3, i4, hc1] at q2
    match cs, hl with
    | [c0, c1, c2], _ =>
      obtain ⟨s, rfl, hs⟩ := str_cellN (c := c0) q0
      obtain ⟨l, rfl, hl⟩ := texts_cellN (c := c1) q1
      obtain ⟨x2, rfl⟩ := int_cellN (c := c2) q2
      exact ⟨⟨s, l, x2⟩, hx, hl, hs⟩

end Go.Proofs.Ytldehcnaepgamaa.AM
set_option linter.unusedVariables false
set_option linter.unusedSimpArgs false
namespace Go.Proofs.Ytldehcnaepgamaa.AM
open Go

noncomputable def N6 : FuncId → Contract := ext N5 12 alive5C
theorem N6_sound : SoundG Try.prog N6 := ext_sound N5_sound (alive5_sound NA_sound rfl)
noncomputable def N7 : FuncId → Contract := ext N6 16 num05C
theorem N7_sound : SoundG Try.prog N7 := ext_sound N6_sound num05_sound

set_option maxRecDepth 100000 in
theorem signerTells_lifted (os : Os) (started : os.Started) (H : Type) (enc : TypeId × Value → H) (F : Stop.Interp) :
    ReturnsInHanded {} Try.checked os 4 .any ((Rows.OpenSpec.upto Rows.signerTellsSpec).pre6 enc Try.prog Try.f4 Rows.signerTellsUptoRow.domain false) (((Rows.OpenSpec.upto Rows.signerTellsSpec).at F).post enc Try.prog Try.f4 false true false false) := by
  refine returnsInHanded_of_cond (C := Try.checked) (k := Rows.uptoSmall) rfl ownK started (by kernel_rfl) Try.func4
    (OpenSpec.witness (enc := enc) (C := Try.checked) (k := Rows.uptoSmall) rfl false ⟨#[], #[.agg #[.string ⟨#[]⟩, .slice none 0 0, .int .i64 0], .slice none 0 0, .int .i64 0], []⟩ 8 (by kernel_rfl) (by kernel_rfl) (by kernel_rfl) (x := ([.agg [.lit (.string []), .nil, .lit (.int .i64 0)], .nil, .lit (.int .i64 0)], [], [])) (by kernel_rfl) (by kernel_rfl) (by kernel_rfl)) ?_
  intro W base args ds gs before hval hW hcnd hkk _
  refine law_doneN (N := 1048576) laid (sigTells_sound N7_sound rfl rfl rfl rfl rfl rfl rfl rfl rfl rfl rfl rfl) rfl (ts := [24, 25, 3]) (by kernel_rfl) (tb := 4) (by kernel_rfl) (by kernel_rfl) ?_ ?_ ?_ ?_ hval hW (.inr (bulk_le hkk))
  · intro t ht; simp only [List.mem_cons, List.not_mem_nil, or_false] at ht; rcases ht with rfl | rfl | rfl <;> kernel_rfl
  · intro t ht; simp only [List.mem_cons, List.not_mem_nil, or_false] at ht; rcases ht with rfl | rfl | rfl <;> exact ⟨by kernel_rfl, of_decide_eq_true (by kernel_rfl)⟩
  · intro ds hd
    match ds, hd with
    | [a, b, c], _ => rfl
  · intro xs hxs
    match xs, hxs with
    | [x, y, z], h =>
      obtain ⟨h1, h2, h3, _⟩ := h
      obtain ⟨k, rfl, l1, l2⟩ := key_ofN h1
      obtain ⟨b, rfl, b1⟩ := bytes_ofN h2
      obtain ⟨c, rfl, c1, c2⟩ := int_ofN h3
      exact mkC_at (α := Tl) ⟨k, b, c⟩ ⟨l1, by show b.length ≤ _; omega⟩ (fun _ _ _ _ => rfl)
    | [], h => exact h.elim
    | [_], h => exact h.2.elim
    | [_, _], h => exact h.2.2.elim
    | _ :: _ :: _ :: _ :: _, h => exact h.2.2.2.elim

end Go.Proofs.Ytldehcnaepgamaa.AM
namespace Go.Proofs.Ytldehcnaepgamaa
open Go

theorem signerTells_over : Rows.signerTellsUptoRow.holds Try.pinned (Rows.OpenSpec.upto Rows.signerTellsSpec) :=
  OpenClaim.holds_of_cond 4 Try.f4 rfl rfl rfl rfl rfl rfl rfl ⟨rfl, rfl, rfl, rfl, rfl⟩ rfl rfl rfl rfl rfl (by kernel_rfl) Try.func4 (by kernel_rfl)
    (of_decide_eq_true (by kernel_rfl)) (by unfold Func.isWrapper; first | (rw [if_pos (by decide +kernel)]; kernel_rfl) | (rw [if_neg (by decide +kernel)]; exact ⟨rfl, rfl⟩))
    (fun os started H enc _ F => by rw [OpenClaim.pre_of_none' rfl]; exact AM.signerTells_lifted os started H enc F)

/-- The row. -/
theorem signerTells_holds : Rows.SignerTellsUptoSaid := signerTells_over
#print axioms signerTells_holds
end Go.Proofs.Ytldehcnaepgamaa
