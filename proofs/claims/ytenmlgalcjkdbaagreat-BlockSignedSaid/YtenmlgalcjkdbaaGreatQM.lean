/-
  QM: Bs2.
-/
import Derived.Test.YtenmlgalcjkdbaaGreatQL
import Derived.Test.YtenmlgalcjkdbaaGreatQF
import Derived.Test.YtenmlgalcjkdbaaGreatQ9
import Derived.Test.YtenmlgalcjkdbaaGreatQJ
set_option linter.unusedVariables false
set_option linter.unusedSimpArgs false
namespace Go.Proofs.YtenmlgalcjkdbaaGreat.AM
open Go

variable {Γ : FuncId → Contract}

noncomputable def signB (k : Ky) (b : Blk) : Blk × Ky × Int := if okB b then (if (signS k (nameS b)).2.2 = 0 then (⟨b.vw, b.ht, b.pa, b.ju, b.txs, (signS k (nameS b)).1⟩, (signS k (nameS b)).2.1, 0) else (zeroBk, zeroK, (signS k (nameS b)).2.2)) else (zeroBk, zeroK, 9)
noncomputable def bkSnC : Contract := mkC (α := Ky × Blk) (fun p => p.1.leaves.length ≤ 1048576 ∧ p.2.txs.length ≤ 9223372036854775807 ∧ p.2.ju.vs.length ≤ 1099511627776) (fun p => [p.1.av, p.2.av]) (fun _ => []) (fun p => ⟨[.pv (signB p.1 p.2).1.av, .pv (signB p.1 p.2).2.1.av, .pv (.c (.int .i64 (signB p.1 p.2).2.2))], []⟩)
theorem bkSn_at (k : Ky) (b : Blk) (h : k.leaves.length ≤ 1048576) (h2 : b.txs.length ≤ 9223372036854775807) (h3 : b.ju.vs.length ≤ 1099511627776) : bkSnC [k.av, b.av] [] = some ⟨[.pv (signB k b).1.av, .pv (signB k b).2.1.av, .pv (.c (.int .i64 (signB k b).2.2))], []⟩ :=
  mkC_at (α := Ky × Blk) (k, b) ⟨h, h2, h3⟩ (by
    rintro ⟨k', b'⟩ _ h _
    have h' : [k'.av, b'.av] = [k.av, b.av] := h
    simp only [List.cons.injEq, and_true] at h'
    rw [Ky.av_inj h'.1, Blk.av_iff.1 h'.2])

set_option maxRecDepth 100000 in
set_option maxHeartbeats 4000000 in
theorem bkSn_sound (hΓ : SoundG Tryz.prog Γ) (h1 : Γ 45 = bkCkC) (h2 : Γ 16 = bkNC) (h3 : Γ 46 = signC) (h4 : Γ 47 = clnTC) (h5 : Γ 48 = clnVC) : SoundC Tryz.prog 11 bkSnC := by
  refine sound_fn Tryz.func11 (by kernel_rfl) rfl rfl ?_
  intro args objs r0 hr
  obtain ⟨⟨⟨seed, leaves, next⟩, ⟨vw, ht, pa, ⟨jv, jh, jb, js⟩, txs, sig⟩⟩, ⟨hl, ht0, hv0⟩, rfl, rfl, rfl⟩ := mkC_inv hr
  refine ⟨rfl, by show 2 ≤ _; decide, fun E hN hns hF => ?_⟩
  refine vc_sound hΓ mixed _ _ _ ?_
  have hN := hN.trans nt_11
  have hl : leaves.length ≤ 1048576 := hl
  have ht0 : txs.length ≤ 9223372036854775807 := ht0
  have hv0 : js.length ≤ 1099511627776 := hv0
  unfold Blk.av Ky.av
  have q1 := bkCk_at ⟨vw, ht, pa, ⟨jv, jh, jb, js⟩, txs, sig⟩ ht0
  have q2 := bkN_at vw ht pa jv jh jb js txs sig ht0
  obtain ⟨B, hB⟩ : ∃ B : Blk, B = ⟨vw, ht, pa, ⟨jv, jh, jb, js⟩, txs, sig⟩ := ⟨_, rfl⟩
  rw [← hB] at q2
  have q3 := sign_at ⟨seed, leaves, next⟩ (nameS B) (by show leaves.length ≤ _; omega) (by have := nameS_le B; omega)
  unfold Ky.av at q3
  dsimp only at q1 q3 ⊢
  rw [← hB] at q1
  by_cases hk : okB B
  case neg =>
    rw [show bkS B = 9 from if_neg hk] at q1
    rw [show signB ⟨seed, leaves, next⟩ ⟨vw, ht, pa, ⟨jv, jh, jb, js⟩, txs, sig⟩ = (zeroBk, zeroK, 9) from if_neg (by rw [← hB]; exact hk)]
    have b0 : ((9 : Int) != 0) = true := rfl
    simp only [runA, runB, runC, runD, runE, runF, fieldE, storeE, binE, ↓reduceIte, Nat.reduceLT, Nat.reduceLeDiff, Nat.reduceEqDiff, Nat.reduceAdd, Nat.reduceMul, Nat.reduceSub, reduceCtorEq, putAt, unE, Nat.reduceBEq, convE, buildE, List.replicate, Int.reduceLT, Int.reduceLE, Int.reduceToNat, mkE, mapSetE, hN, hF, ty_3, ty_5, ty_9, ty_22, ty_24, ty_26, ty_29, ty_31, ty_33, ty_36, ty_37, ty_47, ty_97, notIf, isEq, h1, q1, b0]
    simp only [runB, finC, finD, Option.isSome_some, Option.isSome_none, ↓reduceIte, Nat.reduceEqDiff, Nat.reduceAdd, Nat.reduceMul, forall_eq_or_imp, forall_eq, implies_true, Nat.reduceBEq, reduceCtorEq, false_implies, List.zip_cons_cons, List.zip_nil_left, List.zip_nil_right, Nat.reduceLeDiff, List.forall_mem_nil, rs_11, agg_26, sz_26, agg_33, sz_33, zeroBk, zeroK, texts, votes, trows, List.map_nil]
  rw [show bkS B = 0 from if_pos hk] at q1
  have htx : txs.length ≤ 4 := by have h7 := hk.2.2.2.2.2.2.1; rw [hB] at h7; exact h7
  have q4 := clnT_at txs (by omega)
  have q5 := clnV_at js hv0
  have b0 : ((0 : Int) != 0) = false := rfl
  have hM : signB ⟨seed, leaves, next⟩ ⟨vw, ht, pa, ⟨jv, jh, jb, js⟩, txs, sig⟩ = if (signS ⟨seed, leaves, next⟩ (nameS B)).2.2 = 0 then (⟨vw, ht, pa, ⟨jv, jh, jb, js⟩, txs, (signS ⟨seed, leaves, next⟩ (nameS B)).1⟩, (signS ⟨seed, leaves, next⟩ (nameS B)).2.1, 0) else (zeroBk, zeroK, (signS ⟨seed, leaves, next⟩ (nameS B)).2.2) := by rw [hB]; exact if_pos (by rw [← hB]; exact hk)
  rw [hM]
  generalize signS ⟨seed, leaves, next⟩ (nameS B) = sg at q3 ⊢
  generalize nameS B = tt at q2 q3
  obtain ⟨s, ⟨k1, k2, k3⟩, e⟩ := sg
  dsimp only at q3 ⊢
  by_cases he : e = 0
  · subst he
    rw [if_pos rfl]
    simp only [runA, runB, runC, runD, runE, runF, fieldE, storeE, binE, ↓reduceIte, Nat.reduceLT, Nat.reduceLeDiff, Nat.reduceEqDiff, Nat.reduceAdd, Nat.reduceMul, Nat.reduceSub, reduceCtorEq, putAt, unE, Nat.reduceBEq, convE, buildE, List.replicate, Int.reduceLT, Int.reduceLE, Int.reduceToNat, mkE, mapSetE, hN, hF, ty_3, ty_5, ty_9, ty_22, ty_24, ty_26, ty_29, ty_31, ty_33, ty_36, ty_37, ty_47, ty_97, notIf, isEq, h1, q1, b0, h2, q2, h3, q3, h4, q4, h5, q5]
    iterate 6 (try (refine drawnP_intro (by kernel_rfl) (by kernel_rfl) ?_; simp only [runA, runB, runC, runD, runE, runF, fieldE, storeE, binE, ↓reduceIte, Nat.reduceLT, Nat.reduceLeDiff, Nat.reduceEqDiff, Nat.reduceAdd, Nat.reduceMul, Nat.reduceSub, reduceCtorEq, putAt, unE, Nat.reduceBEq, convE, buildE, List.replicate, Int.reduceLT, Int.reduceLE, Int.reduceToNat, mkE, mapSetE, hN, hF, ty_3, ty_5, ty_9, ty_22, ty_24, ty_26, ty_29, ty_31, ty_33, ty_36, ty_37, ty_47, ty_97, notIf, isEq, h1, q1, b0, h2, q2, h3, q3, h4, q4, h5, q5]))
    simp only [runB, finC, finD, Option.isSome_some, Option.isSome_none, ↓reduceIte, Nat.reduceEqDiff, Nat.reduceAdd, Nat.reduceMul, forall_eq_or_imp, forall_eq, implies_true, Nat.reduceBEq, reduceCtorEq, false_implies, List.zip_cons_cons, List.zip_nil_left, List.zip_nil_right, Nat.reduceLeDiff, List.forall_mem_nil, rs_11, agg_26, sz_26, agg_33, sz_33]
  · have g1 : (e != 0) = true := by simpa using he
    rw [if_neg he]
    simp only [runA, runB, runC, runD, runE, runF, fieldE, storeE, binE, ↓reduceIte, Nat.reduceLT, Nat.reduceLeDiff, Nat.reduceEqDiff, Nat.reduceAdd, Nat.reduceMul, Nat.reduceSub, reduceCtorEq, putAt, unE, Nat.reduceBEq, convE, buildE, List.replicate, Int.reduceLT, Int.reduceLE, Int.reduceToNat, mkE, mapSetE, hN, hF, ty_3, ty_5, ty_9, ty_22, ty_24, ty_26, ty_29, ty_31, ty_33, ty_36, ty_37, ty_47, ty_97, notIf, isEq, h1, q1, b0, h2, q2, h3, q3, g1]
    iterate 6 (try (refine drawnP_intro (by kernel_rfl) (by kernel_rfl) ?_; simp only [runA, runB, runC, runD, runE, runF, fieldE, storeE, binE, ↓reduceIte, Nat.reduceLT, Nat.reduceLeDiff, Nat.reduceEqDiff, Nat.reduceAdd, Nat.reduceMul, Nat.reduceSub, reduceCtorEq, putAt, unE, Nat.reduceBEq, convE, buildE, List.replicate, Int.reduceLT, Int.reduceLE, Int.reduceToNat, mkE, mapSetE, hN, hF, ty_3, ty_5, ty_9, ty_22, ty_24, ty_26, ty_29, ty_31, ty_33, ty_36, ty_37, ty_47, ty_97, notIf, isEq, h1, q1, b0, h2, q2, h3, q3, g1]))
    simp only [runB, finC, finD, Option.isSome_some, Option.isSome_none, ↓reduceIte, Nat.reduceEqDiff, Nat.reduceAdd, Nat.reduceMul, forall_eq_or_imp, forall_eq, implies_true, Nat.reduceBEq, reduceCtorEq, false_implies, List.zip_cons_cons, List.zip_nil_left, List.zip_nil_right, Nat.reduceLeDiff, List.forall_mem_nil, rs_11, agg_26, sz_26, agg_33, sz_33, zeroBk, zeroK, texts, votes, trows, List.map_nil]

end Go.Proofs.YtenmlgalcjkdbaaGreat.AM
