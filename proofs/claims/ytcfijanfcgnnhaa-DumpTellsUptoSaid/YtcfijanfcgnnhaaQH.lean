/-
  QH: Dt5 Dt6.
-/
import Derived.Test.YtcfijanfcgnnhaaQG
import Derived.Test.YtcfijanfcgnnhaaQ8
set_option linter.unusedVariables false
set_option linter.unusedSimpArgs false
namespace Go.Proofs.Ytcfijanfcgnnhaa.AM
open Go

variable {Γ : FuncId → Contract}

theorem okV_all {t : Vt} (h : okV t) : (0 ≤ t.kd ∧ t.kd ≤ 1099511627776) ∧ (0 ≤ t.vw ∧ t.vw ≤ 1099511627776) ∧ (0 ≤ t.ht ∧ t.ht ≤ 1099511627776) ∧ (0 ≤ t.tk ∧ t.tk ≤ 1099511627776) ∧ (0 ≤ t.sg ∧ t.sg ≤ 1099511627776) ∧ t.bl.length ≤ 32 ∧ t.sig.length ≤ 4096 := by
  obtain ⟨h1, h2, h3, h4, h5, h6, h7, h8⟩ := h
  have hb : (0 ≤ t.ht ∧ t.ht ≤ 1099511627776) ∧ t.bl.length ≤ 32 := by
    unfold aboutP at h5
    split at h5
    · obtain ⟨a, b⟩ := h5
      rw [b]
      exact ⟨by omega, by simp⟩
    · omega
  have ht : 0 ≤ t.tk ∧ t.tk ≤ 1099511627776 := by
    unfold tickP at h6
    split at h6 <;> omega
  exact ⟨by omega, by omega, hb.1, ht, by omega, hb.2, h8⟩
theorem decS_len {n : Int} (h : 0 ≤ n ∧ n ≤ 1099511627776) : (decS n).length ≤ 14 := decN_len 13 n.toNat (by have : (10 : Nat) ^ 13 = 10000000000000 := by decide
                                                                                                             omega)
def lineV (t : Vt) : List UInt8 := [118, 111, 116, 101, 32] ++ decS t.kd ++ [32] ++ decS t.vw ++ [32] ++ decS t.ht ++ [32] ++ hexS t.bl ++ [32] ++ decS t.tk ++ [32] ++ decS t.sg ++ [32] ++ hexS t.sig
def lineT (t : Txn) : List UInt8 := [116, 120, 32] ++ decS t.fr ++ [32] ++ decS t.to ++ [32] ++ decS t.am ++ [32] ++ decS t.no ++ [32] ++ hexS t.sig
def lineM (t : Mk) : List UInt8 := [109, 97, 114, 107, 32] ++ decS t.vw ++ [32] ++ decS t.ht ++ [32] ++ hexS t.bl
theorem join_V (a b c d e f g : List UInt8) : Lib.join [[118, 111, 116, 101], a, b, c, d, e, f, g] [32] = [118, 111, 116, 101, 32] ++ a ++ [32] ++ b ++ [32] ++ c ++ [32] ++ d ++ [32] ++ e ++ [32] ++ f ++ [32] ++ g := by simp [Lib.join, List.intercalate, List.intersperse]
theorem join_T (a b c d e : List UInt8) : Lib.join [[116, 120], a, b, c, d, e] [32] = [116, 120, 32] ++ a ++ [32] ++ b ++ [32] ++ c ++ [32] ++ d ++ [32] ++ e := by simp [Lib.join, List.intercalate, List.intersperse]
theorem join_M (a b c : List UInt8) : Lib.join [[109, 97, 114, 107], a, b, c] [32] = [109, 97, 114, 107, 32] ++ a ++ [32] ++ b ++ [32] ++ c := by simp [Lib.join, List.intercalate, List.intersperse]
noncomputable def dvC : Contract := mkC (α := Vt) (fun _ => True) (fun t => [t.av]) (fun _ => []) (fun t => ⟨[.pv (.c (.str (if okV t then lineV t else []))), .pv (.c (.int .i64 (voS t)))], []⟩)
theorem dv_at (t : Vt) : dvC [t.av] [] = some ⟨[.pv (.c (.str (if okV t then lineV t else []))), .pv (.c (.int .i64 (voS t)))], []⟩ :=
  mkC_at (α := Vt) t trivial (by
    rintro y _ h _
    have h' : [y.av] = [t.av] := h
    simp only [List.cons.injEq, and_true] at h'
    rw [Vt.av_inj h'])
noncomputable def dtC : Contract := mkC (α := Txn) (fun _ => True) (fun t => [t.av]) (fun _ => []) (fun t => ⟨[.pv (.c (.str (if okT t then lineT t else []))), .pv (.c (.int .i64 (txS t)))], []⟩)
theorem dt_at (t : Txn) : dtC [t.av] [] = some ⟨[.pv (.c (.str (if okT t then lineT t else []))), .pv (.c (.int .i64 (txS t)))], []⟩ :=
  mkC_at (α := Txn) t trivial (by
    rintro y _ h _
    have h' : [y.av] = [t.av] := h
    simp only [List.cons.injEq, and_true] at h'
    rw [Txn.av_iff.1 h'])
def mkErr (m : Mk) : Int := if m.vw < 0 ∨ 1099511627776 < m.vw ∨ m.ht < 0 ∨ 1099511627776 < m.ht then 4 else if 4096 < m.bl.length then 5 else 0
noncomputable def dmC : Contract := mkC (α := Mk) (fun _ => True) (fun t => [t.av]) (fun _ => []) (fun t => ⟨[.pv (.c (.str (if mkErr t = 0 then lineM t else []))), .pv (.c (.int .i64 (mkErr t)))], []⟩)
theorem dm_at (t : Mk) : dmC [t.av] [] = some ⟨[.pv (.c (.str (if mkErr t = 0 then lineM t else []))), .pv (.c (.int .i64 (mkErr t)))], []⟩ :=
  mkC_at (α := Mk) t trivial (by
    rintro y _ h _
    have h' : [y.av] = [t.av] := h
    simp only [List.cons.injEq, and_true] at h'
    rw [Mk.av_inj h'])

set_option maxRecDepth 100000 in
set_option maxHeartbeats 8000000 in
theorem dv_sound (hΓ : SoundG Try.prog Γ) (h1 : Γ 56 = voCkC) (h2 : Γ 57 = wnC) (h3 : Γ 58 = wtC) (h4 : Γ 59 = wlC) : SoundC Try.prog 21 dvC := by
  refine sound_fn Try.func21 (by kernel_rfl) rfl rfl ?_
  intro args objs r0 hr
  obtain ⟨⟨kd, vw, ht, bl, tk, sg, sig⟩, _, rfl, rfl, rfl⟩ := mkC_inv hr
  refine ⟨rfl, by show 1 ≤ _; decide, fun E hN hns hF => ?_⟩
  refine vc_sound hΓ mixed _ _ _ ?_
  have hN := hN.trans nt_21
  have q1 := voCk_at ⟨kd, vw, ht, bl, tk, sg, sig⟩
  unfold Vt.av
  dsimp only at q1 ⊢
  by_cases hk : okV ⟨kd, vw, ht, bl, tk, sg, sig⟩
  case neg =>
    rw [show voS ⟨kd, vw, ht, bl, tk, sg, sig⟩ = 9 from if_neg hk] at q1 ⊢
    rw [if_neg hk]
    have b0 : ((9 : Int) != 0) = true := rfl
    simp only [runA, runB, runC, runD, runE, runF, fieldE, storeE, binE, ↓reduceIte, Nat.reduceLT, Nat.reduceLeDiff, Nat.reduceEqDiff, Nat.reduceAdd, Nat.reduceMul, Nat.reduceSub, reduceCtorEq, putAt, unE, Nat.reduceBEq, convE, buildE, List.replicate, Int.reduceLT, Int.reduceLE, Int.reduceToNat, mkE, mapSetE, hN, hF, ty_3, ty_9, ty_42, ty_47, ty_60, ty_110, ty_111, notIf, isEq, h1, q1, b0]
    simp only [runB, finC, finD, Option.isSome_some, Option.isSome_none, ↓reduceIte, Nat.reduceEqDiff, Nat.reduceAdd, Nat.reduceMul, forall_eq_or_imp, forall_eq, implies_true, Nat.reduceBEq, reduceCtorEq, false_implies, List.zip_cons_cons, List.zip_nil_left, List.zip_nil_right, Nat.reduceLeDiff, List.forall_mem_nil, rs_21]
  obtain ⟨r1, r2, r3, r4, r5, r6, r7⟩ := okV_all hk
  dsimp only at r1 r2 r3 r4 r5 r6 r7
  rw [show voS ⟨kd, vw, ht, bl, tk, sg, sig⟩ = 0 from if_pos hk] at q1 ⊢
  rw [if_pos hk]
  have b0 : ((0 : Int) != 0) = false := rfl
  have p1 := wn_at [[118, 111, 116, 101]] [kd, vw, ht] (by simp) (by intro n hn; simp only [List.mem_cons, List.not_mem_nil, or_false] at hn; rcases hn with rfl | rfl | rfl <;> assumption)
  have p2 := wt_at ([[118, 111, 116, 101]] ++ [kd, vw, ht].map decS) bl (by simp) (by omega)
  have p3 := wn_at ([[118, 111, 116, 101]] ++ [kd, vw, ht].map decS ++ [hexS bl]) [tk, sg] (by simp) (by intro n hn; simp only [List.mem_cons, List.not_mem_nil, or_false] at hn; rcases hn with rfl | rfl <;> assumption)
  have p4 := wt_at ([[118, 111, 116, 101]] ++ [kd, vw, ht].map decS ++ [hexS bl] ++ [tk, sg].map decS) sig (by simp) (by omega)
  have jl : Lib.join ([[118, 111, 116, 101]] ++ [kd, vw, ht].map decS ++ [hexS bl] ++ [tk, sg].map decS ++ [hexS sig]) [32] = lineV ⟨kd, vw, ht, bl, tk, sg, sig⟩ := join_V _ _ _ _ _ _ _
  have p5 := wl_at ([[118, 111, 116, 101]] ++ [kd, vw, ht].map decS ++ [hexS bl] ++ [tk, sg].map decS ++ [hexS sig]) (by simp) (by
    rw [jl]
    have := decS_len r1; have := decS_len r2; have := decS_len r3; have := decS_len r4; have := decS_len r5; have := hexS_length bl; have := hexS_length sig
    simp only [lineV, List.length_append, List.length_cons, List.length_nil]
    omega)
  rw [jl] at p5
  generalize lineV ⟨kd, vw, ht, bl, tk, sg, sig⟩ = LN at *
  simp only [texts, nums, List.map_cons, List.map_nil, List.cons_append, List.nil_append] at p1 p2 p3 p4 p5
  simp only [runA, runB, runC, runD, runE, runF, fieldE, storeE, binE, ↓reduceIte, Nat.reduceLT, Nat.reduceLeDiff, Nat.reduceEqDiff, Nat.reduceAdd, Nat.reduceMul, Nat.reduceSub, reduceCtorEq, putAt, unE, Nat.reduceBEq, convE, buildE, List.replicate, Int.reduceLT, Int.reduceLE, Int.reduceToNat, mkE, mapSetE, hN, hF, ty_3, ty_9, ty_42, ty_47, ty_60, ty_110, ty_111, notIf, isEq, h1, q1, b0, h2, h3, h4, p1, p2, p3, p4, p5]
  iterate 3 (try (refine drawnP_intro (by kernel_rfl) (by kernel_rfl) ?_; simp only [runA, runB, runC, runD, runE, runF, fieldE, storeE, binE, ↓reduceIte, Nat.reduceLT, Nat.reduceLeDiff, Nat.reduceEqDiff, Nat.reduceAdd, Nat.reduceMul, Nat.reduceSub, reduceCtorEq, putAt, unE, Nat.reduceBEq, convE, buildE, List.replicate, Int.reduceLT, Int.reduceLE, Int.reduceToNat, mkE, mapSetE, hN, hF, ty_3, ty_9, ty_42, ty_47, ty_60, ty_110, ty_111, notIf, isEq, h1, q1, b0, h2, h3, h4, p1, p2, p3, p4, p5]))
  simp only [runB, finC, finD, Option.isSome_some, Option.isSome_none, ↓reduceIte, Nat.reduceEqDiff, Nat.reduceAdd, Nat.reduceMul, forall_eq_or_imp, forall_eq, implies_true, Nat.reduceBEq, reduceCtorEq, false_implies, List.zip_cons_cons, List.zip_nil_left, List.zip_nil_right, Nat.reduceLeDiff, List.forall_mem_nil, rs_21]

set_option maxRecDepth 100000 in
set_option maxHeartbeats 8000000 in
theorem dt_sound (hΓ : SoundG Try.prog Γ) (h1 : Γ 60 = txCkC) (h2 : Γ 57 = wnC) (h3 : Γ 58 = wtC) (h4 : Γ 59 = wlC) : SoundC Try.prog 22 dtC := by
  refine sound_fn Try.func22 (by kernel_rfl) rfl rfl ?_
  intro args objs r0 hr
  obtain ⟨⟨fr, to1, am, no, sig⟩, _, rfl, rfl, rfl⟩ := mkC_inv hr
  refine ⟨rfl, by show 1 ≤ _; decide, fun E hN hns hF => ?_⟩
  refine vc_sound hΓ mixed _ _ _ ?_
  have hN := hN.trans nt_22
  have q1 := txCk_at ⟨fr, to1, am, no, sig⟩
  unfold Txn.av
  dsimp only at q1 ⊢
  by_cases hk : okT ⟨fr, to1, am, no, sig⟩
  case neg =>
    rw [show txS ⟨fr, to1, am, no, sig⟩ = 9 from if_neg hk] at q1 ⊢
    rw [if_neg hk]
    have b0 : ((9 : Int) != 0) = true := rfl
    simp only [runA, runB, runC, runD, runE, runF, fieldE, storeE, binE, ↓reduceIte, Nat.reduceLT, Nat.reduceLeDiff, Nat.reduceEqDiff, Nat.reduceAdd, Nat.reduceMul, Nat.reduceSub, reduceCtorEq, putAt, unE, Nat.reduceBEq, convE, buildE, List.replicate, Int.reduceLT, Int.reduceLE, Int.reduceToNat, mkE, mapSetE, hN, hF, ty_3, ty_9, ty_42, ty_49, ty_60, ty_110, ty_111, notIf, isEq, h1, q1, b0]
    simp only [runB, finC, finD, Option.isSome_some, Option.isSome_none, ↓reduceIte, Nat.reduceEqDiff, Nat.reduceAdd, Nat.reduceMul, forall_eq_or_imp, forall_eq, implies_true, Nat.reduceBEq, reduceCtorEq, false_implies, List.zip_cons_cons, List.zip_nil_left, List.zip_nil_right, Nat.reduceLeDiff, List.forall_mem_nil, rs_22]
  obtain ⟨g1, g2, g3, g4, g5, g6, g7, g8⟩ := id hk
  dsimp only at g1 g2 g3 g4 g5 g6 g7 g8
  have r1 : 0 ≤ fr ∧ fr ≤ 1099511627776 := by omega
  have r2 : 0 ≤ to1 ∧ to1 ≤ 1099511627776 := by omega
  have r3 : 0 ≤ am ∧ am ≤ 1099511627776 := by omega
  have r4 : 0 ≤ no ∧ no ≤ 1099511627776 := by omega
  rw [show txS ⟨fr, to1, am, no, sig⟩ = 0 from if_pos hk] at q1 ⊢
  rw [if_pos hk]
  have b0 : ((0 : Int) != 0) = false := rfl
  have p1 := wn_at [[116, 120]] [fr, to1, am, no] (by simp) (by intro n hn; simp only [List.mem_cons, List.not_mem_nil, or_false] at hn; rcases hn with rfl | rfl | rfl | rfl <;> assumption)
  have p2 := wt_at ([[116, 120]] ++ [fr, to1, am, no].map decS) sig (by simp) (by omega)
  have jl : Lib.join ([[116, 120]] ++ [fr, to1, am, no].map decS ++ [hexS sig]) [32] = lineT ⟨fr, to1, am, no, sig⟩ := join_T _ _ _ _ _
  have p5 := wl_at ([[116, 120]] ++ [fr, to1, am, no].map decS ++ [hexS sig]) (by simp) (by
    rw [jl]
    have := decS_len r1; have := decS_len r2; have := decS_len r3; have := decS_len r4; have := hexS_length sig
    simp only [lineT, List.length_append, List.length_cons, List.length_nil]
    omega)
  rw [jl] at p5
  generalize lineT ⟨fr, to1, am, no, sig⟩ = LN at *
  simp only [texts, nums, List.map_cons, List.map_nil, List.cons_append, List.nil_append] at p1 p2 p5
  simp only [runA, runB, runC, runD, runE, runF, fieldE, storeE, binE, ↓reduceIte, Nat.reduceLT, Nat.reduceLeDiff, Nat.reduceEqDiff, Nat.reduceAdd, Nat.reduceMul, Nat.reduceSub, reduceCtorEq, putAt, unE, Nat.reduceBEq, convE, buildE, List.replicate, Int.reduceLT, Int.reduceLE, Int.reduceToNat, mkE, mapSetE, hN, hF, ty_3, ty_9, ty_42, ty_49, ty_60, ty_110, ty_111, notIf, isEq, h1, q1, b0, h2, h3, h4, p1, p2, p5]
  iterate 3 (try (refine drawnP_intro (by kernel_rfl) (by kernel_rfl) ?_; simp only [runA, runB, runC, runD, runE, runF, fieldE, storeE, binE, ↓reduceIte, Nat.reduceLT, Nat.reduceLeDiff, Nat.reduceEqDiff, Nat.reduceAdd, Nat.reduceMul, Nat.reduceSub, reduceCtorEq, putAt, unE, Nat.reduceBEq, convE, buildE, List.replicate, Int.reduceLT, Int.reduceLE, Int.reduceToNat, mkE, mapSetE, hN, hF, ty_3, ty_9, ty_42, ty_49, ty_60, ty_110, ty_111, notIf, isEq, h1, q1, b0, h2, h3, h4, p1, p2, p5]))
  simp only [runB, finC, finD, Option.isSome_some, Option.isSome_none, ↓reduceIte, Nat.reduceEqDiff, Nat.reduceAdd, Nat.reduceMul, forall_eq_or_imp, forall_eq, implies_true, Nat.reduceBEq, reduceCtorEq, false_implies, List.zip_cons_cons, List.zip_nil_left, List.zip_nil_right, Nat.reduceLeDiff, List.forall_mem_nil, rs_22]

set_option maxRecDepth 100000 in
set_option maxHeartbeats 8000000 in
theorem dm_sound (hΓ : SoundG Try.prog Γ) (h2 : Γ 57 = wnC) (h3 : Γ 58 = wtC) (h4 : Γ 59 = wlC) : SoundC Try.prog 23 dmC := by
  refine sound_fn Try.func23 (by kernel_rfl) rfl rfl ?_
  intro args objs r0 hr
  obtain ⟨⟨vw, ht, bl⟩, _, rfl, rfl, rfl⟩ := mkC_inv hr
  refine ⟨rfl, by show 1 ≤ _; decide, fun E hN hns hF => ?_⟩
  refine vc_sound hΓ mixed _ _ _ ?_
  have hN := hN.trans nt_23
  unfold Mk.av
  dsimp only
  have e4 : (vw < 0 ∨ 1099511627776 < vw ∨ ht < 0 ∨ 1099511627776 < ht) → mkErr ⟨vw, ht, bl⟩ = 4 := fun h => if_pos h
  have n4 : ¬ ((4 : Int) = 0) := by decide
  have n5 : ¬ ((5 : Int) = 0) := by decide
  by_cases c1 : vw < 0
  · have b1 : decide (vw < 0) = true := decide_eq_true c1
    rw [e4 (by omega), if_neg n4]
    simp only [runA, runB, runC, runD, runE, runF, fieldE, storeE, binE, ↓reduceIte, Nat.reduceLT, Nat.reduceLeDiff, Nat.reduceEqDiff, Nat.reduceAdd, Nat.reduceMul, Nat.reduceSub, reduceCtorEq, putAt, unE, Nat.reduceBEq, convE, buildE, List.replicate, Int.reduceLT, Int.reduceLE, Int.reduceToNat, mkE, mapSetE, hN, hF, ty_3, ty_9, ty_42, ty_51, ty_60, ty_110, ty_111, notIf, isEq, b1]
    iterate 3 (try (refine drawnP_intro (by kernel_rfl) (by kernel_rfl) ?_; simp only [runA, runB, runC, runD, runE, runF, fieldE, storeE, binE, ↓reduceIte, Nat.reduceLT, Nat.reduceLeDiff, Nat.reduceEqDiff, Nat.reduceAdd, Nat.reduceMul, Nat.reduceSub, reduceCtorEq, putAt, unE, Nat.reduceBEq, convE, buildE, List.replicate, Int.reduceLT, Int.reduceLE, Int.reduceToNat, mkE, mapSetE, hN, hF, ty_3, ty_9, ty_42, ty_51, ty_60, ty_110, ty_111, notIf, isEq, b1]))
    simp only [runB, finC, finD, Option.isSome_some, Option.isSome_none, ↓reduceIte, Nat.reduceEqDiff, Nat.reduceAdd, Nat.reduceMul, forall_eq_or_imp, forall_eq, implies_true, Nat.reduceBEq, reduceCtorEq, false_implies, List.zip_cons_cons, List.zip_nil_left, List.zip_nil_right, Nat.reduceLeDiff, List.forall_mem_nil, rs_23]
  have b1 : decide (vw < 0) = false := decide_eq_false c1
  by_cases c2 : 1099511627776 < vw
  · have b2 : decide (vw > 1099511627776) = true := decide_eq_true c2
    rw [e4 (by omega), if_neg n4]
    simp only [runA, runB, runC, runD, runE, runF, fieldE, storeE, binE, ↓reduceIte, Nat.reduceLT, Nat.reduceLeDiff, Nat.reduceEqDiff, Nat.reduceAdd, Nat.reduceMul, Nat.reduceSub, reduceCtorEq, putAt, unE, Nat.reduceBEq, convE, buildE, List.replicate, Int.reduceLT, Int.reduceLE, Int.reduceToNat, mkE, mapSetE, hN, hF, ty_3, ty_9, ty_42, ty_51, ty_60, ty_110, ty_111, notIf, isEq, b1, b2]
    iterate 3 (try (refine drawnP_intro (by kernel_rfl) (by kernel_rfl) ?_; simp only [runA, runB, runC, runD, runE, runF, fieldE, storeE, binE, ↓reduceIte, Nat.reduceLT, Nat.reduceLeDiff, Nat.reduceEqDiff, Nat.reduceAdd, Nat.reduceMul, Nat.reduceSub, reduceCtorEq, putAt, unE, Nat.reduceBEq, convE, buildE, List.replicate, Int.reduceLT, Int.reduceLE, Int.reduceToNat, mkE, mapSetE, hN, hF, ty_3, ty_9, ty_42, ty_51, ty_60, ty_110, ty_111, notIf, isEq, b1, b2]))
    simp only [runB, finC, finD, Option.isSome_some, Option.isSome_none, ↓reduceIte, Nat.reduceEqDiff, Nat.reduceAdd, Nat.reduceMul, forall_eq_or_imp, forall_eq, implies_true, Nat.reduceBEq, reduceCtorEq, false_implies, List.zip_cons_cons, List.zip_nil_left, List.zip_nil_right, Nat.reduceLeDiff, List.forall_mem_nil, rs_23]
  have b2 : decide (vw > 1099511627776) = false := decide_eq_false c2
  by_cases c3 : ht < 0
  · have b3 : decide (ht < 0) = true := decide_eq_true c3
    rw [e4 (by omega), if_neg n4]
    simp only [runA, runB, runC, runD, runE, runF, fieldE, storeE, binE, ↓reduceIte, Nat.reduceLT, Nat.reduceLeDiff, Nat.reduceEqDiff, Nat.reduceAdd, Nat.reduceMul, Nat.reduceSub, reduceCtorEq, putAt, unE, Nat.reduceBEq, convE, buildE, List.replicate, Int.reduceLT, Int.reduceLE, Int.reduceToNat, mkE, mapSetE, hN, hF, ty_3, ty_9, ty_42, ty_51, ty_60, ty_110, ty_111, notIf, isEq, b1, b2, b3]
    iterate 3 (try (refine drawnP_intro (by kernel_rfl) (by kernel_rfl) ?_; simp only [runA, runB, runC, runD, runE, runF, fieldE, storeE, binE, ↓reduceIte, Nat.reduceLT, Nat.reduceLeDiff, Nat.reduceEqDiff, Nat.reduceAdd, Nat.reduceMul, Nat.reduceSub, reduceCtorEq, putAt, unE, Nat.reduceBEq, convE, buildE, List.replicate, Int.reduceLT, Int.reduceLE, Int.reduceToNat, mkE, mapSetE, hN, hF, ty_3, ty_9, ty_42, ty_51, ty_60, ty_110, ty_111, notIf, isEq, b1, b2, b3]))
    simp only [runB, finC, finD, Option.isSome_some, Option.isSome_none, ↓reduceIte, Nat.reduceEqDiff, Nat.reduceAdd, Nat.reduceMul, forall_eq_or_imp, forall_eq, implies_true, Nat.reduceBEq, reduceCtorEq, false_implies, List.zip_cons_cons, List.zip_nil_left, List.zip_nil_right, Nat.reduceLeDiff, List.forall_mem_nil, rs_23]
  have b3 : decide (ht < 0) = false := decide_eq_false c3
  by_cases c4 : 1099511627776 < ht
  · have b4 : decide (ht > 1099511627776) = true := decide_eq_true c4
    rw [e4 (by omega), if_neg n4]
    simp only [runA, runB, runC, runD, runE, runF, fieldE, storeE, binE, ↓reduceIte, Nat.reduceLT, Nat.reduceLeDiff, Nat.reduceEqDiff, Nat.reduceAdd, Nat.reduceMul, Nat.reduceSub, reduceCtorEq, putAt, unE, Nat.reduceBEq, convE, buildE, List.replicate, Int.reduceLT, Int.reduceLE, Int.reduceToNat, mkE, mapSetE, hN, hF, ty_3, ty_9, ty_42, ty_51, ty_60, ty_110, ty_111, notIf, isEq, b1, b2, b3, b4]
    iterate 3 (try (refine drawnP_intro (by kernel_rfl) (by kernel_rfl) ?_; simp only [runA, runB, runC, runD, runE, runF, fieldE, storeE, binE, ↓reduceIte, Nat.reduceLT, Nat.reduceLeDiff, Nat.reduceEqDiff, Nat.reduceAdd, Nat.reduceMul, Nat.reduceSub, reduceCtorEq, putAt, unE, Nat.reduceBEq, convE, buildE, List.replicate, Int.reduceLT, Int.reduceLE, Int.reduceToNat, mkE, mapSetE, hN, hF, ty_3, ty_9, ty_42, ty_51, ty_60, ty_110, ty_111, notIf, isEq, b1, b2, b3, b4]))
    simp only [runB, finC, finD, Option.isSome_some, Option.isSome_none, ↓reduceIte, Nat.reduceEqDiff, Nat.reduceAdd, Nat.reduceMul, forall_eq_or_imp, forall_eq, implies_true, Nat.reduceBEq, reduceCtorEq, false_implies, List.zip_cons_cons, List.zip_nil_left, List.zip_nil_right, Nat.reduceLeDiff, List.forall_mem_nil, rs_23]
  have b4 : decide (ht > 1099511627776) = false := decide_eq_false c4
  by_cases c5 : 4096 < bl.length
  · have b5 : decide ((bl.length : Int) > 4096) = true := decide_eq_true (by omega)
    rw [show mkErr ⟨vw, ht, bl⟩ = 5 from by unfold mkErr; dsimp only; rw [if_neg (by omega), if_pos c5], if_neg n5]
    simp only [runA, runB, runC, runD, runE, runF, fieldE, storeE, binE, ↓reduceIte, Nat.reduceLT, Nat.reduceLeDiff, Nat.reduceEqDiff, Nat.reduceAdd, Nat.reduceMul, Nat.reduceSub, reduceCtorEq, putAt, unE, Nat.reduceBEq, convE, buildE, List.replicate, Int.reduceLT, Int.reduceLE, Int.reduceToNat, mkE, mapSetE, hN, hF, ty_3, ty_9, ty_42, ty_51, ty_60, ty_110, ty_111, notIf, isEq, b1, b2, b3, b4, b5]
    iterate 3 (try (refine drawnP_intro (by kernel_rfl) (by kernel_rfl) ?_; simp only [runA, runB, runC, runD, runE, runF, fieldE, storeE, binE, ↓reduceIte, Nat.reduceLT, Nat.reduceLeDiff, Nat.reduceEqDiff, Nat.reduceAdd, Nat.reduceMul, Nat.reduceSub, reduceCtorEq, putAt, unE, Nat.reduceBEq, convE, buildE, List.replicate, Int.reduceLT, Int.reduceLE, Int.reduceToNat, mkE, mapSetE, hN, hF, ty_3, ty_9, ty_42, ty_51, ty_60, ty_110, ty_111, notIf, isEq, b1, b2, b3, b4, b5]))
    simp only [runB, finC, finD, Option.isSome_some, Option.isSome_none, ↓reduceIte, Nat.reduceEqDiff, Nat.reduceAdd, Nat.reduceMul, forall_eq_or_imp, forall_eq, implies_true, Nat.reduceBEq, reduceCtorEq, false_implies, List.zip_cons_cons, List.zip_nil_left, List.zip_nil_right, Nat.reduceLeDiff, List.forall_mem_nil, rs_23]
  have b5 : decide ((bl.length : Int) > 4096) = false := decide_eq_false (by omega)
  rw [show mkErr ⟨vw, ht, bl⟩ = 0 from by unfold mkErr; dsimp only; rw [if_neg (by omega), if_neg c5], if_pos rfl]
  have r1 : 0 ≤ vw ∧ vw ≤ 1099511627776 := by omega
  have r2 : 0 ≤ ht ∧ ht ≤ 1099511627776 := by omega
  have p1 := wn_at [[109, 97, 114, 107]] [vw, ht] (by simp) (by intro n hn; simp only [List.mem_cons, List.not_mem_nil, or_false] at hn; rcases hn with rfl | rfl <;> assumption)
  have p2 := wt_at ([[109, 97, 114, 107]] ++ [vw, ht].map decS) bl (by simp) (by omega)
  have jl : Lib.join ([[109, 97, 114, 107]] ++ [vw, ht].map decS ++ [hexS bl]) [32] = lineM ⟨vw, ht, bl⟩ := join_M _ _ _
  have p5 := wl_at ([[109, 97, 114, 107]] ++ [vw, ht].map decS ++ [hexS bl]) (by simp) (by
    rw [jl]
    have := decS_len r1; have := decS_len r2; have := hexS_length bl
    simp only [lineM, List.length_append, List.length_cons, List.length_nil]
    omega)
  rw [jl] at p5
  generalize lineM ⟨vw, ht, bl⟩ = LN at *
  simp only [texts, nums, List.map_cons, List.map_nil, List.cons_append, List.nil_append] at p1 p2 p5
  simp only [runA, runB, runC, runD, runE, runF, fieldE, storeE, binE, ↓reduceIte, Nat.reduceLT, Nat.reduceLeDiff, Nat.reduceEqDiff, Nat.reduceAdd, Nat.reduceMul, Nat.reduceSub, reduceCtorEq, putAt, unE, Nat.reduceBEq, convE, buildE, List.replicate, Int.reduceLT, Int.reduceLE, Int.reduceToNat, mkE, mapSetE, hN, hF, ty_3, ty_9, ty_42, ty_51, ty_60, ty_110, ty_111, notIf, isEq, b1, b2, b3, b4, b5, h2, h3, h4, p1, p2, p5]
  iterate 3 (try (refine drawnP_intro (by kernel_rfl) (by kernel_rfl) ?_; simp only [runA, runB, runC, runD, runE, runF, fieldE, storeE, binE, ↓reduceIte, Nat.reduceLT, Nat.reduceLeDiff, Nat.reduceEqDiff, Nat.reduceAdd, Nat.reduceMul, Nat.reduceSub, reduceCtorEq, putAt, unE, Nat.reduceBEq, convE, buildE, List.replicate, Int.reduceLT, Int.reduceLE, Int.reduceToNat, mkE, mapSetE, hN, hF, ty_3, ty_9, ty_42, ty_51, ty_60, ty_110, ty_111, notIf, isEq, b1, b2, b3, b4, b5, h2, h3, h4, p1, p2, p5]))
  simp only [runB, finC, finD, Option.isSome_some, Option.isSome_none, ↓reduceIte, Nat.reduceEqDiff, Nat.reduceAdd, Nat.reduceMul, forall_eq_or_imp, forall_eq, implies_true, Nat.reduceBEq, reduceCtorEq, false_implies, List.zip_cons_cons, List.zip_nil_left, List.zip_nil_right, Nat.reduceLeDiff, List.forall_mem_nil, rs_23]


variable {Γ : FuncId → Contract}

def num39C : Contract := fun args objs => match args, objs with | [.c (.int .i64 n)], [] => some ⟨[.pv (.c (.int .i64 n))], []⟩ | _, _ => none
set_option maxRecDepth 100000 in
theorem num39_sound : SoundC Try.prog 28 num39C := by
  refine sound_fn Try.func28 (by kernel_rfl) rfl rfl ?_
  intro args objs r hr
  unfold num39C at hr
  split at hr
  · cases hr
    rename_i n
    refine ⟨rfl, by show 1 ≤ _; decide, fun E hN hns hF => ?_⟩
    refine vc_sound none0_sound mixed _ _ _ ?_
    have hN := hN.trans nt_28
    simp only [runA, runB, runC, runD, runE, runF, fieldE, storeE, binE, ↓reduceIte, Nat.reduceLT, Nat.reduceLeDiff, Nat.reduceEqDiff, Nat.reduceAdd, Nat.reduceMul, Nat.reduceSub, reduceCtorEq, putAt, unE, Nat.reduceBEq, convE, buildE, List.replicate, Int.reduceLT, Int.reduceLE, Int.reduceToNat, mkE, mapSetE, hN, hF, ty_3, notIf, isEq]
    simp only [runB, finC, finD, Option.isSome_some, Option.isSome_none, ↓reduceIte, Nat.reduceEqDiff, Nat.reduceAdd, Nat.reduceMul, forall_eq_or_imp, forall_eq, implies_true, Nat.reduceBEq, reduceCtorEq, false_implies, List.zip_cons_cons, List.zip_nil_left, List.zip_nil_right, Nat.reduceLeDiff, List.forall_mem_nil, rs_28]
  · cases hr
noncomputable def dtlC : Contract := mkC (α := Vt × Txn × Mk × List UInt8) (fun p => p.2.2.2.length ≤ 17592186044416) (fun p => [p.1.av, p.2.1.av, p.2.2.1.av, .c (.str p.2.2.2)]) (fun _ => []) (fun _ => ⟨[.pv (.c (.bool true))], []⟩)

end Go.Proofs.Ytcfijanfcgnnhaa.AM
