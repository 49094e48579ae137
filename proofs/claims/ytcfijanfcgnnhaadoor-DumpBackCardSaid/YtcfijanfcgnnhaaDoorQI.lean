/-
  QI: Dt5 Db1.
-/
import Derived.Test.YtcfijanfcgnnhaaDoorQH
import Derived.Test.YtcfijanfcgnnhaaDoorQ7
set_option linter.unusedVariables false
set_option linter.unusedSimpArgs false
namespace Go.Proofs.YtcfijanfcgnnhaaDoor.AM
open Go

variable {Γ : FuncId → Contract}

theorem okV_all {t : Vt} (h : okV t) : (0 ≤ t.kd ∧ t.kd ≤ 1099511627776) ∧ (0 ≤ t.vw ∧ t.vw ≤ 1099511627776) ∧ (0 ≤ t.ht ∧ t.ht ≤ 1099511627776) ∧ (0 ≤ t.tk ∧ t.tk ≤ 1099511627776) ∧ (0 ≤ t.sg ∧ t.sg ≤ 1099511627776) ∧ t.bl.length ≤ 32 ∧ t.sig.length ≤ 4096 := by
  obtain ⟨h1, h2, h3, h4, h5, h6, h7, h8⟩ := h
  have hb : (0 ≤ t.ht ∧ t.ht ≤ 1099511627776) ∧ t.bl.length ≤ 32 := by
    unfold aboutP at h5
    split at h5
    · obtain ⟨a, b⟩ := h5
      rw [b]
      exact ⟨by omega, by simp⟩
    · omega
  have ht : 0 ≤ t.tk ∧ t.tk ≤ 1099511627776 := by
    unfold tickP at h6
    split at h6 <;> omega
  exact ⟨by omega, by omega, hb.1, ht, by omega, hb.2, h8⟩
theorem decS_len {n : Int} (h : 0 ≤ n ∧ n ≤ 1099511627776) : (decS n).length ≤ 14 := decN_len 13 n.toNat (by have : (10 : Nat) ^ 13 = 10000000000000 := by decide
                                                                                                             omega)
def lineV (t : Vt) : List UInt8 := [118, 111, 116, 101, 32] ++ decS t.kd ++ [32] ++ decS t.vw ++ [32] ++ decS t.ht ++ [32] ++ hexS t.bl ++ [32] ++ decS t.tk ++ [32] ++ decS t.sg ++ [32] ++ hexS t.sig
def lineT (t : Txn) : List UInt8 := [116, 120, 32] ++ decS t.fr ++ [32] ++ decS t.to ++ [32] ++ decS t.am ++ [32] ++ decS t.no ++ [32] ++ hexS t.sig
def lineM (t : Mk) : List UInt8 := [109, 97, 114, 107, 32] ++ decS t.vw ++ [32] ++ decS t.ht ++ [32] ++ hexS t.bl
theorem join_V (a b c d e f g : List UInt8) : Lib.join [[118, 111, 116, 101], a, b, c, d, e, f, g] [32] = [118, 111, 116, 101, 32] ++ a ++ [32] ++ b ++ [32] ++ c ++ [32] ++ d ++ [32] ++ e ++ [32] ++ f ++ [32] ++ g := by simp [Lib.join, List.intercalate, List.intersperse]
theorem join_T (a b c d e : List UInt8) : Lib.join [[116, 120], a, b, c, d, e] [32] = [116, 120, 32] ++ a ++ [32] ++ b ++ [32] ++ c ++ [32] ++ d ++ [32] ++ e := by simp [Lib.join, List.intercalate, List.intersperse]
theorem join_M (a b c : List UInt8) : Lib.join [[109, 97, 114, 107], a, b, c] [32] = [109, 97, 114, 107, 32] ++ a ++ [32] ++ b ++ [32] ++ c := by simp [Lib.join, List.intercalate, List.intersperse]
noncomputable def dvC : Contract := mkC (α := Vt) (fun _ => True) (fun t => [t.av]) (fun _ => []) (fun t => ⟨[.pv (.c (.str (if okV t then lineV t else []))), .pv (.c (.int .i64 (voS t)))], []⟩)
theorem dv_at (t : Vt) : dvC [t.av] [] = some ⟨[.pv (.c (.str (if okV t then lineV t else []))), .pv (.c (.int .i64 (voS t)))], []⟩ :=
  mkC_at (α := Vt) t trivial (by
    rintro y _ h _
    have h' : [y.av] = [t.av] := h
    simp only [List.cons.injEq, and_true] at h'
    rw [Vt.av_inj h'])
noncomputable def dtC : Contract := mkC (α := Txn) (fun _ => True) (fun t => [t.av]) (fun _ => []) (fun t => ⟨[.pv (.c (.str (if okT t then lineT t else []))), .pv (.c (.int .i64 (txS t)))], []⟩)
theorem dt_at (t : Txn) : dtC [t.av] [] = some ⟨[.pv (.c (.str (if okT t then lineT t else []))), .pv (.c (.int .i64 (txS t)))], []⟩ :=
  mkC_at (α := Txn) t trivial (by
    rintro y _ h _
    have h' : [y.av] = [t.av] := h
    simp only [List.cons.injEq, and_true] at h'
    rw [Txn.av_iff.1 h'])
def mkErr (m : Mk) : Int := if m.vw < 0 ∨ 1099511627776 < m.vw ∨ m.ht < 0 ∨ 1099511627776 < m.ht then 4 else if 4096 < m.bl.length then 5 else 0
noncomputable def dmC : Contract := mkC (α := Mk) (fun _ => True) (fun t => [t.av]) (fun _ => []) (fun t => ⟨[.pv (.c (.str (if mkErr t = 0 then lineM t else []))), .pv (.c (.int .i64 (mkErr t)))], []⟩)
theorem dm_at (t : Mk) : dmC [t.av] [] = some ⟨[.pv (.c (.str (if mkErr t = 0 then lineM t else []))), .pv (.c (.int .i64 (mkErr t)))], []⟩ :=
  mkC_at (α := Mk) t trivial (by
    rintro y _ h _
    have h' : [y.av] = [t.av] := h
    simp only [List.cons.injEq, and_true] at h'
    rw [Mk.av_inj h'])

set_option maxRecDepth 100000 in
set_option maxHeartbeats 8000000 in
theorem dv_sound (hΓ : SoundG Tryd.prog Γ) (h1 : Γ 11 = voCkC) (h2 : Γ 12 = wnC) (h3 : Γ 13 = wtC) (h4 : Γ 14 = wlC) : SoundC Tryd.prog 5 dvC := by
  refine sound_fn Tryd.func5 (by kernel_rfl) rfl rfl ?_
  intro args objs r0 hr
  obtain ⟨⟨kd, vw, ht, bl, tk, sg, sig⟩, _, rfl, rfl, rfl⟩ := mkC_inv hr
  refine ⟨rfl, by show 1 ≤ _; decide, fun E hN hns hF => ?_⟩
  refine vc_sound hΓ mixed _ _ _ ?_
  have hN := hN.trans nt_5
  have q1 := voCk_at ⟨kd, vw, ht, bl, tk, sg, sig⟩
  unfold Vt.av
  dsimp only at q1 ⊢
  by_cases hk : okV ⟨kd, vw, ht, bl, tk, sg, sig⟩
  case neg =>
    rw [show voS ⟨kd, vw, ht, bl, tk, sg, sig⟩ = 9 from if_neg hk] at q1 ⊢
    rw [if_neg hk]
    have b0 : ((9 : Int) != 0) = true := rfl
    simp only [runA, runB, runC, runD, runE, runF, fieldE, storeE, binE, ↓reduceIte, Nat.reduceLT, Nat.reduceLeDiff, Nat.reduceEqDiff, Nat.reduceAdd, Nat.reduceMul, Nat.reduceSub, reduceCtorEq, putAt, unE, Nat.reduceBEq, convE, buildE, List.replicate, Int.reduceLT, Int.reduceLE, Int.reduceToNat, mkE, mapSetE, hN, hF, ty_3, ty_9, ty_23, ty_29, ty_43, ty_45, ty_68, notIf, isEq, h1, q1, b0]
    simp only [runB, finC, finD, Option.isSome_some, Option.isSome_none, ↓reduceIte, Nat.reduceEqDiff, Nat.reduceAdd, Nat.reduceMul, forall_eq_or_imp, forall_eq, implies_true, Nat.reduceBEq, reduceCtorEq, false_implies, List.zip_cons_cons, List.zip_nil_left, List.zip_nil_right, Nat.reduceLeDiff, List.forall_mem_nil, rs_5]
  obtain ⟨r1, r2, r3, r4, r5, r6, r7⟩ := okV_all hk
  dsimp only at r1 r2 r3 r4 r5 r6 r7
  rw [show voS ⟨kd, vw, ht, bl, tk, sg, sig⟩ = 0 from if_pos hk] at q1 ⊢
  rw [if_pos hk]
  have b0 : ((0 : Int) != 0) = false := rfl
  have p1 := wn_at [[118, 111, 116, 101]] [kd, vw, ht] (by simp) (by intro n hn; simp only [List.mem_cons, List.not_mem_nil, or_false] at hn; rcases hn with rfl | rfl | rfl <;> assumption)
  have p2 := wt_at ([[118, 111, 116, 101]] ++ [kd, vw, ht].map decS) bl (by simp) (by omega)
  have p3 := wn_at ([[118, 111, 116, 101]] ++ [kd, vw, ht].map decS ++ [hexS bl]) [tk, sg] (by simp) (by intro n hn; simp only [List.mem_cons, List.not_mem_nil, or_false] at hn; rcases hn with rfl | rfl <;> assumption)
  have p4 := wt_at ([[118, 111, 116, 101]] ++ [kd, vw, ht].map decS ++ [hexS bl] ++ [tk, sg].map decS) sig (by simp) (by omega)
  have jl : Lib.join ([[118, 111, 116, 101]] ++ [kd, vw, ht].map decS ++ [hexS bl] ++ [tk, sg].map decS ++ [hexS sig]) [32] = lineV ⟨kd, vw, ht, bl, tk, sg, sig⟩ := join_V _ _ _ _ _ _ _
  have p5 := wl_at ([[118, 111, 116, 101]] ++ [kd, vw, ht].map decS ++ [hexS bl] ++ [tk, sg].map decS ++ [hexS sig]) (by simp) (by
    rw [jl]
    have := decS_len r1; have := decS_len r2; have := decS_len r3; have := decS_len r4; have := decS_len r5; have := hexS_length bl; have := hexS_length sig
    simp only [lineV, List.length_append, List.length_cons, List.length_nil]
    omega)
  rw [jl] at p5
  generalize lineV ⟨kd, vw, ht, bl, tk, sg, sig⟩ = LN at *
  simp only [texts, nums, List.map_cons, List.map_nil, List.cons_append, List.nil_append] at p1 p2 p3 p4 p5
  simp only [runA, runB, runC, runD, runE, runF, fieldE, storeE, binE, ↓reduceIte, Nat.reduceLT, Nat.reduceLeDiff, Nat.reduceEqDiff, Nat.reduceAdd, Nat.reduceMul, Nat.reduceSub, reduceCtorEq, putAt, unE, Nat.reduceBEq, convE, buildE, List.replicate, Int.reduceLT, Int.reduceLE, Int.reduceToNat, mkE, mapSetE, hN, hF, ty_3, ty_9, ty_23, ty_29, ty_43, ty_45, ty_68, notIf, isEq, h1, q1, b0, h2, h3, h4, p1, p2, p3, p4, p5]
  iterate 3 (try (refine drawnP_intro (by kernel_rfl) (by kernel_rfl) ?_; simp only [runA, runB, runC, runD, runE, runF, fieldE, storeE, binE, ↓reduceIte, Nat.reduceLT, Nat.reduceLeDiff, Nat.reduceEqDiff, Nat.reduceAdd, Nat.reduceMul, Nat.reduceSub, reduceCtorEq, putAt, unE, Nat.reduceBEq, convE, buildE, List.replicate, Int.reduceLT, Int.reduceLE, Int.reduceToNat, mkE, mapSetE, hN, hF, ty_3, ty_9, ty_23, ty_29, ty_43, ty_45, ty_68, notIf, isEq, h1, q1, b0, h2, h3, h4, p1, p2, p3, p4, p5]))
  simp only [runB, finC, finD, Option.isSome_some, Option.isSome_none, ↓reduceIte, Nat.reduceEqDiff, Nat.reduceAdd, Nat.reduceMul, forall_eq_or_imp, forall_eq, implies_true, Nat.reduceBEq, reduceCtorEq, false_implies, List.zip_cons_cons, List.zip_nil_left, List.zip_nil_right, Nat.reduceLeDiff, List.forall_mem_nil, rs_5]

set_option maxRecDepth 100000 in
set_option maxHeartbeats 8000000 in
theorem dt_sound (hΓ : SoundG Tryd.prog Γ) (h1 : Γ 15 = txCkC) (h2 : Γ 12 = wnC) (h3 : Γ 13 = wtC) (h4 : Γ 14 = wlC) : SoundC Tryd.prog 6 dtC := by
  refine sound_fn Tryd.func6 (by kernel_rfl) rfl rfl ?_
  intro args objs r0 hr
  obtain ⟨⟨fr, to1, am, no, sig⟩, _, rfl, rfl, rfl⟩ := mkC_inv hr
  refine ⟨rfl, by show 1 ≤ _; decide, fun E hN hns hF => ?_⟩
  refine vc_sound hΓ mixed _ _ _ ?_
  have hN := hN.trans nt_6
  have q1 := txCk_at ⟨fr, to1, am, no, sig⟩
  unfold Txn.av
  dsimp only at q1 ⊢
  by_cases hk : okT ⟨fr, to1, am, no, sig⟩
  case neg =>
    rw [show txS ⟨fr, to1, am, no, sig⟩ = 9 from if_neg hk] at q1 ⊢
    rw [if_neg hk]
    have b0 : ((9 : Int) != 0) = true := rfl
    simp only [runA, runB, runC, runD, runE, runF, fieldE, storeE, binE, ↓reduceIte, Nat.reduceLT, Nat.reduceLeDiff, Nat.reduceEqDiff, Nat.reduceAdd, Nat.reduceMul, Nat.reduceSub, reduceCtorEq, putAt, unE, Nat.reduceBEq, convE, buildE, List.replicate, Int.reduceLT, Int.reduceLE, Int.reduceToNat, mkE, mapSetE, hN, hF, ty_3, ty_9, ty_25, ty_29, ty_43, ty_45, ty_68, notIf, isEq, h1, q1, b0]
    simp only [runB, finC, finD, Option.isSome_some, Option.isSome_none, ↓reduceIte, Nat.reduceEqDiff, Nat.reduceAdd, Nat.reduceMul, forall_eq_or_imp, forall_eq, implies_true, Nat.reduceBEq, reduceCtorEq, false_implies, List.zip_cons_cons, List.zip_nil_left, List.zip_nil_right, Nat.reduceLeDiff, List.forall_mem_nil, rs_6]
  obtain ⟨g1, g2, g3, g4, g5, g6, g7, g8⟩ := id hk
  dsimp only at g1 g2 g3 g4 g5 g6 g7 g8
  have r1 : 0 ≤ fr ∧ fr ≤ 1099511627776 := by omega
  have r2 : 0 ≤ to1 ∧ to1 ≤ 1099511627776 := by omega
  have r3 : 0 ≤ am ∧ am ≤ 1099511627776 := by omega
  have r4 : 0 ≤ no ∧ no ≤ 1099511627776 := by omega
  rw [show txS ⟨fr, to1, am, no, sig⟩ = 0 from if_pos hk] at q1 ⊢
  rw [if_pos hk]
  have b0 : ((0 : Int) != 0) = false := rfl
  have p1 := wn_at [[116, 120]] [fr, to1, am, no] (by simp) (by intro n hn; simp only [List.mem_cons, List.not_mem_nil, or_false] at hn; rcases hn with rfl | rfl | rfl | rfl <;> assumption)
  have p2 := wt_at ([[116, 120]] ++ [fr, to1, am, no].map decS) sig (by simp) (by omega)
  have jl : Lib.join ([[116, 120]] ++ [fr, to1, am, no].map decS ++ [hexS sig]) [32] = lineT ⟨fr, to1, am, no, sig⟩ := join_T _ _ _ _ _
  have p5 := wl_at ([[116, 120]] ++ [fr, to1, am, no].map decS ++ [hexS sig]) (by simp) (by
    rw [jl]
    have := decS_len r1; have := decS_len r2; have := decS_len r3; have := decS_len r4; have := hexS_length sig
    simp only [lineT, List.length_append, List.length_cons, List.length_nil]
    omega)
  rw [jl] at p5
  generalize lineT ⟨fr, to1, am, no, sig⟩ = LN at *
  simp only [texts, nums, List.map_cons, List.map_nil, List.cons_append, List.nil_append] at p1 p2 p5
  simp only [runA, runB, runC, runD, runE, runF, fieldE, storeE, binE, ↓reduceIte, Nat.reduceLT, Nat.reduceLeDiff, Nat.reduceEqDiff, Nat.reduceAdd, Nat.reduceMul, Nat.reduceSub, reduceCtorEq, putAt, unE, Nat.reduceBEq, convE, buildE, List.replicate, Int.reduceLT, Int.reduceLE, Int.reduceToNat, mkE, mapSetE, hN, hF, ty_3, ty_9, ty_25, ty_29, ty_43, ty_45, ty_68, notIf, isEq, h1, q1, b0, h2, h3, h4, p1, p2, p5]
  iterate 3 (try (refine drawnP_intro (by kernel_rfl) (by kernel_rfl) ?_; simp only [runA, runB, runC, runD, runE, runF, fieldE, storeE, binE, ↓reduceIte, Nat.reduceLT, Nat.reduceLeDiff, Nat.reduceEqDiff, Nat.reduceAdd, Nat.reduceMul, Nat.reduceSub, reduceCtorEq, putAt, unE, Nat.reduceBEq, convE, buildE, List.replicate, Int.reduceLT, Int.reduceLE, Int.reduceToNat, mkE, mapSetE, hN, hF, ty_3, ty_9, ty_25, ty_29, ty_43, ty_45, ty_68, notIf, isEq, h1, q1, b0, h2, h3, h4, p1, p2, p5]))
  simp only [runB, finC, finD, Option.isSome_some, Option.isSome_none, ↓reduceIte, Nat.reduceEqDiff, Nat.reduceAdd, Nat.reduceMul, forall_eq_or_imp, forall_eq, implies_true, Nat.reduceBEq, reduceCtorEq, false_implies, List.zip_cons_cons, List.zip_nil_left, List.zip_nil_right, Nat.reduceLeDiff, List.forall_mem_nil, rs_6]

set_option maxRecDepth 100000 in
set_option maxHeartbeats 8000000 in
theorem dm_sound (hΓ : SoundG Tryd.prog Γ) (h2 : Γ 12 = wnC) (h3 : Γ 13 = wtC) (h4 : Γ 14 = wlC) : SoundC Tryd.prog 7 dmC := by
  refine sound_fn Tryd.func7 (by kernel_rfl) rfl rfl ?_
  intro args objs r0 hr
  obtain ⟨⟨vw, ht, bl⟩, _, rfl, rfl, rfl⟩ := mkC_inv hr
  refine ⟨rfl, by show 1 ≤ _; decide, fun E hN hns hF => ?_⟩
  refine vc_sound hΓ mixed _ _ _ ?_
  have hN := hN.trans nt_7
  unfold Mk.av
  dsimp only
  have e4 : (vw < 0 ∨ 1099511627776 < vw ∨ ht < 0 ∨ 1099511627776 < ht) → mkErr ⟨vw, ht, bl⟩ = 4 := fun h => if_pos h
  have n4 : ¬ ((4 : Int) = 0) := by decide
  have n5 : ¬ ((5 : Int) = 0) := by decide
  by_cases c1 : vw < 0
  · have b1 : decide (vw < 0) = true := decide_eq_true c1
    rw [e4 (by omega), if_neg n4]
    simp only [runA, runB, runC, runD, runE, runF, fieldE, storeE, binE, ↓reduceIte, Nat.reduceLT, Nat.reduceLeDiff, Nat.reduceEqDiff, Nat.reduceAdd, Nat.reduceMul, Nat.reduceSub, reduceCtorEq, putAt, unE, Nat.reduceBEq, convE, buildE, List.replicate, Int.reduceLT, Int.reduceLE, Int.reduceToNat, mkE, mapSetE, hN, hF, ty_3, ty_9, ty_27, ty_29, ty_43, ty_45, ty_68, notIf, isEq, b1]
    iterate 3 (try (refine drawnP_intro (by kernel_rfl) (by kernel_rfl) ?_; simp only [runA, runB, runC, runD, runE, runF, fieldE, storeE, binE, ↓reduceIte, Nat.reduceLT, Nat.reduceLeDiff, Nat.reduceEqDiff, Nat.reduceAdd, Nat.reduceMul, Nat.reduceSub, reduceCtorEq, putAt, unE, Nat.reduceBEq, convE, buildE, List.replicate, Int.reduceLT, Int.reduceLE, Int.reduceToNat, mkE, mapSetE, hN, hF, ty_3, ty_9, ty_27, ty_29, ty_43, ty_45, ty_68, notIf, isEq, b1]))
    simp only [runB, finC, finD, Option.isSome_some, Option.isSome_none, ↓reduceIte, Nat.reduceEqDiff, Nat.reduceAdd, Nat.reduceMul, forall_eq_or_imp, forall_eq, implies_true, Nat.reduceBEq, reduceCtorEq, false_implies, List.zip_cons_cons, List.zip_nil_left, List.zip_nil_right, Nat.reduceLeDiff, List.forall_mem_nil, rs_7]
  have b1 : decide (vw < 0) = false := decide_eq_false c1
  by_cases c2 : 1099511627776 < vw
  · have b2 : decide (vw > 1099511627776) = true := decide_eq_true c2
    rw [e4 (by omega), if_neg n4]
    simp only [runA, runB, runC, runD, runE, runF, fieldE, storeE, binE, ↓reduceIte, Nat.reduceLT, Nat.reduceLeDiff, Nat.reduceEqDiff, Nat.reduceAdd, Nat.reduceMul, Nat.reduceSub, reduceCtorEq, putAt, unE, Nat.reduceBEq, convE, buildE, List.replicate, Int.reduceLT, Int.reduceLE, Int.reduceToNat, mkE, mapSetE, hN, hF, ty_3, ty_9, ty_27, ty_29, ty_43, ty_45, ty_68, notIf, isEq, b1, b2]
    iterate 3 (try (refine drawnP_intro (by kernel_rfl) (by kernel_rfl) ?_; simp only [runA, runB, runC, runD, runE, runF, fieldE, storeE, binE, ↓reduceIte, Nat.reduceLT, Nat.reduceLeDiff, Nat.reduceEqDiff, Nat.reduceAdd, Nat.reduceMul, Nat.reduceSub, reduceCtorEq, putAt, unE, Nat.reduceBEq, convE, buildE, List.replicate, Int.reduceLT, Int.reduceLE, Int.reduceToNat, mkE, mapSetE, hN, hF, ty_3, ty_9, ty_27, ty_29, ty_43, ty_45, ty_68, notIf, isEq, b1, b2]))
    simp only [runB, finC, finD, Option.isSome_some, Option.isSome_none, ↓reduceIte, Nat.reduceEqDiff, Nat.reduceAdd, Nat.reduceMul, forall_eq_or_imp, forall_eq, implies_true, Nat.reduceBEq, reduceCtorEq, false_implies, List.zip_cons_cons, List.zip_nil_left, List.zip_nil_right, Nat.reduceLeDiff, List.forall_mem_nil, rs_7]
  have b2 : decide (vw > 1099511627776) = false := decide_eq_false c2
  by_cases c3 : ht < 0
  · have b3 : decide (ht < 0) = true := decide_eq_true c3
    rw [e4 (by omega), if_neg n4]
    simp only [runA, runB, runC, runD, runE, runF, fieldE, storeE, binE, ↓reduceIte, Nat.reduceLT, Nat.reduceLeDiff, Nat.reduceEqDiff, Nat.reduceAdd, Nat.reduceMul, Nat.reduceSub, reduceCtorEq, putAt, unE, Nat.reduceBEq, convE, buildE, List.replicate, Int.reduceLT, Int.reduceLE, Int.reduceToNat, mkE, mapSetE, hN, hF, ty_3, ty_9, ty_27, ty_29, ty_43, ty_45, ty_68, notIf, isEq, b1, b2, b3]
    iterate 3 (try (refine drawnP_intro (by kernel_rfl) (by kernel_rfl) ?_; simp only [runA, runB, runC, runD, runE, runF, fieldE, storeE, binE, ↓reduceIte, Nat.reduceLT, Nat.reduceLeDiff, Nat.reduceEqDiff, Nat.reduceAdd, Nat.reduceMul, Nat.reduceSub, reduceCtorEq, putAt, unE, Nat.reduceBEq, convE, buildE, List.replicate, Int.reduceLT, Int.reduceLE, Int.reduceToNat, mkE, mapSetE, hN, hF, ty_3, ty_9, ty_27, ty_29, ty_43, ty_45, ty_68, notIf, isEq, b1, b2, b3]))
    simp only [runB, finC, finD, Option.isSome_some, Option.isSome_none, ↓reduceIte, Nat.reduceEqDiff, Nat.reduceAdd, Nat.reduceMul, forall_eq_or_imp, forall_eq, implies_true, Nat.reduceBEq, reduceCtorEq, false_implies, List.zip_cons_cons, List.zip_nil_left, List.zip_nil_right, Nat.reduceLeDiff, List.forall_mem_nil, rs_7]
  have b3 : decide (ht < 0) = false := decide_eq_false c3
  by_cases c4 : 1099511627776 < ht
  · have b4 : decide (ht > 1099511627776) = true := decide_eq_true c4
    rw [e4 (by omega), if_neg n4]
    simp only [runA, runB, runC, runD, runE, runF, fieldE, storeE, binE, ↓reduceIte, Nat.reduceLT, Nat.reduceLeDiff, Nat.reduceEqDiff, Nat.reduceAdd, Nat.reduceMul, Nat.reduceSub, reduceCtorEq, putAt, unE, Nat.reduceBEq, convE, buildE, List.replicate, Int.reduceLT, Int.reduceLE, Int.reduceToNat, mkE, mapSetE, hN, hF, ty_3, ty_9, ty_27, ty_29, ty_43, ty_45, ty_68, notIf, isEq, b1, b2, b3, b4]
    iterate 3 (try (refine drawnP_intro (by kernel_rfl) (by kernel_rfl) ?_; simp only [runA, runB, runC, runD, runE, runF, fieldE, storeE, binE, ↓reduceIte, Nat.reduceLT, Nat.reduceLeDiff, Nat.reduceEqDiff, Nat.reduceAdd, Nat.reduceMul, Nat.reduceSub, reduceCtorEq, putAt, unE, Nat.reduceBEq, convE, buildE, List.replicate, Int.reduceLT, Int.reduceLE, Int.reduceToNat, mkE, mapSetE, hN, hF, ty_3, ty_9, ty_27, ty_29, ty_43, ty_45, ty_68, notIf, isEq, b1, b2, b3, b4]))
    simp only [runB, finC, finD, Option.isSome_some, Option.isSome_none, ↓reduceIte, Nat.reduceEqDiff, Nat.reduceAdd, Nat.reduceMul, forall_eq_or_imp, forall_eq, implies_true, Nat.reduceBEq, reduceCtorEq, false_implies, List.zip_cons_cons, List.zip_nil_left, List.zip_nil_right, Nat.reduceLeDiff, List.forall_mem_nil, rs_7]
  have b4 : decide (ht > 1099511627776) = false := decide_eq_false c4
  by_cases c5 : 4096 < bl.length
  · have b5 : decide ((bl.length : Int) > 4096) = true := decide_eq_true (by omega)
    rw [show mkErr ⟨vw, ht, bl⟩ = 5 from by unfold mkErr; dsimp only; rw [if_neg (by omega), if_pos c5], if_neg n5]
    simp only [runA, runB, runC, runD, runE, runF, fieldE, storeE, binE, ↓reduceIte, Nat.reduceLT, Nat.reduceLeDiff, Nat.reduceEqDiff, Nat.reduceAdd, Nat.reduceMul, Nat.reduceSub, reduceCtorEq, putAt, unE, Nat.reduceBEq, convE, buildE, List.replicate, Int.reduceLT, Int.reduceLE, Int.reduceToNat, mkE, mapSetE, hN, hF, ty_3, ty_9, ty_27, ty_29, ty_43, ty_45, ty_68, notIf, isEq, b1, b2, b3, b4, b5]
    iterate 3 (try (refine drawnP_intro (by kernel_rfl) (by kernel_rfl) ?_; simp only [runA, runB, runC, runD, runE, runF, fieldE, storeE, binE, ↓reduceIte, Nat.reduceLT, Nat.reduceLeDiff, Nat.reduceEqDiff, Nat.reduceAdd, Nat.reduceMul, Nat.reduceSub, reduceCtorEq, putAt, unE, Nat.reduceBEq, convE, buildE, List.replicate, Int.reduceLT, Int.reduceLE, Int.reduceToNat, mkE, mapSetE, hN, hF, ty_3, ty_9, ty_27, ty_29, ty_43, ty_45, ty_68, notIf, isEq, b1, b2, b3, b4, b5]))
    simp only [runB, finC, finD, Option.isSome_some, Option.isSome_none, ↓reduceIte, Nat.reduceEqDiff, Nat.reduceAdd, Nat.reduceMul, forall_eq_or_imp, forall_eq, implies_true, Nat.reduceBEq, reduceCtorEq, false_implies, List.zip_cons_cons, List.zip_nil_left, List.zip_nil_right, Nat.reduceLeDiff, List.forall_mem_nil, rs_7]
  have b5 : decide ((bl.length : Int) > 4096) = false := decide_eq_false (by omega)
  rw [show mkErr ⟨vw, ht, bl⟩ = 0 from by unfold mkErr; dsimp only; rw [if_neg (by omega), if_neg c5], if_pos rfl]
  have r1 : 0 ≤ vw ∧ vw ≤ 1099511627776 := by omega
  have r2 : 0 ≤ ht ∧ ht ≤ 1099511627776 := by omega
  have p1 := wn_at [[109, 97, 114, 107]] [vw, ht] (by simp) (by intro n hn; simp only [List.mem_cons, List.not_mem_nil, or_false] at hn; rcases hn with rfl | rfl <;> assumption)
  have p2 := wt_at ([[109, 97, 114, 107]] ++ [vw, ht].map decS) bl (by simp) (by omega)
  have jl : Lib.join ([[109, 97, 114, 107]] ++ [vw, ht].map decS ++ [hexS bl]) [32] = lineM ⟨vw, ht, bl⟩ := join_M _ _ _
  have p5 := wl_at ([[109, 97, 114, 107]] ++ [vw, ht].map decS ++ [hexS bl]) (by simp) (by
    rw [jl]
    have := decS_len r1; have := decS_len r2; have := hexS_length bl
    simp only [lineM, List.length_append, List.length_cons, List.length_nil]
    omega)
  rw [jl] at p5
  generalize lineM ⟨vw, ht, bl⟩ = LN at *
  simp only [texts, nums, List.map_cons, List.map_nil, List.cons_append, List.nil_append] at p1 p2 p5
  simp only [runA, runB, runC, runD, runE, runF, fieldE, storeE, binE, ↓reduceIte, Nat.reduceLT, Nat.reduceLeDiff, Nat.reduceEqDiff, Nat.reduceAdd, Nat.reduceMul, Nat.reduceSub, reduceCtorEq, putAt, unE, Nat.reduceBEq, convE, buildE, List.replicate, Int.reduceLT, Int.reduceLE, Int.reduceToNat, mkE, mapSetE, hN, hF, ty_3, ty_9, ty_27, ty_29, ty_43, ty_45, ty_68, notIf, isEq, b1, b2, b3, b4, b5, h2, h3, h4, p1, p2, p5]
  iterate 3 (try (refine drawnP_intro (by kernel_rfl) (by kernel_rfl) ?_; simp only [runA, runB, runC, runD, runE, runF, fieldE, storeE, binE, ↓reduceIte, Nat.reduceLT, Nat.reduceLeDiff, Nat.reduceEqDiff, Nat.reduceAdd, Nat.reduceMul, Nat.reduceSub, reduceCtorEq, putAt, unE, Nat.reduceBEq, convE, buildE, List.replicate, Int.reduceLT, Int.reduceLE, Int.reduceToNat, mkE, mapSetE, hN, hF, ty_3, ty_9, ty_27, ty_29, ty_43, ty_45, ty_68, notIf, isEq, b1, b2, b3, b4, b5, h2, h3, h4, p1, p2, p5]))
  simp only [runB, finC, finD, Option.isSome_some, Option.isSome_none, ↓reduceIte, Nat.reduceEqDiff, Nat.reduceAdd, Nat.reduceMul, forall_eq_or_imp, forall_eq, implies_true, Nat.reduceBEq, reduceCtorEq, false_implies, List.zip_cons_cons, List.zip_nil_left, List.zip_nil_right, Nat.reduceLeDiff, List.forall_mem_nil, rs_7]


theorem dig_ok {d : Nat} (h : d < 10) : (UInt8.ofNat (48 + d)).toNat = 48 + d := by rw [UInt8.toNat_ofNat']; omega
theorem numL_one {d m : Nat} (h : d < 10) : numL m [UInt8.ofNat (48 + d)] = some (m * 10 + d) := by
  unfold numL
  rw [dig_ok h, if_neg (by omega)]
  unfold numL
  congr 1
  omega
theorem numL_dec : ∀ (k n : Nat), n ≤ k → numL 0 (decN n) = some n
  | k, n, hk => by
    by_cases h : n < 10
    · rw [decN_lt h, numL_one h]; simp
    · cases k with
      | zero => omega
      | succ k =>
        rw [decN_ge h, numL_append, numL_dec k (n / 10) (by omega)]
        simp only [Option.bind_some]
        rw [numL_one (by omega)]
        congr 1
        omega
theorem decN_head : ∀ (k n : Nat), n ≤ k → 1 ≤ n → (decN n).headD 0 ≠ 48 ∧ decN n ≠ []
  | k, n, hk, h1 => by
    by_cases h : n < 10
    · rw [decN_lt h]
      refine ⟨?_, by simp⟩
      intro e
      have := congrArg UInt8.toNat e
      simp only [List.headD_cons] at this
      rw [dig_ok h] at this
      have h48 : (48 : UInt8).toNat = 48 := rfl
      omega
    · cases k with
      | zero => omega
      | succ k =>
        obtain ⟨a, b⟩ := decN_head k (n / 10) (by omega) (by omega)
        rw [decN_ge h]
        cases hd : decN (n / 10) with
        | nil => exact absurd hd b
        | cons x l => rw [hd] at a; exact ⟨a, by simp⟩
theorem decN_ne (n : Nat) : decN n ≠ [] := by
  by_cases h : n < 10
  · rw [decN_lt h]; simp
  · rw [decN_ge h]; simp
theorem decN_len2 : ∀ (k n : Nat), n < 10 ^ (k + 1) → (decN n).length ≤ k + 1
  | 0, n, h => by rw [decN_lt (by simpa using h)]; simp
  | k + 1, n, h => by
    by_cases h2 : n < 10
    · rw [decN_lt h2]; simp
    · rw [decN_ge h2, List.length_append]
      have := decN_len2 k (n / 10) (by
        rw [Nat.pow_succ] at h
        exact Nat.div_lt_of_lt_mul (by omega))
      simp; omega
theorem numP_dec {n : Nat} (h : n ≤ 1099511627776) : numP (decN n) = some n := by
  unfold numP
  have hl := decN_len2 12 n (by have : (10 : Nat) ^ (12 + 1) = 10000000000000 := by decide
                                omega)
  rw [if_neg, numL_dec n n (Nat.le_refl _)]
  · dsimp only
    rw [if_neg (by omega)]
  · rintro (h1 | h1 | ⟨h1, h2⟩)
    · exact decN_ne n h1
    · omega
    · by_cases h0 : n = 0
      · subst h0
        rw [decN_lt (by omega)] at h2
        simp at h2
      · exact (decN_head n n (Nat.le_refl _) (by omega)).1 h1
/-- A number is told by its own digits alone. -/
theorem numL_inv (l : List UInt8) (h0 : l ≠ []) (hz : ¬ (l.headD 0 = 48 ∧ 1 < l.length)) {n : Nat} (h : numL 0 l = some n) : decN n = l := by
  have key : ∀ (k : Nat) (l : List UInt8), l.length ≤ k → l ≠ [] → ¬ (l.headD 0 = 48 ∧ 1 < l.length) → ∀ n, numL 0 l = some n → decN n = l := by
    intro k
    induction k with
    | zero => intro l hl h0; exact absurd (List.length_eq_zero_iff.1 (by omega)) h0
    | succ k ih =>
      intro l hl h0 hz n h
      obtain ⟨a, c, rfl⟩ : ∃ a c, l = a ++ [c] := ⟨l.dropLast, l.getLast h0, (List.dropLast_concat_getLast h0).symm⟩
      rw [numL_append] at h
      obtain ⟨m, hm, h⟩ := Option.bind_eq_some_iff.1 h
      unfold numL at h
      split at h
      · cases h
      rename_i hc
      unfold numL at h
      cases h
      have hcc : c = UInt8.ofNat (48 + (c.toNat - 48)) := by
        apply UInt8.toNat_inj.1
        rw [dig_ok (by omega)]
        omega
      by_cases ha : a = []
      · subst ha
        cases hm
        rw [decN_lt (by omega)]
        simp only [Nat.zero_mul, Nat.zero_add, List.nil_append]
        rw [← hcc]
      · have e1 := ih a (by simp at hl; omega) ha (by
          rintro ⟨p, q⟩
          refine hz ⟨?_, by simp; omega⟩
          cases a with
          | nil => exact absurd rfl ha
          | cons x a => exact p) m hm
        have hm1 : 1 ≤ m := by
          rcases Nat.eq_zero_or_pos m with h | h
          · subst h
            have h3 : a = [48] := by
              rw [← e1, decN_lt (by omega)]
              rfl
            subst h3
            exact absurd ⟨rfl, by simp⟩ hz
          · exact h
        rw [decN_ge (by omega), show (m * 10 + (c.toNat - 48)) / 10 = m by omega, show (m * 10 + (c.toNat - 48)) % 10 = c.toNat - 48 by omega, e1, ← hcc]
  exact key l.length l (Nat.le_refl _) h0 hz n h
theorem numP_inv {s : List UInt8} {n : Nat} (h : numP s = some n) : decN n = s ∧ n ≤ 1099511627776 := by
  unfold numP at h
  split at h
  · cases h
  · rename_i hc
    simp only [not_or] at hc
    split at h
    · rename_i m hm
      split at h
      · cases h
      · cases h
        exact ⟨numL_inv s hc.1 hc.2.2 hm, by omega⟩
    · cases h

theorem dec_no : ∀ (k n : Nat), n ≤ k → (32 : UInt8) ∉ decN n
  | k, n, hk => by
    have one : ∀ d : Nat, d < 10 → (32 : UInt8) ≠ UInt8.ofNat (48 + d) := by
      intro d hd e
      have := congrArg UInt8.toNat e
      rw [dig_ok hd] at this
      have h32 : (32 : UInt8).toNat = 32 := rfl
      omega
    by_cases h : n < 10
    · rw [decN_lt h]; simp only [List.mem_singleton]; exact one n h
    · cases k with
      | zero => omega
      | succ k =>
        rw [decN_ge h, List.mem_append, not_or, List.mem_singleton]
        exact ⟨dec_no k (n / 10) (by omega), one _ (by omega)⟩
theorem decS_no (n : Int) : (32 : UInt8) ∉ decS n := dec_no _ _ (Nat.le_refl _)
theorem hx_no : ∀ n : Fin 16, (32 : UInt8) ≠ hx n.1 := by decide
theorem hexL_no : ∀ l : List UInt8, (32 : UInt8) ∉ hexL l
  | [] => by simp [hexL]
  | b :: l => by
    have hb := b.toNat_lt
    unfold hexL
    simp only [List.mem_cons, not_or]
    exact ⟨hx_no ⟨b.toNat / 16, by omega⟩, hx_no ⟨b.toNat % 16, by omega⟩, hexL_no l⟩
theorem hexS_no (s : List UInt8) : (32 : UInt8) ∉ hexS s := by
  unfold hexS
  split
  · decide
  · exact hexL_no s

structure En where
  kind : List UInt8
  v : Vt
  t : Txn
  m : Mk
  deriving DecidableEq
def zeroM : Mk := ⟨0, 0, []⟩
def zeroEn : En := ⟨[], zeroV, zeroT, zeroM⟩
abbrev Wd := List (List UInt8)
def nxP : Wd → Option (List UInt8 × Wd)
  | [] => none
  | w :: ws => some (w, ws)
def nmP (ws : Wd) : Option (Int × Wd) := (nxP ws).bind fun p => (numP p.1).map fun n => ((n : Int), p.2)
def txP (ws : Wd) : Option (List UInt8 × Wd) := (nxP ws).bind fun p => (unS p.1).map fun s => (s, p.2)
def wVote : List UInt8 := [118, 111, 116, 101]
def wTx : List UInt8 := [116, 120]
def wMark : List UInt8 := [109, 97, 114, 107]
def vtP (ws : Wd) : Option (Vt × Wd) :=
  (nmP ws).bind fun a => (nmP a.2).bind fun b => (nmP b.2).bind fun c => (txP c.2).bind fun d => (nmP d.2).bind fun e => (nmP e.2).bind fun f => (txP f.2).bind fun g => some (⟨a.1, b.1, c.1, d.1, e.1, f.1, g.1⟩, g.2)
def tnP (ws : Wd) : Option (Txn × Wd) :=
  (nmP ws).bind fun a => (nmP a.2).bind fun b => (nmP b.2).bind fun c => (nmP c.2).bind fun d => (txP d.2).bind fun e => some (⟨a.1, b.1, c.1, d.1, e.1⟩, e.2)
def mkP (ws : Wd) : Option (Mk × Wd) :=
  (nmP ws).bind fun a => (nmP a.2).bind fun b => (txP b.2).bind fun c => some (⟨a.1, b.1, c.1⟩, c.2)
def entP (ws : Wd) : Option (En × Wd) :=
  (nxP ws).bind fun p =>
    if p.1 = wVote then (vtP p.2).map fun q => (⟨p.1, q.1, zeroT, zeroM⟩, q.2)
    else if p.1 = wTx then (tnP p.2).map fun q => (⟨p.1, zeroV, q.1, zeroM⟩, q.2)
    else if p.1 = wMark then (mkP p.2).map fun q => (⟨p.1, zeroV, zeroT, q.1⟩, q.2)
    else some (⟨p.1, zeroV, zeroT, zeroM⟩, p.2)
def rgtS (e : En) : Bool :=
  if e.kind = wVote then decide (okV e.v) else if e.kind = wTx then decide (okT e.t) else decide (e.kind = wMark ∧ e.m.bl.length ≤ 4096)
/-- What a line tells. -/
def parE (s : List UInt8) : Option En := match entP (sp32 s) with
  | some (e, []) => if rgtS e then some e else none
  | _ => none
def parS (s : List UInt8) : En × Int := if 16384 < s.length then (zeroEn, 5) else match parE s with | some e => (e, 0) | none => (zeroEn, 33)

theorem nmP_dec {n : Int} (h0 : 0 ≤ n) (h : n ≤ 1099511627776) (ws : Wd) : nmP (decS n :: ws) = some (n, ws) := by
  unfold nmP nxP decS
  simp only [Option.bind_some]
  rw [numP_dec (by omega)]
  show some (((n.toNat : Nat) : Int), ws) = _
  rw [Int.toNat_of_nonneg h0]
theorem txP_hex (s : List UInt8) (ws : Wd) : txP (hexS s :: ws) = some (s, ws) := by
  unfold txP nxP
  simp only [Option.bind_some]
  rw [unS_hex]
  rfl
theorem nmP_inv {ws : Wd} {n : Int} {r : Wd} (h : nmP ws = some (n, r)) : ws = decS n :: r ∧ 0 ≤ n ∧ n ≤ 1099511627776 := by
  unfold nmP nxP at h
  cases ws with
  | nil => cases h
  | cons w ws =>
    simp only [Option.bind_some] at h
    cases hn : numP w with
    | none => rw [hn] at h; cases h
    | some m =>
      rw [hn] at h
      cases h
      obtain ⟨a, b⟩ := numP_inv hn
      refine ⟨?_, by omega, by omega⟩
      unfold decS
      rw [Int.toNat_natCast, a]
theorem txP_inv {ws : Wd} {s : List UInt8} {r : Wd} (h : txP ws = some (s, r)) : ws = hexS s :: r := by
  unfold txP nxP at h
  cases ws with
  | nil => cases h
  | cons w ws =>
    simp only [Option.bind_some] at h
    cases hn : unS w with
    | none => rw [hn] at h; cases h
    | some m =>
      rw [hn] at h
      cases h
      rw [hex_unS hn]
def wdsV (t : Vt) : Wd := [wVote, decS t.kd, decS t.vw, decS t.ht, hexS t.bl, decS t.tk, decS t.sg, hexS t.sig]
def wdsT (t : Txn) : Wd := [wTx, decS t.fr, decS t.to, decS t.am, decS t.no, hexS t.sig]
def wdsM (t : Mk) : Wd := [wMark, decS t.vw, decS t.ht, hexS t.bl]
theorem lineV_wds (t : Vt) : lineV t = Lib.join (wdsV t) [32] := (join_V _ _ _ _ _ _ _).symm
theorem lineT_wds (t : Txn) : lineT t = Lib.join (wdsT t) [32] := (join_T _ _ _ _ _).symm
theorem lineM_wds (t : Mk) : lineM t = Lib.join (wdsM t) [32] := (join_M _ _ _).symm
theorem sp_V (t : Vt) : sp32 (lineV t) = wdsV t := by
  rw [lineV_wds]
  refine sp32_of_join (by simp [wdsV]) fun w hw => ?_
  simp only [wdsV, List.mem_cons, List.not_mem_nil, or_false] at hw
  rcases hw with rfl | rfl | rfl | rfl | rfl | rfl | rfl | rfl
  all_goals first | exact decS_no _ | exact hexS_no _ | decide
theorem sp_T (t : Txn) : sp32 (lineT t) = wdsT t := by
  rw [lineT_wds]
  refine sp32_of_join (by simp [wdsT]) fun w hw => ?_
  simp only [wdsT, List.mem_cons, List.not_mem_nil, or_false] at hw
  rcases hw with rfl | rfl | rfl | rfl | rfl | rfl
  all_goals first | exact decS_no _ | exact hexS_no _ | decide
theorem sp_M (t : Mk) : sp32 (lineM t) = wdsM t := by
  rw [lineM_wds]
  refine sp32_of_join (by simp [wdsM]) fun w hw => ?_
  simp only [wdsM, List.mem_cons, List.not_mem_nil, or_false] at hw
  rcases hw with rfl | rfl | rfl | rfl
  all_goals first | exact decS_no _ | exact hexS_no _ | decide
theorem par_V {t : Vt} (h : okV t) : parE (lineV t) = some ⟨wVote, t, zeroT, zeroM⟩ := by
  obtain ⟨⟨a0, a1⟩, ⟨b0, b1⟩, ⟨c0, c1⟩, ⟨d0, d1⟩, ⟨e0, e1⟩, _⟩ := okV_all h
  have : entP (wdsV t) = some (⟨wVote, t, zeroT, zeroM⟩, []) := by
    unfold entP wdsV
    simp only [nxP, Option.bind_some, if_true]
    unfold vtP
    rw [nmP_dec a0 a1]; simp only [Option.bind_some]
    rw [nmP_dec b0 b1]; simp only [Option.bind_some]
    rw [nmP_dec c0 c1]; simp only [Option.bind_some]
    rw [txP_hex]; simp only [Option.bind_some]
    rw [nmP_dec d0 d1]; simp only [Option.bind_some]
    rw [nmP_dec e0 e1]; simp only [Option.bind_some]
    rw [txP_hex]
    rfl
  unfold parE
  rw [sp_V, this]
  dsimp only
  have hr : rgtS ⟨wVote, t, zeroT, zeroM⟩ = true := by unfold rgtS; rw [if_pos rfl]; exact decide_eq_true h
  rw [if_pos hr]
theorem par_T {t : Txn} (h : okT t) : parE (lineT t) = some ⟨wTx, zeroV, t, zeroM⟩ := by
  obtain ⟨⟨a0, a1⟩, ⟨b0, b1⟩, _, c0, c1, d0, d1, _⟩ := id h
  have : entP (wdsT t) = some (⟨wTx, zeroV, t, zeroM⟩, []) := by
    unfold entP wdsT
    simp only [nxP, Option.bind_some]
    rw [if_neg (by decide : ¬ wTx = wVote), if_pos trivial]
    unfold tnP
    rw [nmP_dec a0 (by omega)]; simp only [Option.bind_some]
    rw [nmP_dec b0 (by omega)]; simp only [Option.bind_some]
    rw [nmP_dec (by omega) (by omega)]; simp only [Option.bind_some]
    rw [nmP_dec d0 d1]; simp only [Option.bind_some]
    rw [txP_hex]
    rfl
  unfold parE
  rw [sp_T, this]
  dsimp only
  have hr : rgtS ⟨wTx, zeroV, t, zeroM⟩ = true := by unfold rgtS; dsimp only; rw [if_neg (by decide : ¬ wTx = wVote), if_pos rfl]; exact decide_eq_true h
  rw [if_pos hr]
theorem par_M {t : Mk} (h : mkErr t = 0) : parE (lineM t) = some ⟨wMark, zeroV, zeroT, t⟩ := by
  have h2 : (0 ≤ t.vw ∧ t.vw ≤ 1099511627776 ∧ 0 ≤ t.ht ∧ t.ht ≤ 1099511627776) ∧ t.bl.length ≤ 4096 := by
    unfold mkErr at h
    split at h
    · cases h
    · split at h
      · cases h
      · omega
  obtain ⟨⟨a0, a1, b0, b1⟩, c⟩ := h2
  have : entP (wdsM t) = some (⟨wMark, zeroV, zeroT, t⟩, []) := by
    unfold entP wdsM
    simp only [nxP, Option.bind_some]
    rw [if_neg (by decide : ¬ wMark = wVote), if_neg (by decide : ¬ wMark = wTx), if_pos trivial]
    unfold mkP
    rw [nmP_dec a0 (by omega)]; simp only [Option.bind_some]
    rw [nmP_dec b0 (by omega)]; simp only [Option.bind_some]
    rw [txP_hex]
    rfl
  unfold parE
  rw [sp_M, this]
  dsimp only
  have hr : rgtS ⟨wMark, zeroV, zeroT, t⟩ = true := by unfold rgtS; dsimp only; rw [if_neg (by decide : ¬ wMark = wVote), if_neg (by decide : ¬ wMark = wTx)]; exact decide_eq_true ⟨rfl, c⟩
  rw [if_pos hr]
theorem vtP_inv {ws r : Wd} {t : Vt} (h : vtP ws = some (t, r)) : ws = decS t.kd :: decS t.vw :: decS t.ht :: hexS t.bl :: decS t.tk :: decS t.sg :: hexS t.sig :: r := by
  unfold vtP at h
  obtain ⟨⟨a, r1⟩, h1, h⟩ := Option.bind_eq_some_iff.1 h
  obtain ⟨⟨b, r2⟩, h2, h⟩ := Option.bind_eq_some_iff.1 h
  obtain ⟨⟨c, r3⟩, h3, h⟩ := Option.bind_eq_some_iff.1 h
  obtain ⟨⟨d, r4⟩, h4, h⟩ := Option.bind_eq_some_iff.1 h
  obtain ⟨⟨e, r5⟩, h5, h⟩ := Option.bind_eq_some_iff.1 h
  obtain ⟨⟨f, r6⟩, h6, h⟩ := Option.bind_eq_some_iff.1 h
  obtain ⟨⟨g, r7⟩, h7, h⟩ := Option.bind_eq_some_iff.1 h
  cases h
  dsimp only at *
  rw [(nmP_inv h1).1, (nmP_inv h2).1, (nmP_inv h3).1, txP_inv h4, (nmP_inv h5).1, (nmP_inv h6).1, txP_inv h7]
theorem tnP_inv {ws r : Wd} {t : Txn} (h : tnP ws = some (t, r)) : ws = decS t.fr :: decS t.to :: decS t.am :: decS t.no :: hexS t.sig :: r := by
  unfold tnP at h
  obtain ⟨⟨a, r1⟩, h1, h⟩ := Option.bind_eq_some_iff.1 h
  obtain ⟨⟨b, r2⟩, h2, h⟩ := Option.bind_eq_some_iff.1 h
  obtain ⟨⟨c, r3⟩, h3, h⟩ := Option.bind_eq_some_iff.1 h
  obtain ⟨⟨d, r4⟩, h4, h⟩ := Option.bind_eq_some_iff.1 h
  obtain ⟨⟨e, r5⟩, h5, h⟩ := Option.bind_eq_some_iff.1 h
  cases h
  dsimp only at *
  rw [(nmP_inv h1).1, (nmP_inv h2).1, (nmP_inv h3).1, (nmP_inv h4).1, txP_inv h5]
theorem mkP_inv {ws r : Wd} {t : Mk} (h : mkP ws = some (t, r)) : ws = decS t.vw :: decS t.ht :: hexS t.bl :: r ∧ 0 ≤ t.vw ∧ t.vw ≤ 1099511627776 ∧ 0 ≤ t.ht ∧ t.ht ≤ 1099511627776 := by
  unfold mkP at h
  obtain ⟨⟨a, r1⟩, h1, h⟩ := Option.bind_eq_some_iff.1 h
  obtain ⟨⟨b, r2⟩, h2, h⟩ := Option.bind_eq_some_iff.1 h
  obtain ⟨⟨c, r3⟩, h3, h⟩ := Option.bind_eq_some_iff.1 h
  cases h
  dsimp only at *
  obtain ⟨e1, e2, e3⟩ := nmP_inv h1
  obtain ⟨f1, f2, f3⟩ := nmP_inv h2
  rw [e1, f1, txP_inv h3]
  exact ⟨rfl, e2, e3, f2, f3⟩
/-- What is parsed is told so. -/
theorem par_inv {s : List UInt8} {e : En} (h : parE s = some e) : (e.kind = wVote ∧ okV e.v ∧ lineV e.v = s) ∨ (e.kind = wTx ∧ okT e.t ∧ lineT e.t = s) ∨ (e.kind = wMark ∧ mkErr e.m = 0 ∧ lineM e.m = s) := by
  have hj := sp32_join s
  unfold parE at h
  split at h
  · rename_i e' he
    split at h
    · rename_i hr
      cases h
      unfold entP at he
      obtain ⟨⟨k, r⟩, h1, he⟩ := Option.bind_eq_some_iff.1 he
      have hw : sp32 s = k :: r := by
        unfold nxP at h1
        split at h1
        · cases h1
        · rename_i hq; cases h1; exact hq
      rw [hw] at hj
      dsimp only at he
      split at he
      · rename_i hk
        subst hk
        obtain ⟨⟨q, r2⟩, hq, he⟩ := Option.map_eq_some_iff.1 he
        cases he
        have hv := vtP_inv hq
        unfold rgtS at hr
        rw [if_pos rfl] at hr
        refine .inl ⟨rfl, of_decide_eq_true hr, ?_⟩
        rw [hv] at hj
        rw [← hj, lineV_wds]
        rfl
      · split at he
        · rename_i hk0 hk
          subst hk
          obtain ⟨⟨q, r2⟩, hq, he⟩ := Option.map_eq_some_iff.1 he
          cases he
          have hv := tnP_inv hq
          unfold rgtS at hr
          rw [if_neg hk0, if_pos rfl] at hr
          refine .inr (.inl ⟨rfl, of_decide_eq_true hr, ?_⟩)
          rw [hv] at hj
          rw [← hj, lineT_wds]
          rfl
        · split at he
          · rename_i hk0 hk1 hk
            subst hk
            obtain ⟨⟨q, r2⟩, hq, he⟩ := Option.map_eq_some_iff.1 he
            cases he
            obtain ⟨hv, m1, m2, m3, m4⟩ := mkP_inv hq
            unfold rgtS at hr
            rw [if_neg hk0, if_neg hk1] at hr
            have hb := (of_decide_eq_true hr).2
            refine .inr (.inr ⟨rfl, ?_, ?_⟩)
            · unfold mkErr
              dsimp only at hb ⊢
              rw [if_neg (by omega), if_neg (by omega)]
            · rw [hv] at hj
              rw [← hj, lineM_wds]
              rfl
          · rename_i hk0 hk1 hk2
            cases he
            unfold rgtS at hr
            rw [if_neg hk0, if_neg hk1] at hr
            exact absurd (of_decide_eq_true hr).1 hk2
    · cases h
  · cases h

end Go.Proofs.YtcfijanfcgnnhaaDoor.AM
