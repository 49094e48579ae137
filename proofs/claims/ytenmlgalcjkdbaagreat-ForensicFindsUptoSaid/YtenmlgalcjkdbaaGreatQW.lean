/-
  QW: Fo1 Fo2 Fo3.
-/
import Derived.Test.YtenmlgalcjkdbaaGreatQ8
import Derived.Test.YtenmlgalcjkdbaaGreatQG
import Derived.Test.YtenmlgalcjkdbaaGreatQR
import Derived.Test.YtenmlgalcjkdbaaGreatQ4
import Derived.Test.YtenmlgalcjkdbaaGreatQB
set_option linter.unusedVariables false
set_option linter.unusedSimpArgs false
namespace Go.Proofs.YtenmlgalcjkdbaaGreat.AM
open Go

variable {Γ : FuncId → Contract}

def isS (n : Int) (v : Vt) : Bool := (v.kd == 1) && (v.sg == n)
noncomputable def frIC : Contract := mkC (α := Vt × Int) (fun _ => True) (fun q => [q.1.av, .rptr [.int .i64 q.2]]) (fun _ => []) (fun q => ⟨[.pv (.c (.bool (isS q.2 q.1)))], []⟩)
theorem frI_at (y : Vt) (n : Int) : frIC [.agg [.c (.int .i64 y.kd), .c (.int .i64 y.vw), .c (.int .i64 y.ht), .c (.str y.bl), .c (.int .i64 y.tk), .c (.int .i64 y.sg), .c (.str y.sig)], .rptr [.int .i64 n]] [] = some ⟨[.pv (.c (.bool (isS n y)))], []⟩ :=
  mkC_at (α := Vt × Int) (y, n) trivial (by
    rintro ⟨t', x1⟩ _ h _
    have h' : [t'.av, .rptr [.int .i64 x1]] = [y.av, .rptr [.int .i64 n]] := h
    simp only [List.cons.injEq, Vt.av_iff, AV.rptr.injEq, PC.int.injEq, true_and, and_true] at h'
    obtain ⟨rfl, rfl⟩ := h'
    rfl)
set_option maxRecDepth 100000 in
set_option maxHeartbeats 4000000 in
theorem frI_sound : SoundC Tryz.prog 129 frIC := by
  refine sound_fn Tryz.func129 (by kernel_rfl) rfl rfl ?_
  intro args objs r hr
  obtain ⟨⟨⟨kd, vw, ht, bl, tk, sg, sig⟩, n⟩, _, rfl, rfl, rfl⟩ := mkC_inv hr
  refine ⟨rfl, by show 2 ≤ _; decide, fun E hN hns hF => ?_⟩
  refine vc_sound none0_sound mixed _ _ _ ?_
  have hN := hN.trans nt_129
  unfold Vt.av isS
  dsimp only
  cases k1 : kd == 1 with
  | true =>
    simp only [runA, runB, runC, runD, runE, runF, fieldE, storeE, binE, ↓reduceIte, Nat.reduceLT, Nat.reduceLeDiff, Nat.reduceEqDiff, Nat.reduceAdd, Nat.reduceMul, Nat.reduceSub, reduceCtorEq, putAt, unE, Nat.reduceBEq, convE, buildE, List.replicate, Int.reduceLT, Int.reduceLE, Int.reduceToNat, mkE, mapSetE, hN, hF, ty_3, ty_4, ty_9, ty_97, notIf, isEq, k1, Bool.true_and]
    iterate 2 (try (refine drawnP_intro (by kernel_rfl) (by kernel_rfl) ?_; simp only [runA, runB, runC, runD, runE, runF, fieldE, storeE, binE, ↓reduceIte, Nat.reduceLT, Nat.reduceLeDiff, Nat.reduceEqDiff, Nat.reduceAdd, Nat.reduceMul, Nat.reduceSub, reduceCtorEq, putAt, unE, Nat.reduceBEq, convE, buildE, List.replicate, Int.reduceLT, Int.reduceLE, Int.reduceToNat, mkE, mapSetE, hN, hF, ty_3, ty_4, ty_9, ty_97, notIf, isEq, k1, Bool.true_and]))
    simp only [runB, finC, finD, Option.isSome_some, Option.isSome_none, ↓reduceIte, Nat.reduceEqDiff, Nat.reduceAdd, Nat.reduceMul, forall_eq_or_imp, forall_eq, implies_true, Nat.reduceBEq, reduceCtorEq, false_implies, List.zip_cons_cons, List.zip_nil_left, List.zip_nil_right, Nat.reduceLeDiff, List.forall_mem_nil, rs_129]
  | false =>
    simp only [runA, runB, runC, runD, runE, runF, fieldE, storeE, binE, ↓reduceIte, Nat.reduceLT, Nat.reduceLeDiff, Nat.reduceEqDiff, Nat.reduceAdd, Nat.reduceMul, Nat.reduceSub, reduceCtorEq, putAt, unE, Nat.reduceBEq, convE, buildE, List.replicate, Int.reduceLT, Int.reduceLE, Int.reduceToNat, mkE, mapSetE, hN, hF, ty_3, ty_4, ty_9, ty_97, notIf, isEq, k1, Bool.false_and]
    iterate 2 (try (refine drawnP_intro (by kernel_rfl) (by kernel_rfl) ?_; simp only [runA, runB, runC, runD, runE, runF, fieldE, storeE, binE, ↓reduceIte, Nat.reduceLT, Nat.reduceLeDiff, Nat.reduceEqDiff, Nat.reduceAdd, Nat.reduceMul, Nat.reduceSub, reduceCtorEq, putAt, unE, Nat.reduceBEq, convE, buildE, List.replicate, Int.reduceLT, Int.reduceLE, Int.reduceToNat, mkE, mapSetE, hN, hF, ty_3, ty_4, ty_9, ty_97, notIf, isEq, k1, Bool.false_and]))
    simp only [runB, finC, finD, Option.isSome_some, Option.isSome_none, ↓reduceIte, Nat.reduceEqDiff, Nat.reduceAdd, Nat.reduceMul, forall_eq_or_imp, forall_eq, implies_true, Nat.reduceBEq, reduceCtorEq, false_implies, List.zip_cons_cons, List.zip_nil_left, List.zip_nil_right, Nat.reduceLeDiff, List.forall_mem_nil, rs_129]
noncomputable def frXC : Contract := mkC (α := List Vt × Int) (fun q => q.1.length ≤ 9223372036854775807) (fun q => [.c (.sl (votes q.1)), .clo 129 [[.int .i64 q.2]]]) (fun _ => []) (fun q => ⟨[.pv (.c (.int .i64 (idxP (isS q.2) q.1)))], []⟩)
theorem frX_at (l : List Vt) (n : Int) (h : l.length ≤ 9223372036854775807) : frXC [.c (.sl (votes l)), .clo 129 [[.int .i64 n]]] [] = some ⟨[.pv (.c (.int .i64 (idxP (isS n) l)))], []⟩ :=
  mkC_at (α := List Vt × Int) (l, n) h (by
    rintro ⟨y1, y2⟩ _ h _
    simp only [List.cons.injEq, AV.c.injEq, PC.sl.injEq, PC.int.injEq, AV.clo.injEq, true_and, and_true, votes_iff] at h
    obtain ⟨rfl, rfl⟩ := h
    rfl)
set_option maxRecDepth 100000 in
set_option maxHeartbeats 4000000 in
theorem frX_sound (hΓ : SoundG Tryz.prog Γ) (h1 : Γ 129 = frIC) : SoundC Tryz.prog 128 frXC := by
  refine sound_fn Tryz.func128 (by kernel_rfl) rfl rfl ?_
  intro args objs r hr
  obtain ⟨⟨l, n⟩, hl, rfl, rfl, rfl⟩ := mkC_inv hr
  have hl : l.length ≤ 9223372036854775807 := hl
  refine ⟨rfl, by show 2 ≤ _; decide, fun E hN hns hF => ?_⟩
  refine vc_sound hΓ mixed _ _ _ ?_
  have hN := hN.trans nt_128
  dsimp only
  simp only [runA, runB, runC, runD, runE, runF, fieldE, storeE, binE, ↓reduceIte, Nat.reduceLT, Nat.reduceLeDiff, Nat.reduceEqDiff, Nat.reduceAdd, Nat.reduceMul, Nat.reduceSub, reduceCtorEq, putAt, unE, Nat.reduceBEq, convE, buildE, List.replicate, Int.reduceLT, Int.reduceLE, Int.reduceToNat, mkE, mapSetE, hN, hF, ty_3, ty_9, ty_29, ty_97, notIf, isEq, votes_length]
  refine AWP.loop (fun k st => ∃ i : Nat, (i ≤ l.length ∧ ∀ k, k < i → isS n (l.getD k zeroV) = false) ∧ k = l.length - i ∧ st = ⟨[(0, .c (.sl (votes l))), (1, .clo 129 [[.int .i64 n]]), (7, .c (.int .i64 (l.length : Int))), (8, .c (.int .i64 (i : Int)))], []⟩) ⟨l.length, _, ?w, 0, ⟨Nat.zero_le _, fun k hk => absurd hk (by omega)⟩, rfl, rfl⟩ ?r
  case w =>
    rw [hns]
    simp only [runB, finC, finD, AS.get, AS.mem, false_implies, implies_true, ↓reduceIte, Nat.reduceEqDiff, Option.isSome_some, Option.isSome_none, forall_eq_or_imp, forall_eq, reduceCtorEq, Nat.reduceAdd, Nat.reduceMul, List.zip_cons_cons, List.zip_nil_left, List.zip_nil_right, List.forall_mem_nil]
    first | done | simp
  case r =>
    rintro k st ⟨i, ⟨hi, h8⟩, rfl, rfl⟩
    refine vc_sound hΓ mixed _ _ _ ?_
    by_cases hlt : i < l.length
    · have k1 : decide ((i : Int) < (l.length : Int)) = true := by simpa using hlt
      have e1 : IntKind.i64.wrap ((i : Int) + 1) = (i : Int) + 1 := wrapI (by omega)
      have hg := votesD l i hlt
      unfold Vt.pcs at hg
      have hd := frI_at (l.getD i zeroV) n
      cases hp : isS n (l.getD i zeroV) with
      | false =>
        have h8' : ∀ k, k < i + 1 → isS n (l.getD k zeroV) = false := fun k hk => by
          by_cases e : k = i
          · rw [e]; exact hp
          · exact h8 k (by omega)
        rw [hp] at hd
        generalize l.getD i zeroV = y at hg hd
        simp only [runA, runB, runC, runD, runE, runF, fieldE, storeE, binE, ↓reduceIte, Nat.reduceLT, Nat.reduceLeDiff, Nat.reduceEqDiff, Nat.reduceAdd, Nat.reduceMul, Nat.reduceSub, reduceCtorEq, putAt, unE, Nat.reduceBEq, convE, buildE, List.replicate, Int.reduceLT, Int.reduceLE, Int.reduceToNat, mkE, mapSetE, hN, hF, ty_3, ty_9, ty_29, ty_97, notIf, isEq, k1, e1, hg, h1, hd]
        refine ⟨l.length - (i + 1), _, by omega, ?_, i + 1, ⟨by omega, h8'⟩, rfl, rfl⟩
        rw [hns]
        simp only [runB, finC, finD, AS.get, AS.mem, false_implies, implies_true, ↓reduceIte, Nat.reduceEqDiff, Option.isSome_some, Option.isSome_none, forall_eq_or_imp, forall_eq, reduceCtorEq, Nat.reduceAdd, Nat.reduceMul, List.zip_cons_cons, List.zip_nil_left, List.zip_nil_right, List.forall_mem_nil]
        first | done | simp
      | true =>
        have hS := idxP_some hlt hp h8
        rw [hp] at hd
        generalize l.getD i zeroV = y at hg hd
        simp only [runA, runB, runC, runD, runE, runF, fieldE, storeE, binE, ↓reduceIte, Nat.reduceLT, Nat.reduceLeDiff, Nat.reduceEqDiff, Nat.reduceAdd, Nat.reduceMul, Nat.reduceSub, reduceCtorEq, putAt, unE, Nat.reduceBEq, convE, buildE, List.replicate, Int.reduceLT, Int.reduceLE, Int.reduceToNat, mkE, mapSetE, hN, hF, ty_3, ty_9, ty_29, ty_97, notIf, isEq, k1, e1, hg, h1, hd]
        simp only [runB, finC, finD, Option.isSome_some, Option.isSome_none, ↓reduceIte, Nat.reduceEqDiff, Nat.reduceAdd, Nat.reduceMul, forall_eq_or_imp, forall_eq, implies_true, Nat.reduceBEq, reduceCtorEq, false_implies, List.zip_cons_cons, List.zip_nil_left, List.zip_nil_right, Nat.reduceLeDiff, List.forall_mem_nil, rs_128, hS]
    · have k1 : decide ((i : Int) < (l.length : Int)) = false := by simpa using hlt
      obtain rfl : i = l.length := by omega
      have hS := idxP_none h8
      simp only [runA, runB, runC, runD, runE, runF, fieldE, storeE, binE, ↓reduceIte, Nat.reduceLT, Nat.reduceLeDiff, Nat.reduceEqDiff, Nat.reduceAdd, Nat.reduceMul, Nat.reduceSub, reduceCtorEq, putAt, unE, Nat.reduceBEq, convE, buildE, List.replicate, Int.reduceLT, Int.reduceLE, Int.reduceToNat, mkE, mapSetE, hN, hF, ty_3, ty_9, ty_29, ty_97, notIf, isEq, k1]
      simp only [runB, finC, finD, Option.isSome_some, Option.isSome_none, ↓reduceIte, Nat.reduceEqDiff, Nat.reduceAdd, Nat.reduceMul, forall_eq_or_imp, forall_eq, implies_true, Nat.reduceBEq, reduceCtorEq, false_implies, List.zip_cons_cons, List.zip_nil_left, List.zip_nil_right, Nat.reduceLeDiff, List.forall_mem_nil, rs_128, hS]
theorem idxP_cases {α : Type} (p : α → Bool) (l : List α) : idxP p l = -1 ∨ ∃ i : Nat, idxP p l = (i : Int) ∧ i < l.length := by
  unfold idxP
  cases h : l.findIdx? p with
  | none => exact .inl rfl
  | some i => exact .inr ⟨i, rfl, by rw [List.findIdx?_eq_some_iff_getElem] at h; exact h.1⟩
def fstV (l : List Vt) (n : Int) : Vt := if idxP (isS n) l < 0 then zeroV else l.getD (idxP (isS n) l).toNat zeroV
noncomputable def firC : Contract := mkC (α := Ct × Int) (fun q => q.1.vs.length ≤ 9223372036854775807) (fun q => [q.1.av, .c (.int .i64 q.2)]) (fun _ => []) (fun q => ⟨[.pv (fstV q.1.vs q.2).av, .pv (.c (.bool (!decide (idxP (isS q.2) q.1.vs < 0))))], []⟩)
theorem fir_at (c : Ct) (n : Int) (h : c.vs.length ≤ 9223372036854775807) : firC [.agg [.c (.int .i64 c.vw), .c (.int .i64 c.ht), .c (.str c.bl), .c (.sl (votes c.vs))], .c (.int .i64 n)] [] = some ⟨[.pv (fstV c.vs n).av, .pv (.c (.bool (!decide (idxP (isS n) c.vs < 0))))], []⟩ :=
  mkC_at (α := Ct × Int) (c, n) h (by
    rintro ⟨c', n'⟩ _ h _
    have h' : [c'.av, .c (.int .i64 n')] = [c.av, .c (.int .i64 n)] := h
    simp only [List.cons.injEq, AV.c.injEq, PC.int.injEq, true_and, and_true] at h'
    rw [Ct.av_inj h'.1, h'.2])

set_option maxRecDepth 100000 in
set_option maxHeartbeats 4000000 in
theorem fir_sound (hΓ : SoundG Tryz.prog Γ) (h1 : Γ 128 = frXC) : SoundC Tryz.prog 76 firC := by
  refine sound_fn Tryz.func76 (by kernel_rfl) rfl rfl ?_
  intro args objs r0 hr
  obtain ⟨⟨⟨cvw, cht, cbl, cvs⟩, n⟩, hl, rfl, rfl, rfl⟩ := mkC_inv hr
  refine ⟨rfl, by show 2 ≤ _; decide, fun E hN hns hF => ?_⟩
  refine vc_sound hΓ mixed _ _ _ ?_
  have hN := hN.trans nt_76
  have hl : cvs.length ≤ 9223372036854775807 := hl
  have q1 := frX_at cvs n hl
  unfold Ct.av fstV
  dsimp only
  rcases idxP_cases (isS n) cvs with he | ⟨i, he, hi⟩
  · rw [he] at q1 ⊢
    have k1 : decide ((-1 : Int) < 0) = true := by decide
    rw [if_pos (by decide)]
    simp only [runA, runB, runC, runD, runE, runF, fieldE, storeE, binE, ↓reduceIte, Nat.reduceLT, Nat.reduceLeDiff, Nat.reduceEqDiff, Nat.reduceAdd, Nat.reduceMul, Nat.reduceSub, reduceCtorEq, putAt, unE, Nat.reduceBEq, convE, buildE, List.replicate, Int.reduceLT, Int.reduceLE, Int.reduceToNat, mkE, mapSetE, hN, hF, ty_3, ty_4, ty_9, ty_29, ty_31, ty_97, notIf, isEq, h1, q1, k1, op_makeFuncC, capE_ptr, capE_nil, Array.toList, List.map_cons, List.map_nil]
    iterate 2 (try (refine drawnP_intro (by kernel_rfl) (by kernel_rfl) ?_; simp only [runA, runB, runC, runD, runE, runF, fieldE, storeE, binE, ↓reduceIte, Nat.reduceLT, Nat.reduceLeDiff, Nat.reduceEqDiff, Nat.reduceAdd, Nat.reduceMul, Nat.reduceSub, reduceCtorEq, putAt, unE, Nat.reduceBEq, convE, buildE, List.replicate, Int.reduceLT, Int.reduceLE, Int.reduceToNat, mkE, mapSetE, hN, hF, ty_3, ty_4, ty_9, ty_29, ty_31, ty_97, notIf, isEq, h1, q1, k1, op_makeFuncC, capE_ptr, capE_nil]))
    simp only [runB, finC, finD, Option.isSome_some, Option.isSome_none, ↓reduceIte, Nat.reduceEqDiff, Nat.reduceAdd, Nat.reduceMul, forall_eq_or_imp, forall_eq, implies_true, Nat.reduceBEq, reduceCtorEq, false_implies, List.zip_cons_cons, List.zip_nil_left, List.zip_nil_right, Nat.reduceLeDiff, List.forall_mem_nil, rs_76, agg_97, sz_97, zeroV, Vt.av]
  · rw [he] at q1 ⊢
    have k1 : decide ((i : Int) < 0) = false := decide_eq_false (by omega)
    have hg := votesD cvs i hi
    unfold Vt.pcs at hg
    rw [if_neg (by omega), Int.toNat_natCast]
    have hi2 : ((i : Int) < (cvs.length : Int)) = True := eq_true (by omega)
    have hvl := votes_length cvs
    generalize cvs.getD i zeroV = y at hg ⊢
    simp only [runA, runB, runC, runD, runE, runF, fieldE, storeE, binE, ↓reduceIte, Nat.reduceLT, Nat.reduceLeDiff, Nat.reduceEqDiff, Nat.reduceAdd, Nat.reduceMul, Nat.reduceSub, reduceCtorEq, putAt, unE, Nat.reduceBEq, convE, buildE, List.replicate, Int.reduceLT, Int.reduceLE, Int.reduceToNat, mkE, mapSetE, hN, hF, ty_3, ty_4, ty_9, ty_29, ty_31, ty_97, notIf, isEq, h1, q1, k1, hg, hi2, hvl, op_makeFuncC, capE_ptr, capE_nil, Array.toList, List.map_cons, List.map_nil]
    iterate 2 (try (refine drawnP_intro (by kernel_rfl) (by kernel_rfl) ?_; simp only [runA, runB, runC, runD, runE, runF, fieldE, storeE, binE, ↓reduceIte, Nat.reduceLT, Nat.reduceLeDiff, Nat.reduceEqDiff, Nat.reduceAdd, Nat.reduceMul, Nat.reduceSub, reduceCtorEq, putAt, unE, Nat.reduceBEq, convE, buildE, List.replicate, Int.reduceLT, Int.reduceLE, Int.reduceToNat, mkE, mapSetE, hN, hF, ty_3, ty_4, ty_9, ty_29, ty_31, ty_97, notIf, isEq, h1, q1, k1, hg, hi2, hvl, op_makeFuncC, capE_ptr, capE_nil]))
    simp only [runB, finC, finD, Option.isSome_some, Option.isSome_none, ↓reduceIte, Nat.reduceEqDiff, Nat.reduceAdd, Nat.reduceMul, forall_eq_or_imp, forall_eq, implies_true, Nat.reduceBEq, reduceCtorEq, false_implies, List.zip_cons_cons, List.zip_nil_left, List.zip_nil_right, Nat.reduceLeDiff, List.forall_mem_nil, rs_76, agg_97, sz_97, Vt.av]


variable {Γ : FuncId → Contract}

def fewS (r q : Int) : Int := if r < 1 ∨ 7 < r ∨ q < 1 ∨ r < q then 0 else if 0 > 2 * q - r then 0 else 2 * q - r
noncomputable def fewC : Contract := mkC (α := Int × Int) (fun _ => True) (fun q => [.c (.int .i64 q.1), .c (.int .i64 q.2)]) (fun _ => []) (fun q => ⟨[.pv (.c (.int .i64 (fewS q.1 q.2)))], []⟩)
theorem few_at (r q : Int) : fewC [.c (.int .i64 r), .c (.int .i64 q)] [] = some ⟨[.pv (.c (.int .i64 (fewS r q)))], []⟩ :=
  mkC_at (α := Int × Int) (r, q) trivial (by
    rintro ⟨c', n'⟩ _ h _
    simp only [List.cons.injEq, AV.c.injEq, PC.int.injEq, true_and, and_true] at h
    rw [h.1, h.2])

set_option maxRecDepth 100000 in
set_option maxHeartbeats 4000000 in
theorem few_sound  : SoundC Tryz.prog 30 fewC := by
  refine sound_fn Tryz.func30 (by kernel_rfl) rfl rfl ?_
  intro args objs r0 hr
  obtain ⟨⟨r, q⟩, _, rfl, rfl, rfl⟩ := mkC_inv hr
  refine ⟨rfl, by show 2 ≤ _; decide, fun E hN hns hF => ?_⟩
  refine vc_sound none0_sound mixed _ _ _ ?_
  have hN := hN.trans nt_30
  dsimp only
  by_cases c1 : r < 1
  · have b1 : decide (r < 1) = true := decide_eq_true c1
    rw [show fewS r q = 0 from if_pos (by omega)]
    simp only [runA, runB, runC, runD, runE, runF, fieldE, storeE, binE, ↓reduceIte, Nat.reduceLT, Nat.reduceLeDiff, Nat.reduceEqDiff, Nat.reduceAdd, Nat.reduceMul, Nat.reduceSub, reduceCtorEq, putAt, unE, Nat.reduceBEq, convE, buildE, List.replicate, Int.reduceLT, Int.reduceLE, Int.reduceToNat, mkE, mapSetE, hN, hF, ty_3, notIf, isEq, b1]
    iterate 2 (try (refine drawnP_intro (by kernel_rfl) (by kernel_rfl) ?_; simp only [runA, runB, runC, runD, runE, runF, fieldE, storeE, binE, ↓reduceIte, Nat.reduceLT, Nat.reduceLeDiff, Nat.reduceEqDiff, Nat.reduceAdd, Nat.reduceMul, Nat.reduceSub, reduceCtorEq, putAt, unE, Nat.reduceBEq, convE, buildE, List.replicate, Int.reduceLT, Int.reduceLE, Int.reduceToNat, mkE, mapSetE, hN, hF, ty_3, notIf, isEq, b1]))
    simp only [runB, finC, finD, Option.isSome_some, Option.isSome_none, ↓reduceIte, Nat.reduceEqDiff, Nat.reduceAdd, Nat.reduceMul, forall_eq_or_imp, forall_eq, implies_true, Nat.reduceBEq, reduceCtorEq, false_implies, List.zip_cons_cons, List.zip_nil_left, List.zip_nil_right, Nat.reduceLeDiff, List.forall_mem_nil, rs_30]
  have b1 : decide (r < 1) = false := decide_eq_false c1
  by_cases c2 : 7 < r
  · have b2 : decide (r > 7) = true := decide_eq_true c2
    rw [show fewS r q = 0 from if_pos (by omega)]
    simp only [runA, runB, runC, runD, runE, runF, fieldE, storeE, binE, ↓reduceIte, Nat.reduceLT, Nat.reduceLeDiff, Nat.reduceEqDiff, Nat.reduceAdd, Nat.reduceMul, Nat.reduceSub, reduceCtorEq, putAt, unE, Nat.reduceBEq, convE, buildE, List.replicate, Int.reduceLT, Int.reduceLE, Int.reduceToNat, mkE, mapSetE, hN, hF, ty_3, notIf, isEq, b1, b2]
    iterate 2 (try (refine drawnP_intro (by kernel_rfl) (by kernel_rfl) ?_; simp only [runA, runB, runC, runD, runE, runF, fieldE, storeE, binE, ↓reduceIte, Nat.reduceLT, Nat.reduceLeDiff, Nat.reduceEqDiff, Nat.reduceAdd, Nat.reduceMul, Nat.reduceSub, reduceCtorEq, putAt, unE, Nat.reduceBEq, convE, buildE, List.replicate, Int.reduceLT, Int.reduceLE, Int.reduceToNat, mkE, mapSetE, hN, hF, ty_3, notIf, isEq, b1, b2]))
    simp only [runB, finC, finD, Option.isSome_some, Option.isSome_none, ↓reduceIte, Nat.reduceEqDiff, Nat.reduceAdd, Nat.reduceMul, forall_eq_or_imp, forall_eq, implies_true, Nat.reduceBEq, reduceCtorEq, false_implies, List.zip_cons_cons, List.zip_nil_left, List.zip_nil_right, Nat.reduceLeDiff, List.forall_mem_nil, rs_30]
  have b2 : decide (r > 7) = false := decide_eq_false c2
  by_cases c3 : q < 1
  · have b3 : decide (q < 1) = true := decide_eq_true c3
    rw [show fewS r q = 0 from if_pos (by omega)]
    simp only [runA, runB, runC, runD, runE, runF, fieldE, storeE, binE, ↓reduceIte, Nat.reduceLT, Nat.reduceLeDiff, Nat.reduceEqDiff, Nat.reduceAdd, Nat.reduceMul, Nat.reduceSub, reduceCtorEq, putAt, unE, Nat.reduceBEq, convE, buildE, List.replicate, Int.reduceLT, Int.reduceLE, Int.reduceToNat, mkE, mapSetE, hN, hF, ty_3, notIf, isEq, b1, b2, b3]
    iterate 2 (try (refine drawnP_intro (by kernel_rfl) (by kernel_rfl) ?_; simp only [runA, runB, runC, runD, runE, runF, fieldE, storeE, binE, ↓reduceIte, Nat.reduceLT, Nat.reduceLeDiff, Nat.reduceEqDiff, Nat.reduceAdd, Nat.reduceMul, Nat.reduceSub, reduceCtorEq, putAt, unE, Nat.reduceBEq, convE, buildE, List.replicate, Int.reduceLT, Int.reduceLE, Int.reduceToNat, mkE, mapSetE, hN, hF, ty_3, notIf, isEq, b1, b2, b3]))
    simp only [runB, finC, finD, Option.isSome_some, Option.isSome_none, ↓reduceIte, Nat.reduceEqDiff, Nat.reduceAdd, Nat.reduceMul, forall_eq_or_imp, forall_eq, implies_true, Nat.reduceBEq, reduceCtorEq, false_implies, List.zip_cons_cons, List.zip_nil_left, List.zip_nil_right, Nat.reduceLeDiff, List.forall_mem_nil, rs_30]
  have b3 : decide (q < 1) = false := decide_eq_false c3
  by_cases c4 : r < q
  · have b4 : decide (q > r) = true := decide_eq_true c4
    rw [show fewS r q = 0 from if_pos (by omega)]
    simp only [runA, runB, runC, runD, runE, runF, fieldE, storeE, binE, ↓reduceIte, Nat.reduceLT, Nat.reduceLeDiff, Nat.reduceEqDiff, Nat.reduceAdd, Nat.reduceMul, Nat.reduceSub, reduceCtorEq, putAt, unE, Nat.reduceBEq, convE, buildE, List.replicate, Int.reduceLT, Int.reduceLE, Int.reduceToNat, mkE, mapSetE, hN, hF, ty_3, notIf, isEq, b1, b2, b3, b4]
    iterate 2 (try (refine drawnP_intro (by kernel_rfl) (by kernel_rfl) ?_; simp only [runA, runB, runC, runD, runE, runF, fieldE, storeE, binE, ↓reduceIte, Nat.reduceLT, Nat.reduceLeDiff, Nat.reduceEqDiff, Nat.reduceAdd, Nat.reduceMul, Nat.reduceSub, reduceCtorEq, putAt, unE, Nat.reduceBEq, convE, buildE, List.replicate, Int.reduceLT, Int.reduceLE, Int.reduceToNat, mkE, mapSetE, hN, hF, ty_3, notIf, isEq, b1, b2, b3, b4]))
    simp only [runB, finC, finD, Option.isSome_some, Option.isSome_none, ↓reduceIte, Nat.reduceEqDiff, Nat.reduceAdd, Nat.reduceMul, forall_eq_or_imp, forall_eq, implies_true, Nat.reduceBEq, reduceCtorEq, false_implies, List.zip_cons_cons, List.zip_nil_left, List.zip_nil_right, Nat.reduceLeDiff, List.forall_mem_nil, rs_30]
  have b4 : decide (q > r) = false := decide_eq_false (by omega)
  have w1 : IntKind.i64.wrap (2 * q) = 2 * q := wrapI (by omega)
  have w2 : IntKind.i64.wrap (2 * q - r) = 2 * q - r := wrapI (by omega)
  rw [show fewS r q = if 0 > 2 * q - r then 0 else 2 * q - r from if_neg (by omega)]
  by_cases c5 : 0 > 2 * q - r
  · have b5 : (0 > 2 * q - r) = True := eq_true c5
    rw [if_pos c5]
    simp only [runA, runB, runC, runD, runE, runF, fieldE, storeE, binE, ↓reduceIte, Nat.reduceLT, Nat.reduceLeDiff, Nat.reduceEqDiff, Nat.reduceAdd, Nat.reduceMul, Nat.reduceSub, reduceCtorEq, putAt, unE, Nat.reduceBEq, convE, buildE, List.replicate, Int.reduceLT, Int.reduceLE, Int.reduceToNat, mkE, mapSetE, hN, hF, ty_3, notIf, isEq, b1, b2, b3, b4, w1, w2, mm, b5, c5]
    iterate 2 (try (refine drawnP_intro (by kernel_rfl) (by kernel_rfl) ?_; simp only [runA, runB, runC, runD, runE, runF, fieldE, storeE, binE, ↓reduceIte, Nat.reduceLT, Nat.reduceLeDiff, Nat.reduceEqDiff, Nat.reduceAdd, Nat.reduceMul, Nat.reduceSub, reduceCtorEq, putAt, unE, Nat.reduceBEq, convE, buildE, List.replicate, Int.reduceLT, Int.reduceLE, Int.reduceToNat, mkE, mapSetE, hN, hF, ty_3, notIf, isEq, b1, b2, b3, b4, w1, w2, mm, b5, c5]))
    simp only [runB, finC, finD, Option.isSome_some, Option.isSome_none, ↓reduceIte, Nat.reduceEqDiff, Nat.reduceAdd, Nat.reduceMul, forall_eq_or_imp, forall_eq, implies_true, Nat.reduceBEq, reduceCtorEq, false_implies, List.zip_cons_cons, List.zip_nil_left, List.zip_nil_right, Nat.reduceLeDiff, List.forall_mem_nil, rs_30]
  · have b5 : (0 > 2 * q - r) = False := eq_false c5
    rw [if_neg c5]
    simp only [runA, runB, runC, runD, runE, runF, fieldE, storeE, binE, ↓reduceIte, Nat.reduceLT, Nat.reduceLeDiff, Nat.reduceEqDiff, Nat.reduceAdd, Nat.reduceMul, Nat.reduceSub, reduceCtorEq, putAt, unE, Nat.reduceBEq, convE, buildE, List.replicate, Int.reduceLT, Int.reduceLE, Int.reduceToNat, mkE, mapSetE, hN, hF, ty_3, notIf, isEq, b1, b2, b3, b4, w1, w2, mm, b5, c5]
    iterate 2 (try (refine drawnP_intro (by kernel_rfl) (by kernel_rfl) ?_; simp only [runA, runB, runC, runD, runE, runF, fieldE, storeE, binE, ↓reduceIte, Nat.reduceLT, Nat.reduceLeDiff, Nat.reduceEqDiff, Nat.reduceAdd, Nat.reduceMul, Nat.reduceSub, reduceCtorEq, putAt, unE, Nat.reduceBEq, convE, buildE, List.replicate, Int.reduceLT, Int.reduceLE, Int.reduceToNat, mkE, mapSetE, hN, hF, ty_3, notIf, isEq, b1, b2, b3, b4, w1, w2, mm, b5, c5]))
    simp only [runB, finC, finD, Option.isSome_some, Option.isSome_none, ↓reduceIte, Nat.reduceEqDiff, Nat.reduceAdd, Nat.reduceMul, forall_eq_or_imp, forall_eq, implies_true, Nat.reduceBEq, reduceCtorEq, false_implies, List.zip_cons_cons, List.zip_nil_left, List.zip_nil_right, Nat.reduceLeDiff, List.forall_mem_nil, rs_30]
def alive42C : Contract := fun args objs => match args, objs with | [], [] => some ⟨[.pv (.c (.bool true))], []⟩ | _, _ => none
set_option maxHeartbeats 1000000 in
theorem alive42_sound (hΓ : SoundG Tryz.prog Γ) (h1 : Γ 30 = fewC) : SoundC Tryz.prog 22 alive42C := by
  refine sound_fn Tryz.func22 (by kernel_rfl) rfl rfl ?_
  intro args objs r hr
  unfold alive42C at hr
  split at hr
  · cases hr
    refine ⟨rfl, by show 0 ≤ _; decide, fun E hN hns hF => ?_⟩
    refine vc_sound hΓ mixed _ _ _ ?_
    have hN := hN.trans nt_22
    have q1 := few_at 4 3
    rw [show fewS 4 3 = 2 from by decide] at q1
    have b1 : ((2 : Int) == 2) = true := rfl
    simp only [runA, runB, runC, runD, runE, runF, fieldE, storeE, binE, ↓reduceIte, Nat.reduceLT, Nat.reduceLeDiff, Nat.reduceEqDiff, Nat.reduceAdd, Nat.reduceMul, Nat.reduceSub, reduceCtorEq, putAt, unE, Nat.reduceBEq, convE, buildE, List.replicate, Int.reduceLT, Int.reduceLE, Int.reduceToNat, mkE, mapSetE, hN, hF, ty_3, ty_4, notIf, isEq, h1, q1, b1]
    simp only [runB, finC, finD, Option.isSome_some, Option.isSome_none, ↓reduceIte, Nat.reduceEqDiff, Nat.reduceAdd, Nat.reduceMul, forall_eq_or_imp, forall_eq, implies_true, Nat.reduceBEq, reduceCtorEq, false_implies, List.zip_cons_cons, List.zip_nil_left, List.zip_nil_right, Nat.reduceLeDiff, List.forall_mem_nil, rs_22]
  · cases hr

open Go Go.RowKit

variable {Γ : FuncId → Contract}

noncomputable def FT1 : FuncId → Contract := (ext none0 129 frIC)
theorem FT1_sound : SoundG Tryz.prog FT1 := (ext_sound none0_sound frI_sound)
noncomputable def FT2 : FuncId → Contract := (ext FT1 128 frXC)
theorem FT2_sound : SoundG Tryz.prog FT2 := (ext_sound FT1_sound (frX_sound FT1_sound rfl))
theorem first_calls {Ext : Nat → Prop} {G : Gh} {w wr : World} (M : MRel (cEnv w Ext G.K) G (look (entryMem 0 [])) w) (bel : Below w.heap.size w wr) (c : Ct) (n : Int) (hl : c.vs.length ≤ 9223372036854775807) (v0 : Value) (hv : VR G.K (.sl (votes c.vs)) v0) :
    Calls Tryz.prog 76 #[.agg #[.int .i64 c.vw, .int .i64 c.ht, .string ⟨c.bl.toArray⟩, v0], .int .i64 n] wr fun e w' => e = .returned (.tuple #[.agg #[.int .i64 (fstV c.vs n).kd, .int .i64 (fstV c.vs n).vw, .int .i64 (fstV c.vs n).ht, .string ⟨(fstV c.vs n).bl.toArray⟩, .int .i64 (fstV c.vs n).tk, .int .i64 (fstV c.vs n).sg, .string ⟨(fstV c.vs n).sig.toArray⟩], .bool (!decide (idxP (isS n) c.vs < 0))]) ∧ Below wr.heap.size wr w' := by
  have M2 := M.below0 (res := []) bel rfl
  have M0 : MRel (cEnv wr (fun _ => False) G.K) ⟨G.K, fun _ => none⟩ (look (entryMem 0 [])) wr :=
    ⟨M2.agree, fun n => trivial, fun n n' h h' b e => (by cases e), rfl, rfl, rfl, Nat.le_refl _, Nat.le_refl _, fun _ _ _ => rfl, Know.le_refl _, fun _ _ _ _ => rfl⟩
  have hS : SoundC Tryz.prog 76 firC := fir_sound FT2_sound rfl
  have hx : ∀ (i : Nat) (x : AV) (v : Value), [c.av, .c (.int .i64 n)][i]? = some x → [Value.agg #[.int .i64 c.vw, .int .i64 c.ht, .string ⟨c.bl.toArray⟩, v0], .int .i64 n][i]? = some v → AR ⟨G.K, fun _ => none⟩ x v := by
    intro i x v h1 h2
    match i with
    | 0 =>
      cases h1; cases h2
      refine .agg _ _ rfl fun j y u g1 g2 => ?_
      match j with
      | 0 => cases g1; cases g2; exact .c _ _ (.int _ _)
      | 1 => cases g1; cases g2; exact .c _ _ (.int _ _)
      | 2 => cases g1; cases g2; exact .c _ _ (.str _)
      | 3 => cases g1; cases g2; exact .c _ _ hv
      | j + 4 => cases g1
    | 1 => cases h1; cases h2; exact .c _ _ (.int _ _)
    | i + 2 => cases h1
  refine Calls.mono ((hS.2 [c.av, .c (.int .i64 n)] [] _ (fir_at c n hl)).2 (fun _ => False) ⟨G.K, fun _ => none⟩ wr [Value.agg #[.int .i64 c.vw, .int .i64 c.ht, .string ⟨c.bl.toArray⟩, v0], .int .i64 n] M0 rfl hx) ?_
  rintro e w' ⟨G', v, rfl, hle, M', hv'⟩
  cases hv' with
  | tup _ us hlen hr =>
    have h2 : us.size = 2 := hlen.symm
    have b1 := hr 1 _ us[1] rfl (by simp)
    have b0 := hr 0 _ us[0] rfl (by simp)
    have e1 : us[1] = .bool (!decide (idxP (isS n) c.vs < 0)) := by
      generalize us[1] = v1 at b1
      cases b1 with
      | c _ _ h => cases h; rfl
    have e0 : us[0] = .agg #[.int .i64 (fstV c.vs n).kd, .int .i64 (fstV c.vs n).vw, .int .i64 (fstV c.vs n).ht, .string ⟨(fstV c.vs n).bl.toArray⟩, .int .i64 (fstV c.vs n).tk, .int .i64 (fstV c.vs n).sg, .string ⟨(fstV c.vs n).sig.toArray⟩] := by
      generalize us[0] = v0 at b0
      generalize fstV c.vs n = f at b0 ⊢
      cases b0 with
      | agg _ u hu hg =>
        have h7 : u.size = 7 := hu.symm
        have k0 := hg 0 _ u[0] rfl (by simp)
        have k1 := hg 1 _ u[1] rfl (by simp)
        have k2 := hg 2 _ u[2] rfl (by simp)
        have k3 := hg 3 _ u[3] rfl (by simp)
        have k4 := hg 4 _ u[4] rfl (by simp)
        have k5 := hg 5 _ u[5] rfl (by simp)
        have k6 := hg 6 _ u[6] rfl (by simp)
        congr 1
        apply Array.ext
        · exact h7
        · intro i h1 h3
          match i with
          | 0 => show u[0] = _; generalize u[0] = x at k0; cases k0 with | c _ _ h => cases h; rfl
          | 1 => show u[1] = _; generalize u[1] = x at k1; cases k1 with | c _ _ h => cases h; rfl
          | 2 => show u[2] = _; generalize u[2] = x at k2; cases k2 with | c _ _ h => cases h; rfl
          | 3 => show u[3] = _; generalize u[3] = x at k3; cases k3 with | c _ _ h => cases h; rfl
          | 4 => show u[4] = _; generalize u[4] = x at k4; cases k4 with | c _ _ h => cases h; rfl
          | 5 => show u[5] = _; generalize u[5] = x at k5; cases k5 with | c _ _ h => cases h; rfl
          | 6 => show u[6] = _; generalize u[6] = x at k6; cases k6 with | c _ _ h => cases h; rfl
          | i + 7 => rw [h7] at h1; omega
    refine ⟨?_, ⟨M'.os, M'.tape, M'.output, M'.size0, fun k hk => M'.blk k hk (fun h => h)⟩⟩
    congr 2
    apply Array.ext
    · exact h2
    · intro i h1 h3
      match i with
      | 0 => exact e0
      | 1 => exact e1
      | i + 2 => rw [h2] at h1; omega

end Go.Proofs.YtenmlgalcjkdbaaGreat.AM
