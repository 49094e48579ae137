/-
  Q9: Fo1 Fo2.
-/
import Derived.Test.YtcfijanfcgnnhaaQ8
set_option linter.unusedVariables false
set_option linter.unusedSimpArgs false
namespace Go.Proofs.Ytcfijanfcgnnhaa.AM
open Go

variable {Γ : FuncId → Contract}

theorem op_makeFuncC {Γ : FuncId → Contract} {P : Program} {M : List Nat} {d : Option Tmp} {ty : TypeId} {pos : String} {af : Array Edge} {g : Option (Nat × Bool)} {ρ : Operand → AV} (f : FuncId) (cp : Array Operand) : opE Γ P M ⟨d, .makeFunc (.func f) #[] cp, ty, pos, af, g⟩ ρ = ((capE (cp.toList.map ρ)).bind fun r => .ret ⟨.clo f r.1, r.2⟩) := by
  show (if (#[] : Array Operand) = #[] then ((capE (cp.toList.map ρ)).bind fun r => (.ret ⟨.clo f r.1, r.2⟩ : EP Eff)) else .fail) = _
  rw [if_pos rfl]
theorem capE_nil : capE [] = .ret ([], []) := rfl
theorem capE_ptr (n : Nat) (l : List AV) : capE (.ptr n 0 :: l) = .ask n fun
      | some (.obj cells _) => match toPCs cells with
        | some cs => (capE l).bind fun r => .ret (cs :: r.1, (n, .obj cells true) :: r.2)
        | none => .fail
      | _ => .fail := rfl
def isS (n : Int) (v : Vt) : Bool := (v.kd == 1) && (v.sg == n)
noncomputable def frIC : Contract := mkC (α := Vt × Int) (fun _ => True) (fun q => [q.1.av, .rptr [.int .i64 q.2]]) (fun _ => []) (fun q => ⟨[.pv (.c (.bool (isS q.2 q.1)))], []⟩)
theorem frI_at (y : Vt) (n : Int) : frIC [.agg [.c (.int .i64 y.kd), .c (.int .i64 y.vw), .c (.int .i64 y.ht), .c (.str y.bl), .c (.int .i64 y.tk), .c (.int .i64 y.sg), .c (.str y.sig)], .rptr [.int .i64 n]] [] = some ⟨[.pv (.c (.bool (isS n y)))], []⟩ :=
  mkC_at (α := Vt × Int) (y, n) trivial (by
    rintro ⟨t', x1⟩ _ h _
    have h' : [t'.av, .rptr [.int .i64 x1]] = [y.av, .rptr [.int .i64 n]] := h
    simp only [List.cons.injEq, Vt.av_iff, AV.rptr.injEq, PC.int.injEq, true_and, and_true] at h'
    obtain ⟨rfl, rfl⟩ := h'
    rfl)
set_option maxRecDepth 100000 in
set_option maxHeartbeats 4000000 in
theorem frI_sound : SoundC Try.prog 88 frIC := by
  refine sound_fn Try.func88 (by kernel_rfl) rfl rfl ?_
  intro args objs r hr
  obtain ⟨⟨⟨kd, vw, ht, bl, tk, sg, sig⟩, n⟩, _, rfl, rfl, rfl⟩ := mkC_inv hr
  refine ⟨rfl, by show 2 ≤ _; decide, fun E hN hns hF => ?_⟩
  refine vc_sound none0_sound mixed _ _ _ ?_
  have hN := hN.trans nt_88
  unfold Vt.av isS
  dsimp only
  cases k1 : kd == 1 with
  | true =>
    simp only [runA, runB, runC, runD, runE, runF, fieldE, storeE, binE, ↓reduceIte, Nat.reduceLT, Nat.reduceLeDiff, Nat.reduceEqDiff, Nat.reduceAdd, Nat.reduceMul, Nat.reduceSub, reduceCtorEq, putAt, unE, Nat.reduceBEq, convE, buildE, List.replicate, Int.reduceLT, Int.reduceLE, Int.reduceToNat, mkE, mapSetE, hN, hF, ty_3, ty_4, ty_9, ty_47, notIf, isEq, k1, Bool.true_and]
    iterate 2 (try (refine drawnP_intro (by kernel_rfl) (by kernel_rfl) ?_; simp only [runA, runB, runC, runD, runE, runF, fieldE, storeE, binE, ↓reduceIte, Nat.reduceLT, Nat.reduceLeDiff, Nat.reduceEqDiff, Nat.reduceAdd, Nat.reduceMul, Nat.reduceSub, reduceCtorEq, putAt, unE, Nat.reduceBEq, convE, buildE, List.replicate, Int.reduceLT, Int.reduceLE, Int.reduceToNat, mkE, mapSetE, hN, hF, ty_3, ty_4, ty_9, ty_47, notIf, isEq, k1, Bool.true_and]))
    simp only [runB, finC, finD, Option.isSome_some, Option.isSome_none, ↓reduceIte, Nat.reduceEqDiff, Nat.reduceAdd, Nat.reduceMul, forall_eq_or_imp, forall_eq, implies_true, Nat.reduceBEq, reduceCtorEq, false_implies, List.zip_cons_cons, List.zip_nil_left, List.zip_nil_right, Nat.reduceLeDiff, List.forall_mem_nil, rs_88]
  | false =>
    simp only [runA, runB, runC, runD, runE, runF, fieldE, storeE, binE, ↓reduceIte, Nat.reduceLT, Nat.reduceLeDiff, Nat.reduceEqDiff, Nat.reduceAdd, Nat.reduceMul, Nat.reduceSub, reduceCtorEq, putAt, unE, Nat.reduceBEq, convE, buildE, List.replicate, Int.reduceLT, Int.reduceLE, Int.reduceToNat, mkE, mapSetE, hN, hF, ty_3, ty_4, ty_9, ty_47, notIf, isEq, k1, Bool.false_and]
    iterate 2 (try (refine drawnP_intro (by kernel_rfl) (by kernel_rfl) ?_; simp only [runA, runB, runC, runD, runE, runF, fieldE, storeE, binE, ↓reduceIte, Nat.reduceLT, Nat.reduceLeDiff, Nat.reduceEqDiff, Nat.reduceAdd, Nat.reduceMul, Nat.reduceSub, reduceCtorEq, putAt, unE, Nat.reduceBEq, convE, buildE, List.replicate, Int.reduceLT, Int.reduceLE, Int.reduceToNat, mkE, mapSetE, hN, hF, ty_3, ty_4, ty_9, ty_47, notIf, isEq, k1, Bool.false_and]))
    simp only [runB, finC, finD, Option.isSome_some, Option.isSome_none, ↓reduceIte, Nat.reduceEqDiff, Nat.reduceAdd, Nat.reduceMul, forall_eq_or_imp, forall_eq, implies_true, Nat.reduceBEq, reduceCtorEq, false_implies, List.zip_cons_cons, List.zip_nil_left, List.zip_nil_right, Nat.reduceLeDiff, List.forall_mem_nil, rs_88]
noncomputable def frXC : Contract := mkC (α := List Vt × Int) (fun q => q.1.length ≤ 9223372036854775807) (fun q => [.c (.sl (votes q.1)), .clo 88 [[.int .i64 q.2]]]) (fun _ => []) (fun q => ⟨[.pv (.c (.int .i64 (idxP (isS q.2) q.1)))], []⟩)
theorem frX_at (l : List Vt) (n : Int) (h : l.length ≤ 9223372036854775807) : frXC [.c (.sl (votes l)), .clo 88 [[.int .i64 n]]] [] = some ⟨[.pv (.c (.int .i64 (idxP (isS n) l)))], []⟩ :=
  mkC_at (α := List Vt × Int) (l, n) h (by
    rintro ⟨y1, y2⟩ _ h _
    simp only [List.cons.injEq, AV.c.injEq, PC.sl.injEq, PC.int.injEq, AV.clo.injEq, true_and, and_true, votes_iff] at h
    obtain ⟨rfl, rfl⟩ := h
    rfl)
set_option maxRecDepth 100000 in
set_option maxHeartbeats 4000000 in
theorem frX_sound (hΓ : SoundG Try.prog Γ) (h1 : Γ 88 = frIC) : SoundC Try.prog 87 frXC := by
  refine sound_fn Try.func87 (by kernel_rfl) rfl rfl ?_
  intro args objs r hr
  obtain ⟨⟨l, n⟩, hl, rfl, rfl, rfl⟩ := mkC_inv hr
  have hl : l.length ≤ 9223372036854775807 := hl
  refine ⟨rfl, by show 2 ≤ _; decide, fun E hN hns hF => ?_⟩
  refine vc_sound hΓ mixed _ _ _ ?_
  have hN := hN.trans nt_87
  dsimp only
  simp only [runA, runB, runC, runD, runE, runF, fieldE, storeE, binE, ↓reduceIte, Nat.reduceLT, Nat.reduceLeDiff, Nat.reduceEqDiff, Nat.reduceAdd, Nat.reduceMul, Nat.reduceSub, reduceCtorEq, putAt, unE, Nat.reduceBEq, convE, buildE, List.replicate, Int.reduceLT, Int.reduceLE, Int.reduceToNat, mkE, mapSetE, hN, hF, ty_3, ty_9, ty_47, ty_79, notIf, isEq, votes_length]
  refine AWP.loop (fun k st => ∃ i : Nat, (i ≤ l.length ∧ ∀ k, k < i → isS n (l.getD k zeroV) = false) ∧ k = l.length - i ∧ st = ⟨[(0, .c (.sl (votes l))), (1, .clo 88 [[.int .i64 n]]), (7, .c (.int .i64 (l.length : Int))), (8, .c (.int .i64 (i : Int)))], []⟩) ⟨l.length, _, ?w, 0, ⟨Nat.zero_le _, fun k hk => absurd hk (by omega)⟩, rfl, rfl⟩ ?r
  case w =>
    rw [hns]
    simp only [runB, finC, finD, AS.get, AS.mem, false_implies, implies_true, ↓reduceIte, Nat.reduceEqDiff, Option.isSome_some, Option.isSome_none, forall_eq_or_imp, forall_eq, reduceCtorEq, Nat.reduceAdd, Nat.reduceMul, List.zip_cons_cons, List.zip_nil_left, List.zip_nil_right, List.forall_mem_nil]
    first | done | simp
  case r =>
    rintro k st ⟨i, ⟨hi, h8⟩, rfl, rfl⟩
    refine vc_sound hΓ mixed _ _ _ ?_
    by_cases hlt : i < l.length
    · have k1 : decide ((i : Int) < (l.length : Int)) = true := by simpa using hlt
      have e1 : IntKind.i64.wrap ((i : Int) + 1) = (i : Int) + 1 := wrapI (by omega)
      have hg := votesD l i hlt
      unfold Vt.pcs at hg
      have hd := frI_at (l.getD i zeroV) n
      cases hp : isS n (l.getD i zeroV) with
      | false =>
        have h8' : ∀ k, k < i + 1 → isS n (l.getD k zeroV) = false := fun k hk => by
          by_cases e : k = i
          · rw [e]; exact hp
          · exact h8 k (by omega)
        rw [hp] at hd
        generalize l.getD i zeroV = y at hg hd
        simp only [runA, runB, runC, runD, runE, runF, fieldE, storeE, binE, ↓reduceIte, Nat.reduceLT, Nat.reduceLeDiff, Nat.reduceEqDiff, Nat.reduceAdd, Nat.reduceMul, Nat.reduceSub, reduceCtorEq, putAt, unE, Nat.reduceBEq, convE, buildE, List.replicate, Int.reduceLT, Int.reduceLE, Int.reduceToNat, mkE, mapSetE, hN, hF, ty_3, ty_9, ty_47, ty_79, notIf, isEq, k1, e1, hg, h1, hd]
        refine ⟨l.length - (i + 1), _, by omega, ?_, i + 1, ⟨by omega, h8'⟩, rfl, rfl⟩
        rw [hns]
        simp only [runB, finC, finD, AS.get, AS.mem, false_implies, implies_true, ↓reduceIte, Nat.reduceEqDiff, Option.isSome_some, Option.isSome_none, forall_eq_or_imp, forall_eq, reduceCtorEq, Nat.reduceAdd, Nat.reduceMul, List.zip_cons_cons, List.zip_nil_left, List.zip_nil_right, List.forall_mem_nil]
        first | done | simp
      | true =>
        have hS := idxP_some hlt hp h8
        rw [hp] at hd
        generalize l.getD i zeroV = y at hg hd
        simp only [runA, runB, runC, runD, runE, runF, fieldE, storeE, binE, ↓reduceIte, Nat.reduceLT, Nat.reduceLeDiff, Nat.reduceEqDiff, Nat.reduceAdd, Nat.reduceMul, Nat.reduceSub, reduceCtorEq, putAt, unE, Nat.reduceBEq, convE, buildE, List.replicate, Int.reduceLT, Int.reduceLE, Int.reduceToNat, mkE, mapSetE, hN, hF, ty_3, ty_9, ty_47, ty_79, notIf, isEq, k1, e1, hg, h1, hd]
        simp only [runB, finC, finD, Option.isSome_some, Option.isSome_none, ↓reduceIte, Nat.reduceEqDiff, Nat.reduceAdd, Nat.reduceMul, forall_eq_or_imp, forall_eq, implies_true, Nat.reduceBEq, reduceCtorEq, false_implies, List.zip_cons_cons, List.zip_nil_left, List.zip_nil_right, Nat.reduceLeDiff, List.forall_mem_nil, rs_87, hS]
    · have k1 : decide ((i : Int) < (l.length : Int)) = false := by simpa using hlt
      obtain rfl : i = l.length := by omega
      have hS := idxP_none h8
      simp only [runA, runB, runC, runD, runE, runF, fieldE, storeE, binE, ↓reduceIte, Nat.reduceLT, Nat.reduceLeDiff, Nat.reduceEqDiff, Nat.reduceAdd, Nat.reduceMul, Nat.reduceSub, reduceCtorEq, putAt, unE, Nat.reduceBEq, convE, buildE, List.replicate, Int.reduceLT, Int.reduceLE, Int.reduceToNat, mkE, mapSetE, hN, hF, ty_3, ty_9, ty_47, ty_79, notIf, isEq, k1]
      simp only [runB, finC, finD, Option.isSome_some, Option.isSome_none, ↓reduceIte, Nat.reduceEqDiff, Nat.reduceAdd, Nat.reduceMul, forall_eq_or_imp, forall_eq, implies_true, Nat.reduceBEq, reduceCtorEq, false_implies, List.zip_cons_cons, List.zip_nil_left, List.zip_nil_right, Nat.reduceLeDiff, List.forall_mem_nil, rs_87, hS]
theorem idxP_cases {α : Type} (p : α → Bool) (l : List α) : idxP p l = -1 ∨ ∃ i : Nat, idxP p l = (i : Int) ∧ i < l.length := by
  unfold idxP
  cases h : l.findIdx? p with
  | none => exact .inl rfl
  | some i => exact .inr ⟨i, rfl, by rw [List.findIdx?_eq_some_iff_getElem] at h; exact h.1⟩
def fstV (l : List Vt) (n : Int) : Vt := if idxP (isS n) l < 0 then zeroV else l.getD (idxP (isS n) l).toNat zeroV
noncomputable def firC : Contract := mkC (α := Ct × Int) (fun q => q.1.vs.length ≤ 9223372036854775807) (fun q => [q.1.av, .c (.int .i64 q.2)]) (fun _ => []) (fun q => ⟨[.pv (fstV q.1.vs q.2).av, .pv (.c (.bool (!decide (idxP (isS q.2) q.1.vs < 0))))], []⟩)
theorem fir_at (c : Ct) (n : Int) (h : c.vs.length ≤ 9223372036854775807) : firC [.agg [.c (.int .i64 c.vw), .c (.int .i64 c.ht), .c (.str c.bl), .c (.sl (votes c.vs))], .c (.int .i64 n)] [] = some ⟨[.pv (fstV c.vs n).av, .pv (.c (.bool (!decide (idxP (isS n) c.vs < 0))))], []⟩ :=
  mkC_at (α := Ct × Int) (c, n) h (by
    rintro ⟨c', n'⟩ _ h _
    have h' : [c'.av, .c (.int .i64 n')] = [c.av, .c (.int .i64 n)] := h
    simp only [List.cons.injEq, AV.c.injEq, PC.int.injEq, true_and, and_true] at h'
    rw [Ct.av_inj h'.1, h'.2])

set_option maxRecDepth 100000 in
set_option maxHeartbeats 4000000 in
theorem fir_sound (hΓ : SoundG Try.prog Γ) (h1 : Γ 87 = frXC) : SoundC Try.prog 69 firC := by
  refine sound_fn Try.func69 (by kernel_rfl) rfl rfl ?_
  intro args objs r0 hr
  obtain ⟨⟨⟨cvw, cht, cbl, cvs⟩, n⟩, hl, rfl, rfl, rfl⟩ := mkC_inv hr
  refine ⟨rfl, by show 2 ≤ _; decide, fun E hN hns hF => ?_⟩
  refine vc_sound hΓ mixed _ _ _ ?_
  have hN := hN.trans nt_69
  have hl : cvs.length ≤ 9223372036854775807 := hl
  have q1 := frX_at cvs n hl
  unfold Ct.av fstV
  dsimp only
  rcases idxP_cases (isS n) cvs with he | ⟨i, he, hi⟩
  · rw [he] at q1 ⊢
    have k1 : decide ((-1 : Int) < 0) = true := by decide
    rw [if_pos (by decide)]
    simp only [runA, runB, runC, runD, runE, runF, fieldE, storeE, binE, ↓reduceIte, Nat.reduceLT, Nat.reduceLeDiff, Nat.reduceEqDiff, Nat.reduceAdd, Nat.reduceMul, Nat.reduceSub, reduceCtorEq, putAt, unE, Nat.reduceBEq, convE, buildE, List.replicate, Int.reduceLT, Int.reduceLE, Int.reduceToNat, mkE, mapSetE, hN, hF, ty_3, ty_4, ty_9, ty_47, ty_79, ty_81, notIf, isEq, h1, q1, k1, op_makeFuncC, capE_ptr, capE_nil, Array.toList, List.map_cons, List.map_nil]
    iterate 2 (try (refine drawnP_intro (by kernel_rfl) (by kernel_rfl) ?_; simp only [runA, runB, runC, runD, runE, runF, fieldE, storeE, binE, ↓reduceIte, Nat.reduceLT, Nat.reduceLeDiff, Nat.reduceEqDiff, Nat.reduceAdd, Nat.reduceMul, Nat.reduceSub, reduceCtorEq, putAt, unE, Nat.reduceBEq, convE, buildE, List.replicate, Int.reduceLT, Int.reduceLE, Int.reduceToNat, mkE, mapSetE, hN, hF, ty_3, ty_4, ty_9, ty_47, ty_79, ty_81, notIf, isEq, h1, q1, k1, op_makeFuncC, capE_ptr, capE_nil]))
    simp only [runB, finC, finD, Option.isSome_some, Option.isSome_none, ↓reduceIte, Nat.reduceEqDiff, Nat.reduceAdd, Nat.reduceMul, forall_eq_or_imp, forall_eq, implies_true, Nat.reduceBEq, reduceCtorEq, false_implies, List.zip_cons_cons, List.zip_nil_left, List.zip_nil_right, Nat.reduceLeDiff, List.forall_mem_nil, rs_69, agg_47, sz_47, zeroV, Vt.av]
  · rw [he] at q1 ⊢
    have k1 : decide ((i : Int) < 0) = false := decide_eq_false (by omega)
    have hg := votesD cvs i hi
    unfold Vt.pcs at hg
    rw [if_neg (by omega), Int.toNat_natCast]
    have hi2 : ((i : Int) < (cvs.length : Int)) = True := eq_true (by omega)
    have hvl := votes_length cvs
    generalize cvs.getD i zeroV = y at hg ⊢
    simp only [runA, runB, runC, runD, runE, runF, fieldE, storeE, binE, ↓reduceIte, Nat.reduceLT, Nat.reduceLeDiff, Nat.reduceEqDiff, Nat.reduceAdd, Nat.reduceMul, Nat.reduceSub, reduceCtorEq, putAt, unE, Nat.reduceBEq, convE, buildE, List.replicate, Int.reduceLT, Int.reduceLE, Int.reduceToNat, mkE, mapSetE, hN, hF, ty_3, ty_4, ty_9, ty_47, ty_79, ty_81, notIf, isEq, h1, q1, k1, hg, hi2, hvl, op_makeFuncC, capE_ptr, capE_nil, Array.toList, List.map_cons, List.map_nil]
    iterate 2 (try (refine drawnP_intro (by kernel_rfl) (by kernel_rfl) ?_; simp only [runA, runB, runC, runD, runE, runF, fieldE, storeE, binE, ↓reduceIte, Nat.reduceLT, Nat.reduceLeDiff, Nat.reduceEqDiff, Nat.reduceAdd, Nat.reduceMul, Nat.reduceSub, reduceCtorEq, putAt, unE, Nat.reduceBEq, convE, buildE, List.replicate, Int.reduceLT, Int.reduceLE, Int.reduceToNat, mkE, mapSetE, hN, hF, ty_3, ty_4, ty_9, ty_47, ty_79, ty_81, notIf, isEq, h1, q1, k1, hg, hi2, hvl, op_makeFuncC, capE_ptr, capE_nil]))
    simp only [runB, finC, finD, Option.isSome_some, Option.isSome_none, ↓reduceIte, Nat.reduceEqDiff, Nat.reduceAdd, Nat.reduceMul, forall_eq_or_imp, forall_eq, implies_true, Nat.reduceBEq, reduceCtorEq, false_implies, List.zip_cons_cons, List.zip_nil_left, List.zip_nil_right, Nat.reduceLeDiff, List.forall_mem_nil, rs_69, agg_47, sz_47, Vt.av]


variable {Γ : FuncId → Contract}

noncomputable def sgnIC : Contract := mkC (α := Ct × Int) (fun q => q.1.vs.length ≤ 9223372036854775807) (fun q => [q.1.av, .c (.int .i64 q.2)]) (fun _ => []) (fun q => ⟨[.pv (.c (.int .i64 (idxP (isS q.2) q.1.vs)))], []⟩)
theorem sgnI_at (c : Ct) (n : Int) (h : c.vs.length ≤ 9223372036854775807) : sgnIC [.agg [.c (.int .i64 c.vw), .c (.int .i64 c.ht), .c (.str c.bl), .c (.sl (votes c.vs))], .c (.int .i64 n)] [] = some ⟨[.pv (.c (.int .i64 (idxP (isS n) c.vs)))], []⟩ :=
  mkC_at (α := Ct × Int) (c, n) h (by
    rintro ⟨c', n'⟩ _ h _
    have h' : [c'.av, .c (.int .i64 n')] = [c.av, .c (.int .i64 n)] := h
    simp only [List.cons.injEq, AV.c.injEq, PC.int.injEq, true_and, and_true] at h'
    rw [Ct.av_inj h'.1, h'.2])

set_option maxRecDepth 100000 in
set_option maxHeartbeats 4000000 in
theorem sgnI_sound  : SoundC Try.prog 41 sgnIC := by
  refine sound_fn Try.func41 (by kernel_rfl) rfl rfl ?_
  intro args objs r0 hr
  obtain ⟨⟨⟨cvw, cht, cbl, cvs⟩, n⟩, hl, rfl, rfl, rfl⟩ := mkC_inv hr
  refine ⟨rfl, by show 2 ≤ _; decide, fun E hN hns hF => ?_⟩
  refine vc_sound none0_sound mixed _ _ _ ?_
  have hN := hN.trans nt_41
  have hl : cvs.length ≤ 9223372036854775807 := hl
  unfold Ct.av
  dsimp only
  have hvl := votes_length cvs
  simp only [runA, runB, runC, runD, runE, runF, fieldE, storeE, binE, ↓reduceIte, Nat.reduceLT, Nat.reduceLeDiff, Nat.reduceEqDiff, Nat.reduceAdd, Nat.reduceMul, Nat.reduceSub, reduceCtorEq, putAt, unE, Nat.reduceBEq, convE, buildE, List.replicate, Int.reduceLT, Int.reduceLE, Int.reduceToNat, mkE, mapSetE, hN, hF, ty_3, ty_9, ty_47, ty_79, ty_81, notIf, isEq]
  refine AWP.loop (fun k st => ∃ i : Nat, (i ≤ cvs.length ∧ ∀ k, k < i → isS n (cvs.getD k zeroV) = false) ∧ k = cvs.length - i ∧ st = ⟨[(0, .agg [.c (.int .i64 cvw), .c (.int .i64 cht), .c (.str cbl), .c (.sl (votes cvs))]), (1, .c (.int .i64 n)), (2, .ptr 128 0), (4, .c (.int .i64 0)), (5, .c (.int .i64 (i : Int)))],
    [(128, .obj [.c (.int .i64 cvw), .c (.int .i64 cht), .c (.str cbl), .c (.sl (votes cvs))] false)]⟩) ⟨cvs.length, _, ?w, 0, ⟨Nat.zero_le _, fun k hk => absurd hk (by omega)⟩, rfl, rfl⟩ ?r
  case w =>
    rw [hns]
    simp only [runB, finC, finD, AS.get, AS.mem, false_implies, implies_true, ↓reduceIte, Nat.reduceEqDiff, Option.isSome_some, Option.isSome_none, forall_eq_or_imp, forall_eq, reduceCtorEq, Nat.reduceAdd, Nat.reduceMul, List.zip_cons_cons, List.zip_nil_left, List.zip_nil_right, List.forall_mem_nil]
    first | done | simp
  case r =>
    rintro k st ⟨i, ⟨hi, h8⟩, rfl, rfl⟩
    refine vc_sound none0_sound mixed _ _ _ ?_
    by_cases hlt : i < cvs.length
    · have k1 : decide ((i : Int) < (cvs.length : Int)) = true := by simpa using hlt
      have e1 : IntKind.i64.wrap ((i : Int) + 1) = (i : Int) + 1 := wrapI (by omega)
      have hi2 : ((i : Int) < (cvs.length : Int)) = True := eq_true (by omega)
      have hg := votesD cvs i hlt
      unfold Vt.pcs at hg
      have h8' : isS n (cvs.getD i zeroV) = false → ∀ k, k < i + 1 → isS n (cvs.getD k zeroV) = false := fun hp k hk => by
        by_cases e : k = i
        · rw [e]; exact hp
        · exact h8 k (by omega)
      have hS := fun hp => idxP_some hlt (p := isS n) (d := zeroV) hp h8
      unfold isS at hS h8'
      generalize cvs.getD i zeroV = y at hg hS h8'
      obtain ⟨kd, vw, ht, bl, tk, sg, sig⟩ := y
      dsimp only at hg hS h8'
      cases p1 : kd == 1 with
      | false =>
        rw [p1] at h8'
        simp only [runA, runB, runC, runD, runE, runF, fieldE, storeE, binE, ↓reduceIte, Nat.reduceLT, Nat.reduceLeDiff, Nat.reduceEqDiff, Nat.reduceAdd, Nat.reduceMul, Nat.reduceSub, reduceCtorEq, putAt, unE, Nat.reduceBEq, convE, buildE, List.replicate, Int.reduceLT, Int.reduceLE, Int.reduceToNat, mkE, mapSetE, hN, hF, ty_3, ty_9, ty_47, ty_79, ty_81, notIf, isEq, k1, e1, hg, hi2, hvl, p1]
        iterate 2 (try (refine drawnP_intro (by kernel_rfl) (by kernel_rfl) ?_; simp only [runA, runB, runC, runD, runE, runF, fieldE, storeE, binE, ↓reduceIte, Nat.reduceLT, Nat.reduceLeDiff, Nat.reduceEqDiff, Nat.reduceAdd, Nat.reduceMul, Nat.reduceSub, reduceCtorEq, putAt, unE, Nat.reduceBEq, convE, buildE, List.replicate, Int.reduceLT, Int.reduceLE, Int.reduceToNat, mkE, mapSetE, hN, hF, ty_3, ty_9, ty_47, ty_79, ty_81, notIf, isEq, k1, e1, hg, hi2, hvl, p1]))
        refine ⟨cvs.length - (i + 1), _, by omega, ?_, i + 1, ⟨by omega, h8' rfl⟩, rfl, rfl⟩
        rw [hns]
        simp only [runB, finC, finD, AS.get, AS.mem, false_implies, implies_true, ↓reduceIte, Nat.reduceEqDiff, Option.isSome_some, Option.isSome_none, forall_eq_or_imp, forall_eq, reduceCtorEq, Nat.reduceAdd, Nat.reduceMul, List.zip_cons_cons, List.zip_nil_left, List.zip_nil_right, List.forall_mem_nil]
        first | done | simp
      | true =>
        cases p2 : sg == n with
        | false =>
          rw [p1, p2] at h8'
          simp only [runA, runB, runC, runD, runE, runF, fieldE, storeE, binE, ↓reduceIte, Nat.reduceLT, Nat.reduceLeDiff, Nat.reduceEqDiff, Nat.reduceAdd, Nat.reduceMul, Nat.reduceSub, reduceCtorEq, putAt, unE, Nat.reduceBEq, convE, buildE, List.replicate, Int.reduceLT, Int.reduceLE, Int.reduceToNat, mkE, mapSetE, hN, hF, ty_3, ty_9, ty_47, ty_79, ty_81, notIf, isEq, k1, e1, hg, hi2, hvl, p1, p2]
          iterate 2 (try (refine drawnP_intro (by kernel_rfl) (by kernel_rfl) ?_; simp only [runA, runB, runC, runD, runE, runF, fieldE, storeE, binE, ↓reduceIte, Nat.reduceLT, Nat.reduceLeDiff, Nat.reduceEqDiff, Nat.reduceAdd, Nat.reduceMul, Nat.reduceSub, reduceCtorEq, putAt, unE, Nat.reduceBEq, convE, buildE, List.replicate, Int.reduceLT, Int.reduceLE, Int.reduceToNat, mkE, mapSetE, hN, hF, ty_3, ty_9, ty_47, ty_79, ty_81, notIf, isEq, k1, e1, hg, hi2, hvl, p1, p2]))
          refine ⟨cvs.length - (i + 1), _, by omega, ?_, i + 1, ⟨by omega, h8' rfl⟩, rfl, rfl⟩
          rw [hns]
          simp only [runB, finC, finD, AS.get, AS.mem, false_implies, implies_true, ↓reduceIte, Nat.reduceEqDiff, Option.isSome_some, Option.isSome_none, forall_eq_or_imp, forall_eq, reduceCtorEq, Nat.reduceAdd, Nat.reduceMul, List.zip_cons_cons, List.zip_nil_left, List.zip_nil_right, List.forall_mem_nil]
          first | done | simp
        | true =>
          rw [p1, p2] at hS
          have hS' := hS rfl
          simp only [runA, runB, runC, runD, runE, runF, fieldE, storeE, binE, ↓reduceIte, Nat.reduceLT, Nat.reduceLeDiff, Nat.reduceEqDiff, Nat.reduceAdd, Nat.reduceMul, Nat.reduceSub, reduceCtorEq, putAt, unE, Nat.reduceBEq, convE, buildE, List.replicate, Int.reduceLT, Int.reduceLE, Int.reduceToNat, mkE, mapSetE, hN, hF, ty_3, ty_9, ty_47, ty_79, ty_81, notIf, isEq, k1, e1, hg, hi2, hvl, p1, p2]
          iterate 2 (try (refine drawnP_intro (by kernel_rfl) (by kernel_rfl) ?_; simp only [runA, runB, runC, runD, runE, runF, fieldE, storeE, binE, ↓reduceIte, Nat.reduceLT, Nat.reduceLeDiff, Nat.reduceEqDiff, Nat.reduceAdd, Nat.reduceMul, Nat.reduceSub, reduceCtorEq, putAt, unE, Nat.reduceBEq, convE, buildE, List.replicate, Int.reduceLT, Int.reduceLE, Int.reduceToNat, mkE, mapSetE, hN, hF, ty_3, ty_9, ty_47, ty_79, ty_81, notIf, isEq, k1, e1, hg, hi2, hvl, p1, p2]))
          have hE : idxP (isS n) cvs = (i : Int) := hS'
          simp only [runB, finC, finD, Option.isSome_some, Option.isSome_none, ↓reduceIte, Nat.reduceEqDiff, Nat.reduceAdd, Nat.reduceMul, forall_eq_or_imp, forall_eq, implies_true, Nat.reduceBEq, reduceCtorEq, false_implies, List.zip_cons_cons, List.zip_nil_left, List.zip_nil_right, Nat.reduceLeDiff, List.forall_mem_nil, rs_41, hE]
    · have k1 : decide ((i : Int) < (cvs.length : Int)) = false := by simpa using hlt
      obtain rfl : i = cvs.length := by omega
      have hS := idxP_none h8
      simp only [runA, runB, runC, runD, runE, runF, fieldE, storeE, binE, ↓reduceIte, Nat.reduceLT, Nat.reduceLeDiff, Nat.reduceEqDiff, Nat.reduceAdd, Nat.reduceMul, Nat.reduceSub, reduceCtorEq, putAt, unE, Nat.reduceBEq, convE, buildE, List.replicate, Int.reduceLT, Int.reduceLE, Int.reduceToNat, mkE, mapSetE, hN, hF, ty_3, ty_9, ty_47, ty_79, ty_81, notIf, isEq, k1, hvl]
      simp only [runB, finC, finD, Option.isSome_some, Option.isSome_none, ↓reduceIte, Nat.reduceEqDiff, Nat.reduceAdd, Nat.reduceMul, forall_eq_or_imp, forall_eq, implies_true, Nat.reduceBEq, reduceCtorEq, false_implies, List.zip_cons_cons, List.zip_nil_left, List.zip_nil_right, Nat.reduceLeDiff, List.forall_mem_nil, rs_41, hS]
def fewS (r q : Int) : Int := if r < 1 ∨ 7 < r ∨ q < 1 ∨ r < q then 0 else if 0 > 2 * q - r then 0 else 2 * q - r
noncomputable def fewC : Contract := mkC (α := Int × Int) (fun _ => True) (fun q => [.c (.int .i64 q.1), .c (.int .i64 q.2)]) (fun _ => []) (fun q => ⟨[.pv (.c (.int .i64 (fewS q.1 q.2)))], []⟩)
theorem few_at (r q : Int) : fewC [.c (.int .i64 r), .c (.int .i64 q)] [] = some ⟨[.pv (.c (.int .i64 (fewS r q)))], []⟩ :=
  mkC_at (α := Int × Int) (r, q) trivial (by
    rintro ⟨c', n'⟩ _ h _
    simp only [List.cons.injEq, AV.c.injEq, PC.int.injEq, true_and, and_true] at h
    rw [h.1, h.2])

set_option maxRecDepth 100000 in
set_option maxHeartbeats 4000000 in
theorem few_sound  : SoundC Try.prog 42 fewC := by
  refine sound_fn Try.func42 (by kernel_rfl) rfl rfl ?_
  intro args objs r0 hr
  obtain ⟨⟨r, q⟩, _, rfl, rfl, rfl⟩ := mkC_inv hr
  refine ⟨rfl, by show 2 ≤ _; decide, fun E hN hns hF => ?_⟩
  refine vc_sound none0_sound mixed _ _ _ ?_
  have hN := hN.trans nt_42
  dsimp only
  by_cases c1 : r < 1
  · have b1 : decide (r < 1) = true := decide_eq_true c1
    rw [show fewS r q = 0 from if_pos (by omega)]
    simp only [runA, runB, runC, runD, runE, runF, fieldE, storeE, binE, ↓reduceIte, Nat.reduceLT, Nat.reduceLeDiff, Nat.reduceEqDiff, Nat.reduceAdd, Nat.reduceMul, Nat.reduceSub, reduceCtorEq, putAt, unE, Nat.reduceBEq, convE, buildE, List.replicate, Int.reduceLT, Int.reduceLE, Int.reduceToNat, mkE, mapSetE, hN, hF, ty_3, notIf, isEq, b1]
    iterate 2 (try (refine drawnP_intro (by kernel_rfl) (by kernel_rfl) ?_; simp only [runA, runB, runC, runD, runE, runF, fieldE, storeE, binE, ↓reduceIte, Nat.reduceLT, Nat.reduceLeDiff, Nat.reduceEqDiff, Nat.reduceAdd, Nat.reduceMul, Nat.reduceSub, reduceCtorEq, putAt, unE, Nat.reduceBEq, convE, buildE, List.replicate, Int.reduceLT, Int.reduceLE, Int.reduceToNat, mkE, mapSetE, hN, hF, ty_3, notIf, isEq, b1]))
    simp only [runB, finC, finD, Option.isSome_some, Option.isSome_none, ↓reduceIte, Nat.reduceEqDiff, Nat.reduceAdd, Nat.reduceMul, forall_eq_or_imp, forall_eq, implies_true, Nat.reduceBEq, reduceCtorEq, false_implies, List.zip_cons_cons, List.zip_nil_left, List.zip_nil_right, Nat.reduceLeDiff, List.forall_mem_nil, rs_42]
  have b1 : decide (r < 1) = false := decide_eq_false c1
  by_cases c2 : 7 < r
  · have b2 : decide (r > 7) = true := decide_eq_true c2
    rw [show fewS r q = 0 from if_pos (by omega)]
    simp only [runA, runB, runC, runD, runE, runF, fieldE, storeE, binE, ↓reduceIte, Nat.reduceLT, Nat.reduceLeDiff, Nat.reduceEqDiff, Nat.reduceAdd, Nat.reduceMul, Nat.reduceSub, reduceCtorEq, putAt, unE, Nat.reduceBEq, convE, buildE, List.replicate, Int.reduceLT, Int.reduceLE, Int.reduceToNat, mkE, mapSetE, hN, hF, ty_3, notIf, isEq, b1, b2]
    iterate 2 (try (refine drawnP_intro (by kernel_rfl) (by kernel_rfl) ?_; simp only [runA, runB, runC, runD, runE, runF, fieldE, storeE, binE, ↓reduceIte, Nat.reduceLT, Nat.reduceLeDiff, Nat.reduceEqDiff, Nat.reduceAdd, Nat.reduceMul, Nat.reduceSub, reduceCtorEq, putAt, unE, Nat.reduceBEq, convE, buildE, List.replicate, Int.reduceLT, Int.reduceLE, Int.reduceToNat, mkE, mapSetE, hN, hF, ty_3, notIf, isEq, b1, b2]))
    simp only [runB, finC, finD, Option.isSome_some, Option.isSome_none, ↓reduceIte, Nat.reduceEqDiff, Nat.reduceAdd, Nat.reduceMul, forall_eq_or_imp, forall_eq, implies_true, Nat.reduceBEq, reduceCtorEq, false_implies, List.zip_cons_cons, List.zip_nil_left, List.zip_nil_right, Nat.reduceLeDiff, List.forall_mem_nil, rs_42]
  have b2 : decide (r > 7) = false := decide_eq_false c2
  by_cases c3 : q < 1
  · have b3 : decide (q < 1) = true := decide_eq_true c3
    rw [show fewS r q = 0 from if_pos (by omega)]
    simp only [runA, runB, runC, runD, runE, runF, fieldE, storeE, binE, ↓reduceIte, Nat.reduceLT, Nat.reduceLeDiff, Nat.reduceEqDiff, Nat.reduceAdd, Nat.reduceMul, Nat.reduceSub, reduceCtorEq, putAt, unE, Nat.reduceBEq, convE, buildE, List.replicate, Int.reduceLT, Int.reduceLE, Int.reduceToNat, mkE, mapSetE, hN, hF, ty_3, notIf, isEq, b1, b2, b3]
    iterate 2 (try (refine drawnP_intro (by kernel_rfl) (by kernel_rfl) ?_; simp only [runA, runB, runC, runD, runE, runF, fieldE, storeE, binE, ↓reduceIte, Nat.reduceLT, Nat.reduceLeDiff, Nat.reduceEqDiff, Nat.reduceAdd, Nat.reduceMul, Nat.reduceSub, reduceCtorEq, putAt, unE, Nat.reduceBEq, convE, buildE, List.replicate, Int.reduceLT, Int.reduceLE, Int.reduceToNat, mkE, mapSetE, hN, hF, ty_3, notIf, isEq, b1, b2, b3]))
    simp only [runB, finC, finD, Option.isSome_some, Option.isSome_none, ↓reduceIte, Nat.reduceEqDiff, Nat.reduceAdd, Nat.reduceMul, forall_eq_or_imp, forall_eq, implies_true, Nat.reduceBEq, reduceCtorEq, false_implies, List.zip_cons_cons, List.zip_nil_left, List.zip_nil_right, Nat.reduceLeDiff, List.forall_mem_nil, rs_42]
  have b3 : decide (q < 1) = false := decide_eq_false c3
  by_cases c4 : r < q
  · have b4 : decide (q > r) = true := decide_eq_true c4
    rw [show fewS r q = 0 from if_pos (by omega)]
    simp only [runA, runB, runC, runD, runE, runF, fieldE, storeE, binE, ↓reduceIte, Nat.reduceLT, Nat.reduceLeDiff, Nat.reduceEqDiff, Nat.reduceAdd, Nat.reduceMul, Nat.reduceSub, reduceCtorEq, putAt, unE, Nat.reduceBEq, convE, buildE, List.replicate, Int.reduceLT, Int.reduceLE, Int.reduceToNat, mkE, mapSetE, hN, hF, ty_3, notIf, isEq, b1, b2, b3, b4]
    iterate 2 (try (refine drawnP_intro (by kernel_rfl) (by kernel_rfl) ?_; simp only [runA, runB, runC, runD, runE, runF, fieldE, storeE, binE, ↓reduceIte, Nat.reduceLT, Nat.reduceLeDiff, Nat.reduceEqDiff, Nat.reduceAdd, Nat.reduceMul, Nat.reduceSub, reduceCtorEq, putAt, unE, Nat.reduceBEq, convE, buildE, List.replicate, Int.reduceLT, Int.reduceLE, Int.reduceToNat, mkE, mapSetE, hN, hF, ty_3, notIf, isEq, b1, b2, b3, b4]))
    simp only [runB, finC, finD, Option.isSome_some, Option.isSome_none, ↓reduceIte, Nat.reduceEqDiff, Nat.reduceAdd, Nat.reduceMul, forall_eq_or_imp, forall_eq, implies_true, Nat.reduceBEq, reduceCtorEq, false_implies, List.zip_cons_cons, List.zip_nil_left, List.zip_nil_right, Nat.reduceLeDiff, List.forall_mem_nil, rs_42]
  have b4 : decide (q > r) = false := decide_eq_false (by omega)
  have w1 : IntKind.i64.wrap (2 * q) = 2 * q := wrapI (by omega)
  have w2 : IntKind.i64.wrap (2 * q - r) = 2 * q - r := wrapI (by omega)
  rw [show fewS r q = if 0 > 2 * q - r then 0 else 2 * q - r from if_neg (by omega)]
  by_cases c5 : 0 > 2 * q - r
  · have b5 : (0 > 2 * q - r) = True := eq_true c5
    rw [if_pos c5]
    simp only [runA, runB, runC, runD, runE, runF, fieldE, storeE, binE, ↓reduceIte, Nat.reduceLT, Nat.reduceLeDiff, Nat.reduceEqDiff, Nat.reduceAdd, Nat.reduceMul, Nat.reduceSub, reduceCtorEq, putAt, unE, Nat.reduceBEq, convE, buildE, List.replicate, Int.reduceLT, Int.reduceLE, Int.reduceToNat, mkE, mapSetE, hN, hF, ty_3, notIf, isEq, b1, b2, b3, b4, w1, w2, mm, b5, c5]
    iterate 2 (try (refine drawnP_intro (by kernel_rfl) (by kernel_rfl) ?_; simp only [runA, runB, runC, runD, runE, runF, fieldE, storeE, binE, ↓reduceIte, Nat.reduceLT, Nat.reduceLeDiff, Nat.reduceEqDiff, Nat.reduceAdd, Nat.reduceMul, Nat.reduceSub, reduceCtorEq, putAt, unE, Nat.reduceBEq, convE, buildE, List.replicate, Int.reduceLT, Int.reduceLE, Int.reduceToNat, mkE, mapSetE, hN, hF, ty_3, notIf, isEq, b1, b2, b3, b4, w1, w2, mm, b5, c5]))
    simp only [runB, finC, finD, Option.isSome_some, Option.isSome_none, ↓reduceIte, Nat.reduceEqDiff, Nat.reduceAdd, Nat.reduceMul, forall_eq_or_imp, forall_eq, implies_true, Nat.reduceBEq, reduceCtorEq, false_implies, List.zip_cons_cons, List.zip_nil_left, List.zip_nil_right, Nat.reduceLeDiff, List.forall_mem_nil, rs_42]
  · have b5 : (0 > 2 * q - r) = False := eq_false c5
    rw [if_neg c5]
    simp only [runA, runB, runC, runD, runE, runF, fieldE, storeE, binE, ↓reduceIte, Nat.reduceLT, Nat.reduceLeDiff, Nat.reduceEqDiff, Nat.reduceAdd, Nat.reduceMul, Nat.reduceSub, reduceCtorEq, putAt, unE, Nat.reduceBEq, convE, buildE, List.replicate, Int.reduceLT, Int.reduceLE, Int.reduceToNat, mkE, mapSetE, hN, hF, ty_3, notIf, isEq, b1, b2, b3, b4, w1, w2, mm, b5, c5]
    iterate 2 (try (refine drawnP_intro (by kernel_rfl) (by kernel_rfl) ?_; simp only [runA, runB, runC, runD, runE, runF, fieldE, storeE, binE, ↓reduceIte, Nat.reduceLT, Nat.reduceLeDiff, Nat.reduceEqDiff, Nat.reduceAdd, Nat.reduceMul, Nat.reduceSub, reduceCtorEq, putAt, unE, Nat.reduceBEq, convE, buildE, List.replicate, Int.reduceLT, Int.reduceLE, Int.reduceToNat, mkE, mapSetE, hN, hF, ty_3, notIf, isEq, b1, b2, b3, b4, w1, w2, mm, b5, c5]))
    simp only [runB, finC, finD, Option.isSome_some, Option.isSome_none, ↓reduceIte, Nat.reduceEqDiff, Nat.reduceAdd, Nat.reduceMul, forall_eq_or_imp, forall_eq, implies_true, Nat.reduceBEq, reduceCtorEq, false_implies, List.zip_cons_cons, List.zip_nil_left, List.zip_nil_right, Nat.reduceLeDiff, List.forall_mem_nil, rs_42]
def alive42C : Contract := fun args objs => match args, objs with | [], [] => some ⟨[.pv (.c (.bool true))], []⟩ | _, _ => none
set_option maxHeartbeats 1000000 in
theorem alive42_sound (hΓ : SoundG Try.prog Γ) (h1 : Γ 42 = fewC) : SoundC Try.prog 43 alive42C := by
  refine sound_fn Try.func43 (by kernel_rfl) rfl rfl ?_
  intro args objs r hr
  unfold alive42C at hr
  split at hr
  · cases hr
    refine ⟨rfl, by show 0 ≤ _; decide, fun E hN hns hF => ?_⟩
    refine vc_sound hΓ mixed _ _ _ ?_
    have hN := hN.trans nt_43
    have q1 := few_at 4 3
    rw [show fewS 4 3 = 2 from by decide] at q1
    have b1 : ((2 : Int) == 2) = true := rfl
    simp only [runA, runB, runC, runD, runE, runF, fieldE, storeE, binE, ↓reduceIte, Nat.reduceLT, Nat.reduceLeDiff, Nat.reduceEqDiff, Nat.reduceAdd, Nat.reduceMul, Nat.reduceSub, reduceCtorEq, putAt, unE, Nat.reduceBEq, convE, buildE, List.replicate, Int.reduceLT, Int.reduceLE, Int.reduceToNat, mkE, mapSetE, hN, hF, ty_3, ty_4, notIf, isEq, h1, q1, b1]
    simp only [runB, finC, finD, Option.isSome_some, Option.isSome_none, ↓reduceIte, Nat.reduceEqDiff, Nat.reduceAdd, Nat.reduceMul, forall_eq_or_imp, forall_eq, implies_true, Nat.reduceBEq, reduceCtorEq, false_implies, List.zip_cons_cons, List.zip_nil_left, List.zip_nil_right, Nat.reduceLeDiff, List.forall_mem_nil, rs_43]
  · cases hr

end Go.Proofs.Ytcfijanfcgnnhaa.AM
