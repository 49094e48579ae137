/-
  QS: TrB TrC TrD TrE TrF TrG.
-/
import Derived.Test.YtenmlgalcjkdbaaGreatQR
set_option linter.unusedVariables false
set_option linter.unusedSimpArgs false
namespace Go.Proofs.YtenmlgalcjkdbaaGreat.AM
open Go

variable {Γ : FuncId → Contract}


theorem atB_nil {l : List Blk} (hok : ∀ b ∈ l, okB b) : atB l [] = none := by
  unfold atB
  rw [List.find?_eq_none]
  intro b hb
  have := nameS_len (hok b hb)
  cases hn : nameS b with
  | nil => rw [hn] at this; cases this
  | cons => simp
theorem atI_none {l : List Blk} {nm : List UInt8} (h : atB l nm = none) : atI l nm = -1 := by
  unfold atI
  split
  · rfl
  · unfold idxP
    have : l.findIdx? (nmIs nm) = none := by
      rw [List.findIdx?_eq_none_iff]
      intro x hx
      have := (List.find?_eq_none.1 h) x hx
      simpa [nmIs] using this
    rw [this]
theorem atI_some {l : List Blk} (hok : ∀ b ∈ l, okB b) {nm : List UInt8} {b : Blk} (h : atB l nm = some b) : ∃ i : Nat, i < l.length ∧ atI l nm = (i : Int) ∧ l.getD i zeroBk = b := by
  have hne : nm ≠ [] := by
    rintro rfl
    rw [atB_nil hok] at h
    cases h
  unfold atI
  rw [if_neg hne]
  unfold atB at h
  unfold idxP
  cases hf : l.findIdx? (nmIs nm) with
  | none =>
    rw [List.findIdx?_eq_none_iff] at hf
    have h1 := hf b (List.mem_of_find?_eq_some h)
    have h2 := List.find?_some h
    unfold nmIs at h1
    rw [h2] at h1
    cases h1
  | some i =>
    obtain ⟨h1, h2, h3⟩ := List.findIdx?_eq_some_iff_getElem.1 hf
    refine ⟨i, h1, rfl, ?_⟩
    rw [List.getD, List.getElem?_eq_getElem h1]
    rw [List.find?_eq_some_iff_getElem] at h
    obtain ⟨k1, j, k2, rfl, k3⟩ := h
    have : i = j := by
      rcases Nat.lt_trichotomy i j with hij | hij | hij
      · have := k3 i hij
        unfold nmIs at h2
        rw [h2] at this
        cases this
      · exact hij
      · have := h3 j hij
        unfold nmIs at this
        rw [k1] at this
        exact absurd rfl this
    subst this
    rfl
/-- From a block down, put ahead: the reference's chain. -/
noncomputable def refC (l : List Blk) : Nat → List Blk → List UInt8 → Int → Int → List Blk × Bool
  | 0, _, _, _, _ => ([], false)
  | f + 1, out, nm, h, v => match atB l nm with
    | none => if nm == genS then (if decide (0 < out.length) && (h != 0 || v != 0) then ([], false) else (out, true)) else ([], false)
    | some b => if decide (0 < out.length) && (b.ht != h || b.vw != v) then ([], false) else refC l f (b :: out) b.pa (IntKind.i64.wrap (b.ht - 1)) b.ju.vw
noncomputable def chS (l : List Blk) (nm : List UInt8) : List Blk × Bool := refC l (l.length + 2) [] nm (-1) 0
def okR (l : List Blk) : Prop := okTl l ∧ l.length ≤ 1048576 ∧ ∀ b ∈ l, okB b
noncomputable def rchC : Contract := mkC (α := List Blk × List UInt8) (fun p => okR p.1) (fun p => [.c (.sl (brows p.1)), .c (.str p.2)]) (fun p => []) (fun p => ⟨[.pv (.c (.sl (brows (chS p.1 p.2).1))), .pv (.c (.bool (chS p.1 p.2).2))], []⟩)
theorem rch_at (l : List Blk) (s : List UInt8) (g0 : okR l) : rchC [.c (.sl (brows l)), .c (.str s)] [] = some ⟨[.pv (.c (.sl (brows (chS l s).1))), .pv (.c (.bool (chS l s).2))], []⟩ := by
  exact mkC_at (α := List Blk × List UInt8) (l, s) g0 (by
    rintro ⟨l', s'⟩ _ h ho
    have hh := And.intro h ho
    clear h ho
    simp only [List.cons.injEq, AV.c.injEq, AV.agg.injEq, PC.int.injEq, PC.str.injEq, PC.bool.injEq, PC.sl.injEq, OV.c.injEq, OV.own.injEq, OV.mp.injEq, bytes_iff, texts_iff, true_and, and_true, and_self, beq_self_eq_true, brows_iff] at hh
    simp only [hh])

set_option maxRecDepth 100000 in
set_option maxHeartbeats 4000000 in
theorem rch_sound (hΓ : SoundG Tryz.prog Γ) (h1 : Γ 9 = genC) (h2 : Γ 127 = at14C) : SoundC Tryz.prog 73 rchC := by
  refine sound_fn Tryz.func73 (by kernel_rfl) rfl rfl ?_
  intro args objs r0 hr
  obtain ⟨⟨l, s⟩, hl, rfl, rfl, rfl⟩ := mkC_inv hr
  refine ⟨rfl, by show 2 ≤ _; decide, fun E hN hns hF => ?_⟩
  refine vc_sound hΓ mixed _ _ _ ?_
  have hN := hN.trans nt_73
  have hl : okR l := hl
  obtain ⟨htl, hll, hok⟩ := hl
  dsimp only
  have q1 : genC [] [] = some ⟨[.pv (.c (.str genS))], []⟩ := rfl
  have e0 : IntKind.i64.wrap ((l.length : Int) + 1) = (l.length : Int) + 1 := wrapI (by omega)
  obtain ⟨R, hR⟩ : ∃ R, R = chS l s := ⟨_, rfl⟩
  rw [← hR]
  simp only [runA, runB, runC, runD, runE, runF, fieldE, storeE, binE, ↓reduceIte, Nat.reduceLT, Nat.reduceLeDiff, Nat.reduceEqDiff, Nat.reduceAdd, Nat.reduceMul, Nat.reduceSub, reduceCtorEq, putAt, unE, Nat.reduceBEq, convE, buildE, List.replicate, Int.reduceLT, Int.reduceLE, Int.reduceToNat, mkE, mapSetE, hN, hF, ty_3, ty_4, ty_9, ty_22, ty_29, ty_31, ty_33, ty_57, notIf, isEq]
  refine AWP.loop (fun k st => ∃ (i : Nat) (out : List Blk) (nm : List UInt8) (h v : Int), i ≤ l.length + 2 ∧ out.length ≤ i ∧ k = l.length + 2 - i ∧ refC l k out nm h v = R ∧ st = ⟨[(0, .c (.sl (brows l))), (1, .c (.str nm)), (6, .c (.sl (brows out))), (7, .c (.int .i64 h)), (8, .c (.int .i64 v)), (9, .c (.int .i64 (i : Int)))], []⟩) ⟨l.length + 2, _, ?w, 0, [], s, -1, 0, Nat.zero_le _, by simp, rfl, hR.symm, rfl⟩ ?r
  case w =>
    rw [hns]
    simp only [runB, finC, finD, AS.get, AS.mem, false_implies, implies_true, ↓reduceIte, Nat.reduceEqDiff, Option.isSome_some, Option.isSome_none, forall_eq_or_imp, forall_eq, reduceCtorEq, Nat.reduceAdd, Nat.reduceMul, List.zip_cons_cons, List.zip_nil_left, List.zip_nil_right, List.forall_mem_nil, brows_nil]
    first | done | simp
  case r =>
    rintro k st ⟨i, out, nm, h, v, hi, hoi, rfl, hRk, rfl⟩
    refine vc_sound hΓ mixed _ _ _ ?_
    have hbo := brows_length out
    have q2 := at14_at l nm htl
    by_cases hlt : i < l.length + 2
    case neg =>
      have k1 : decide ((i : Int) ≤ (l.length : Int) + 1) = false := by simp; omega
      have hz : l.length + 2 - i = 0 := by omega
      rw [hz] at hRk
      unfold refC at hRk
      subst hRk
      simp only [runA, runB, runC, runD, runE, runF, fieldE, storeE, binE, ↓reduceIte, Nat.reduceLT, Nat.reduceLeDiff, Nat.reduceEqDiff, Nat.reduceAdd, Nat.reduceMul, Nat.reduceSub, reduceCtorEq, putAt, unE, Nat.reduceBEq, convE, buildE, List.replicate, Int.reduceLT, Int.reduceLE, Int.reduceToNat, mkE, mapSetE, hN, hF, ty_3, ty_4, ty_9, ty_22, ty_29, ty_31, ty_33, ty_57, notIf, isEq, brows_length, e0, k1]
      simp only [runB, finC, finD, Option.isSome_some, Option.isSome_none, ↓reduceIte, Nat.reduceEqDiff, Nat.reduceAdd, Nat.reduceMul, forall_eq_or_imp, forall_eq, implies_true, Nat.reduceBEq, reduceCtorEq, false_implies, List.zip_cons_cons, List.zip_nil_left, List.zip_nil_right, Nat.reduceLeDiff, List.forall_mem_nil, rs_73, ty_3, ty_4, ty_9, ty_22, ty_29, ty_31, ty_33, ty_57, brows_nil]
    have k1 : decide ((i : Int) ≤ (l.length : Int) + 1) = true := by simp; omega
    have e1 : IntKind.i64.wrap ((i : Int) + 1) = (i : Int) + 1 := wrapI (by omega)
    obtain ⟨f, hf⟩ : ∃ f, l.length + 2 - i = f + 1 := ⟨l.length + 1 - i, by omega⟩
    rw [hf] at hRk
    unfold refC at hRk
    cases ha : atB l nm with
    | none =>
      rw [ha] at hRk
      simp only at hRk
      rw [atI_none ha] at q2
      have m1 : decide ((-1 : Int) < 0) = true := rfl
      cases g1 : nm == genS with
      | false =>
        rw [g1, if_neg (by simp)] at hRk
        subst hRk
        simp only [runA, runB, runC, runD, runE, runF, fieldE, storeE, binE, ↓reduceIte, Nat.reduceLT, Nat.reduceLeDiff, Nat.reduceEqDiff, Nat.reduceAdd, Nat.reduceMul, Nat.reduceSub, reduceCtorEq, putAt, unE, Nat.reduceBEq, convE, buildE, List.replicate, Int.reduceLT, Int.reduceLE, Int.reduceToNat, mkE, mapSetE, hN, hF, ty_3, ty_4, ty_9, ty_22, ty_29, ty_31, ty_33, ty_57, notIf, isEq, brows_length, e0, k1, h1, q1, g1, h2, q2, m1]
        simp only [runB, finC, finD, Option.isSome_some, Option.isSome_none, ↓reduceIte, Nat.reduceEqDiff, Nat.reduceAdd, Nat.reduceMul, forall_eq_or_imp, forall_eq, implies_true, Nat.reduceBEq, reduceCtorEq, false_implies, List.zip_cons_cons, List.zip_nil_left, List.zip_nil_right, Nat.reduceLeDiff, List.forall_mem_nil, rs_73, ty_3, ty_4, ty_9, ty_22, ty_29, ty_31, ty_33, ty_57, brows_nil]
      | true =>
        rw [g1, if_pos rfl] at hRk
        by_cases c1 : 0 < out.length
        · have p1 : decide ((out.length : Int) > 0) = true := decide_eq_true (by omega)
          rw [decide_eq_true c1, Bool.true_and] at hRk
          cases c2 : h != 0 with
          | true =>
            rw [c2, Bool.true_or, if_pos rfl] at hRk
            subst hRk
            simp only [runA, runB, runC, runD, runE, runF, fieldE, storeE, binE, ↓reduceIte, Nat.reduceLT, Nat.reduceLeDiff, Nat.reduceEqDiff, Nat.reduceAdd, Nat.reduceMul, Nat.reduceSub, reduceCtorEq, putAt, unE, Nat.reduceBEq, convE, buildE, List.replicate, Int.reduceLT, Int.reduceLE, Int.reduceToNat, mkE, mapSetE, hN, hF, ty_3, ty_4, ty_9, ty_22, ty_29, ty_31, ty_33, ty_57, notIf, isEq, brows_length, e0, k1, h1, q1, g1, h2, q2, m1, p1, c2]
            simp only [runB, finC, finD, Option.isSome_some, Option.isSome_none, ↓reduceIte, Nat.reduceEqDiff, Nat.reduceAdd, Nat.reduceMul, forall_eq_or_imp, forall_eq, implies_true, Nat.reduceBEq, reduceCtorEq, false_implies, List.zip_cons_cons, List.zip_nil_left, List.zip_nil_right, Nat.reduceLeDiff, List.forall_mem_nil, rs_73, ty_3, ty_4, ty_9, ty_22, ty_29, ty_31, ty_33, ty_57, brows_nil]
          | false =>
            cases c3 : v != 0 with
            | true =>
              rw [c2, c3, Bool.false_or, if_pos rfl] at hRk
              subst hRk
              simp only [runA, runB, runC, runD, runE, runF, fieldE, storeE, binE, ↓reduceIte, Nat.reduceLT, Nat.reduceLeDiff, Nat.reduceEqDiff, Nat.reduceAdd, Nat.reduceMul, Nat.reduceSub, reduceCtorEq, putAt, unE, Nat.reduceBEq, convE, buildE, List.replicate, Int.reduceLT, Int.reduceLE, Int.reduceToNat, mkE, mapSetE, hN, hF, ty_3, ty_4, ty_9, ty_22, ty_29, ty_31, ty_33, ty_57, notIf, isEq, brows_length, e0, k1, h1, q1, g1, h2, q2, m1, p1, c2, c3]
              simp only [runB, finC, finD, Option.isSome_some, Option.isSome_none, ↓reduceIte, Nat.reduceEqDiff, Nat.reduceAdd, Nat.reduceMul, forall_eq_or_imp, forall_eq, implies_true, Nat.reduceBEq, reduceCtorEq, false_implies, List.zip_cons_cons, List.zip_nil_left, List.zip_nil_right, Nat.reduceLeDiff, List.forall_mem_nil, rs_73, ty_3, ty_4, ty_9, ty_22, ty_29, ty_31, ty_33, ty_57, brows_nil]
            | false =>
              rw [c2, c3, Bool.false_or, if_neg (by simp)] at hRk
              subst hRk
              simp only [runA, runB, runC, runD, runE, runF, fieldE, storeE, binE, ↓reduceIte, Nat.reduceLT, Nat.reduceLeDiff, Nat.reduceEqDiff, Nat.reduceAdd, Nat.reduceMul, Nat.reduceSub, reduceCtorEq, putAt, unE, Nat.reduceBEq, convE, buildE, List.replicate, Int.reduceLT, Int.reduceLE, Int.reduceToNat, mkE, mapSetE, hN, hF, ty_3, ty_4, ty_9, ty_22, ty_29, ty_31, ty_33, ty_57, notIf, isEq, brows_length, e0, k1, h1, q1, g1, h2, q2, m1, p1, c2, c3]
              simp only [runB, finC, finD, Option.isSome_some, Option.isSome_none, ↓reduceIte, Nat.reduceEqDiff, Nat.reduceAdd, Nat.reduceMul, forall_eq_or_imp, forall_eq, implies_true, Nat.reduceBEq, reduceCtorEq, false_implies, List.zip_cons_cons, List.zip_nil_left, List.zip_nil_right, Nat.reduceLeDiff, List.forall_mem_nil, rs_73, ty_3, ty_4, ty_9, ty_22, ty_29, ty_31, ty_33, ty_57]
        · have p1 : decide ((out.length : Int) > 0) = false := decide_eq_false (by omega)
          rw [decide_eq_false c1, Bool.false_and, if_neg (by simp)] at hRk
          subst hRk
          simp only [runA, runB, runC, runD, runE, runF, fieldE, storeE, binE, ↓reduceIte, Nat.reduceLT, Nat.reduceLeDiff, Nat.reduceEqDiff, Nat.reduceAdd, Nat.reduceMul, Nat.reduceSub, reduceCtorEq, putAt, unE, Nat.reduceBEq, convE, buildE, List.replicate, Int.reduceLT, Int.reduceLE, Int.reduceToNat, mkE, mapSetE, hN, hF, ty_3, ty_4, ty_9, ty_22, ty_29, ty_31, ty_33, ty_57, notIf, isEq, brows_length, e0, k1, h1, q1, g1, h2, q2, m1, p1]
          simp only [runB, finC, finD, Option.isSome_some, Option.isSome_none, ↓reduceIte, Nat.reduceEqDiff, Nat.reduceAdd, Nat.reduceMul, forall_eq_or_imp, forall_eq, implies_true, Nat.reduceBEq, reduceCtorEq, false_implies, List.zip_cons_cons, List.zip_nil_left, List.zip_nil_right, Nat.reduceLeDiff, List.forall_mem_nil, rs_73, ty_3, ty_4, ty_9, ty_22, ty_29, ty_31, ty_33, ty_57]
    | some b =>
      rw [ha] at hRk
      simp only at hRk
      obtain ⟨j, hj, hI, hb⟩ := atI_some hok ha
      have hg := browsD l j hj
      rw [hb] at hg
      rw [hI] at q2
      unfold Blk.pcs at hg
      have m1 : decide ((j : Int) < 0) = false := decide_eq_false (by omega)
      have hrow1 : rowsOK 9 [[.int .i64 b.vw, .int .i64 b.ht, .str b.pa, .int .i64 b.ju.vw, .int .i64 b.ju.ht, .str b.ju.bl, .sl (votes b.ju.vs), .sl (trows b.txs), .str b.sig]] := rowsOK_brows [b]
      have hrow2 := rowsOK_brows out
      have hcons : [[.int .i64 b.vw, .int .i64 b.ht, .str b.pa, .int .i64 b.ju.vw, .int .i64 b.ju.ht, .str b.ju.bl, .sl (votes b.ju.vs), .sl (trows b.txs), .str b.sig]] ++ brows out = brows (b :: out) := rfl
      have hby : (1 + out.length) * 128 ≤ 140737488355328 := by omega
      clear hb hI
      cases g1 : nm == genS
      all_goals
        by_cases c1 : 0 < out.length
        · have p1 : decide ((out.length : Int) > 0) = true := decide_eq_true (by omega)
          rw [decide_eq_true c1, Bool.true_and] at hRk
          cases c2 : b.ht != h with
          | true =>
            rw [c2, Bool.true_or, if_pos rfl] at hRk
            subst hRk
            simp only [runA, runB, runC, runD, runE, runF, fieldE, storeE, binE, ↓reduceIte, Nat.reduceLT, Nat.reduceLeDiff, Nat.reduceEqDiff, Nat.reduceAdd, Nat.reduceMul, Nat.reduceSub, reduceCtorEq, putAt, unE, Nat.reduceBEq, convE, buildE, List.replicate, Int.reduceLT, Int.reduceLE, Int.reduceToNat, mkE, mapSetE, hN, hF, ty_3, ty_4, ty_9, ty_22, ty_29, ty_31, ty_33, ty_57, notIf, isEq, brows_length, e0, k1, h1, q1, g1, h2, q2, m1, p1, c2, hg]
            simp only [runB, finC, finD, Option.isSome_some, Option.isSome_none, ↓reduceIte, Nat.reduceEqDiff, Nat.reduceAdd, Nat.reduceMul, forall_eq_or_imp, forall_eq, implies_true, Nat.reduceBEq, reduceCtorEq, false_implies, List.zip_cons_cons, List.zip_nil_left, List.zip_nil_right, Nat.reduceLeDiff, List.forall_mem_nil, rs_73, ty_3, ty_4, ty_9, ty_22, ty_29, ty_31, ty_33, ty_57, brows_nil]
          | false =>
            cases c3 : b.vw != v with
            | true =>
              rw [c2, c3, Bool.false_or, if_pos rfl] at hRk
              subst hRk
              simp only [runA, runB, runC, runD, runE, runF, fieldE, storeE, binE, ↓reduceIte, Nat.reduceLT, Nat.reduceLeDiff, Nat.reduceEqDiff, Nat.reduceAdd, Nat.reduceMul, Nat.reduceSub, reduceCtorEq, putAt, unE, Nat.reduceBEq, convE, buildE, List.replicate, Int.reduceLT, Int.reduceLE, Int.reduceToNat, mkE, mapSetE, hN, hF, ty_3, ty_4, ty_9, ty_22, ty_29, ty_31, ty_33, ty_57, notIf, isEq, brows_length, e0, k1, h1, q1, g1, h2, q2, m1, p1, c2, c3, hg]
              simp only [runB, finC, finD, Option.isSome_some, Option.isSome_none, ↓reduceIte, Nat.reduceEqDiff, Nat.reduceAdd, Nat.reduceMul, forall_eq_or_imp, forall_eq, implies_true, Nat.reduceBEq, reduceCtorEq, false_implies, List.zip_cons_cons, List.zip_nil_left, List.zip_nil_right, Nat.reduceLeDiff, List.forall_mem_nil, rs_73, ty_3, ty_4, ty_9, ty_22, ty_29, ty_31, ty_33, ty_57, brows_nil]
            | false =>
              rw [c2, c3, Bool.false_or, if_neg (by simp)] at hRk
              simp only [runA, runB, runC, runD, runE, runF, fieldE, storeE, binE, ↓reduceIte, Nat.reduceLT, Nat.reduceLeDiff, Nat.reduceEqDiff, Nat.reduceAdd, Nat.reduceMul, Nat.reduceSub, reduceCtorEq, putAt, unE, Nat.reduceBEq, convE, buildE, List.replicate, Int.reduceLT, Int.reduceLE, Int.reduceToNat, mkE, mapSetE, hN, hF, ty_3, ty_4, ty_9, ty_22, ty_29, ty_31, ty_33, ty_57, notIf, isEq, brows_length, e0, k1, h1, q1, g1, h2, q2, m1, p1, c2, c3, hg, e1, hrow1, hrow2, hcons, hby]
              refine drawnP_intro (by kernel_rfl) (by kernel_rfl) ?_
              simp only [runA, runB, runC, runD, runE, runF, fieldE, storeE, binE, ↓reduceIte, Nat.reduceLT, Nat.reduceLeDiff, Nat.reduceEqDiff, Nat.reduceAdd, Nat.reduceMul, Nat.reduceSub, reduceCtorEq, putAt, unE, Nat.reduceBEq, convE, buildE, List.replicate, Int.reduceLT, Int.reduceLE, Int.reduceToNat, mkE, mapSetE, hN, hF, ty_3, ty_4, ty_9, ty_22, ty_29, ty_31, ty_33, ty_57, notIf, isEq, brows_length, e0, k1, h1, q1, g1, h2, q2, m1, p1, c2, c3, hg, e1, hrow1, hrow2, hcons, hby]
              refine ⟨f, _, by omega, ?_, i + 1, b :: out, b.pa, _, _, by omega, by simp; omega, by omega, hRk, rfl⟩
              rw [hns]
              simp only [runB, finC, finD, AS.get, AS.mem, false_implies, implies_true, ↓reduceIte, Nat.reduceEqDiff, Option.isSome_some, Option.isSome_none, forall_eq_or_imp, forall_eq, reduceCtorEq, Nat.reduceAdd, Nat.reduceMul, List.zip_cons_cons, List.zip_nil_left, List.zip_nil_right, List.forall_mem_nil]
              first | done | simp
        · have p1 : decide ((out.length : Int) > 0) = false := decide_eq_false (by omega)
          rw [decide_eq_false c1, Bool.false_and, if_neg (by simp)] at hRk
          simp only [runA, runB, runC, runD, runE, runF, fieldE, storeE, binE, ↓reduceIte, Nat.reduceLT, Nat.reduceLeDiff, Nat.reduceEqDiff, Nat.reduceAdd, Nat.reduceMul, Nat.reduceSub, reduceCtorEq, putAt, unE, Nat.reduceBEq, convE, buildE, List.replicate, Int.reduceLT, Int.reduceLE, Int.reduceToNat, mkE, mapSetE, hN, hF, ty_3, ty_4, ty_9, ty_22, ty_29, ty_31, ty_33, ty_57, notIf, isEq, brows_length, e0, k1, h1, q1, g1, h2, q2, m1, p1, hg, e1, hrow1, hrow2, hcons, hby]
          refine drawnP_intro (by kernel_rfl) (by kernel_rfl) ?_
          simp only [runA, runB, runC, runD, runE, runF, fieldE, storeE, binE, ↓reduceIte, Nat.reduceLT, Nat.reduceLeDiff, Nat.reduceEqDiff, Nat.reduceAdd, Nat.reduceMul, Nat.reduceSub, reduceCtorEq, putAt, unE, Nat.reduceBEq, convE, buildE, List.replicate, Int.reduceLT, Int.reduceLE, Int.reduceToNat, mkE, mapSetE, hN, hF, ty_3, ty_4, ty_9, ty_22, ty_29, ty_31, ty_33, ty_57, notIf, isEq, brows_length, e0, k1, h1, q1, g1, h2, q2, m1, p1, hg, e1, hrow1, hrow2, hcons, hby]
          refine ⟨f, _, by omega, ?_, i + 1, b :: out, b.pa, _, _, by omega, by simp; omega, by omega, hRk, rfl⟩
          rw [hns]
          simp only [runB, finC, finD, AS.get, AS.mem, false_implies, implies_true, ↓reduceIte, Nat.reduceEqDiff, Option.isSome_some, Option.isSome_none, forall_eq_or_imp, forall_eq, reduceCtorEq, Nat.reduceAdd, Nat.reduceMul, List.zip_cons_cons, List.zip_nil_left, List.zip_nil_right, List.forall_mem_nil]
          first | done | simp


variable {Γ : FuncId → Contract}


theorem walkE_nm {own : List Blk} {f : Nat} {acc : List Blk} {b : Blk} {nm : List UInt8} (n1 n2 : List UInt8) : walkE (walkL own f (acc ++ [b]) nm) n1 = walkE (walkL own f (acc ++ [b]) nm) n2 := by
  cases hW : walkL own f (acc ++ [b]) nm with
  | none => rfl
  | some R =>
    obtain ⟨S, rfl, _⟩ := walkL_path own _ _ _ _ hW
    rcases List.eq_nil_or_concat S with rfl | ⟨i, p, e⟩
    · rw [List.append_nil, walkE_snoc, walkE_snoc]
    · rw [List.concat_eq_append] at e
      subst e
      rw [← List.append_assoc, walkE_snoc, walkE_snoc]
def revP (w : List Blk × Bool) : List Blk × Bool := (w.1.reverse, w.2)
def lastIs (acc : List Blk) (nm : List UInt8) (h v : Int) : Prop := ∀ i p, acc = i ++ [p] → nm = p.pa ∧ h = IntKind.i64.wrap (p.ht - 1) ∧ v = p.ju.vw
theorem lastIs_snoc (acc : List Blk) (b : Blk) : lastIs (acc ++ [b]) b.pa (IntKind.i64.wrap (b.ht - 1)) b.ju.vw := by
  intro i p e
  obtain ⟨_, e2⟩ := List.append_inj' e rfl
  simp only [List.cons.injEq, and_true] at e2
  subst e2
  exact ⟨rfl, rfl, rfl⟩
theorem neq_fits (p b : Blk) : (b.ht != IntKind.i64.wrap (p.ht - 1) || b.vw != p.ju.vw) = !fitsB p b := by
  unfold fitsB bne
  cases b.ht == IntKind.i64.wrap (p.ht - 1) <;> cases b.vw == p.ju.vw <;> rfl
theorem end_fits (p : Blk) : (IntKind.i64.wrap (p.ht - 1) != 0 || p.ju.vw != 0) = !fitsB p zeroBk := by
  have h1 : (IntKind.i64.wrap (p.ht - 1) != 0) = ((0 : Int) != IntKind.i64.wrap (p.ht - 1)) := bne_comm
  have h2 : (p.ju.vw != 0) = ((0 : Int) != p.ju.vw) := bne_comm
  rw [h1, h2]
  exact neq_fits p zeroBk
theorem refC_end {l : List Blk} {acc : List Blk} {nm : List UInt8} {h v : Int} (ha : atB l nm = none) (hl : lastIs acc nm h v) (f : Nat) : refC l (f + 1) acc.reverse nm h v = revP (walkE (some acc) nm) := by
  unfold refC
  rw [ha]
  simp only
  rcases List.eq_nil_or_concat acc with rfl | ⟨i, p, e⟩
  · rw [walkE_nil]
    cases nm == genS <;> simp [revP]
  · rw [List.concat_eq_append] at e
    subst e
    obtain ⟨rfl, rfl, rfl⟩ := hl i p rfl
    rw [walkE_snoc, end_fits]
    cases p.pa == genS <;> cases fitsB p zeroBk <;> simp [revP]
theorem refC_walk {l : List Blk} : ∀ (f : Nat) (acc : List Blk) (nm : List UInt8) (h v : Int), lastIs acc nm h v → refC l (f + 1) acc.reverse nm h v = revP (walkE (walkL l f acc nm) nm)
  | 0, acc, nm, h, v, hl => by
    cases ha : atB l nm with
    | none => rw [refC_end ha hl, walkL_none ha]
    | some b =>
      rw [walkL_zero ha]
      unfold refC
      rw [ha]
      simp only
      split <;> simp [refC, revP, walkE]
  | f + 1, acc, nm, h, v, hl => by
    cases ha : atB l nm with
    | none => rw [refC_end ha hl, walkL_none ha]
    | some b =>
      have ih := refC_walk (l := l) f (acc ++ [b]) b.pa (IntKind.i64.wrap (b.ht - 1)) b.ju.vw (lastIs_snoc acc b)
      rw [List.reverse_append, List.reverse_singleton, List.singleton_append] at ih
      rcases List.eq_nil_or_concat acc with rfl | ⟨i, p, e⟩
      · rw [walkL_first ha]
        rw [refC, ha]
        simp only [List.reverse_nil, List.length_nil, Nat.lt_irrefl, decide_false, Bool.false_and]
        rw [if_neg (by simp)]
        simp only [List.reverse_nil, List.nil_append] at ih
        rw [ih]
        exact congrArg revP (walkE_nm (acc := []) _ _)
      · rw [List.concat_eq_append] at e
        subst e
        obtain ⟨rfl, rfl, rfl⟩ := hl i p rfl
        rw [walkL_step ha]
        rw [refC, ha]
        simp only [neq_fits]
        have hlen : decide (0 < (i ++ [p]).reverse.length) = true := by simp
        rw [hlen, Bool.true_and]
        cases hf : fitsB p b with
        | false => simp [revP, walkE]
        | true =>
          rw [Bool.not_true, if_neg (by simp), ih, if_pos rfl]
          exact congrArg revP (walkE_nm _ _)
/-- The reference's chain is the walk, turned. -/
theorem chS_walk (l : List Blk) (nm : List UInt8) : chS l nm = revP (walkS l nm) := by
  unfold chS walkS
  exact refC_walk (l.length + 1) [] nm (-1) 0 (fun i p e => by simp at e)


variable {Γ : FuncId → Contract}


variable {Γ : FuncId → Contract}


theorem atB_name {l : List Blk} {nm : List UInt8} {b : Blk} (h : atB l nm = some b) : nameS b = nm := by
  have := List.find?_some h
  simpa using this
theorem isPath_mem {own : List Blk} : ∀ {S : List Blk} {nm : List UInt8}, isPath own nm S → ∀ x ∈ S, x ∈ own
  | [], _, _, x, hx => by cases hx
  | b :: S, nm, h, x, hx => by
    rcases List.mem_cons.1 hx with rfl | hx
    · exact atB_mem h.1
    · exact isPath_mem h.2 x hx
theorem walkS_last {own : List Blk} {nm : List UInt8} (h : (walkS own nm).2 = true) {A : List Blk} {x : Blk} (e : (walkS own nm).1 = A ++ [x]) : x.pa = genS := by
  unfold walkS at h e
  cases hW : walkL own (own.length + 1) [] nm with
  | none => rw [hW] at h; cases h
  | some l =>
    rw [hW] at h e
    rcases List.eq_nil_or_concat l with rfl | ⟨i, p, e2⟩
    · rw [walkE_nil] at e
      simp at e
    · rw [List.concat_eq_append] at e2
      subst e2
      rw [walkE_snoc] at h e
      split at h
      · rename_i hc
        rw [if_pos hc] at e
        obtain ⟨_, e3⟩ := List.append_inj' e rfl
        simp only [List.cons.injEq, and_true] at e3
        subst e3
        simp only [Bool.and_eq_true, beq_iff_eq] at hc
        exact hc.1
      · cases h
theorem walkS_sub {own : List Blk} {nm : List UInt8} : ∀ x ∈ (walkS own nm).1, x ∈ own := by
  intro x hx
  cases h : (walkS own nm).2 with
  | true => exact isPath_mem (walkS_path h) x hx
  | false =>
    have : (walkS own nm).1 = [] := by
      unfold walkS at h ⊢
      cases hW : walkL own (own.length + 1) [] nm with
      | none => rfl
      | some l =>
        rw [hW] at h
        rcases List.eq_nil_or_concat l with rfl | ⟨i, p, e2⟩
        · rfl
        · rw [List.concat_eq_append] at e2
          subst e2
          rw [walkE_snoc] at h ⊢
          split at h
          · cases h
          · rename_i hc
            rw [if_neg hc]
    rw [this] at hx
    cases hx
theorem ext_at {own : List Blk} (hok : ∀ b ∈ own, okB b) {a b : List UInt8} (h : (walkS own a).2 = true) (h1 : b ≠ a) (h2 : b ≠ genS) : decide (atI (walkS own a).1.reverse b ≥ 0) = (walkS own a).1.any (parP b) := by
  have hp := walkS_path h
  have hm : ∀ x ∈ (walkS own a).1, okB x := fun x hx => hok x (walkS_sub x hx)
  have hl : ∀ A x, (walkS own a).1 = A ++ [x] → x.pa = genS := fun A x e => walkS_last h e
  generalize (walkS own a).1 = L at hp hm hl
  unfold atI
  by_cases hb : b = []
  · rw [if_pos hb]
    subst hb
    have : L.any (parP []) = false := by
      rw [List.any_eq_false]
      intro x hx
      have := (hm x hx).2.2.1
      cases hq : x.pa with
      | nil => rw [hq] at this; cases this
      | cons => simp [parP, hq]
    rw [this]
    rfl
  · rw [if_neg hb, idxP_ge, List.any_reverse, Bool.eq_iff_iff, List.any_eq_true, List.any_eq_true]
    constructor
    · rintro ⟨y, hy, hn⟩
      have hn : nameS y = b := by simpa [nmIs] using hn
      obtain ⟨A, T, rfl⟩ := List.append_of_mem hy
      rcases List.eq_nil_or_concat A with rfl | ⟨A', x, e⟩
      · exact absurd (hn.symm.trans (atB_name hp.1)) h1
      · rw [List.concat_eq_append] at e
        subst e
        rw [List.append_assoc, List.singleton_append] at hp
        have := atB_name (isPath_split hp).1
        exact ⟨x, by simp, by simp [parP, ← this, hn]⟩
    · rintro ⟨x, hx, hq⟩
      have hq : x.pa = b := by simpa [parP] using hq
      obtain ⟨A, T, rfl⟩ := List.append_of_mem hx
      cases T with
      | nil => exact absurd (hq.symm.trans (hl A x rfl)) h2
      | cons y T =>
        have := atB_name (isPath_split hp).1
        exact ⟨y, by simp, by simp [nmIs, this, hq]⟩
noncomputable def rexdC : Contract := mkC (α := List Blk × List UInt8 × List UInt8) (fun p => okR p.1) (fun p => [.c (.sl (brows p.1)), .c (.str p.2.1), .c (.str p.2.2)]) (fun p => []) (fun p => ⟨[.pv (.c (.bool (extS p.1 p.2.1 p.2.2)))], []⟩)
theorem rexd_at (l : List Blk) (a : List UInt8) (b : List UInt8) (g0 : okR l) : rexdC [.c (.sl (brows l)), .c (.str a), .c (.str b)] [] = some ⟨[.pv (.c (.bool (extS l a b)))], []⟩ := by
  exact mkC_at (α := List Blk × List UInt8 × List UInt8) (l, a, b) g0 (by
    rintro ⟨l', a', b'⟩ _ h ho
    have hh := And.intro h ho
    clear h ho
    simp only [List.cons.injEq, AV.c.injEq, AV.agg.injEq, PC.int.injEq, PC.str.injEq, PC.bool.injEq, PC.sl.injEq, OV.c.injEq, OV.own.injEq, OV.mp.injEq, bytes_iff, texts_iff, true_and, and_true, and_self, beq_self_eq_true, brows_iff] at hh
    simp only [hh])
noncomputable def rcflC : Contract := mkC (α := List Blk × List UInt8 × List UInt8) (fun p => okR p.1) (fun p => [.c (.sl (brows p.1)), .c (.str p.2.1), .c (.str p.2.2)]) (fun p => []) (fun p => ⟨[.pv (.c (.bool (conS p.1 p.2.1 p.2.2)))], []⟩)
theorem rcfl_at (l : List Blk) (a : List UInt8) (b : List UInt8) (g0 : okR l) : rcflC [.c (.sl (brows l)), .c (.str a), .c (.str b)] [] = some ⟨[.pv (.c (.bool (conS l a b)))], []⟩ := by
  exact mkC_at (α := List Blk × List UInt8 × List UInt8) (l, a, b) g0 (by
    rintro ⟨l', a', b'⟩ _ h ho
    have hh := And.intro h ho
    clear h ho
    simp only [List.cons.injEq, AV.c.injEq, AV.agg.injEq, PC.int.injEq, PC.str.injEq, PC.bool.injEq, PC.sl.injEq, OV.c.injEq, OV.own.injEq, OV.mp.injEq, bytes_iff, texts_iff, true_and, and_true, and_self, beq_self_eq_true, brows_iff] at hh
    simp only [hh])

set_option maxRecDepth 100000 in
set_option maxHeartbeats 4000000 in
theorem rexd_sound (hΓ : SoundG Tryz.prog Γ) (h1 : Γ 73 = rchC) (h2 : Γ 9 = genC) (h3 : Γ 127 = at14C) : SoundC Tryz.prog 74 rexdC := by
  refine sound_fn Tryz.func74 (by kernel_rfl) rfl rfl ?_
  intro args objs r0 hr
  obtain ⟨⟨l, a, b⟩, hl, rfl, rfl, rfl⟩ := mkC_inv hr
  refine ⟨rfl, by show 3 ≤ _; decide, fun E hN hns hF => ?_⟩
  refine vc_sound hΓ mixed _ _ _ ?_
  have hN := hN.trans nt_74
  have hl : okR l := hl
  obtain ⟨htl, hll, hok⟩ := id hl
  have q1 := rch_at l a hl
  rw [chS_walk] at q1
  have q2 : genC [] [] = some ⟨[.pv (.c (.str genS))], []⟩ := rfl
  have hwl := walkS_len l a
  have q3 := at14_at (walkS l a).1.reverse b ⟨by rw [List.length_reverse]; omega, fun x hx => htl.2 x (walkS_sub x (List.mem_reverse.1 hx))⟩
  have hext := fun h h1 h2 => ext_at (own := l) hok (a := a) (b := b) h h1 h2
  dsimp only
  unfold extS
  unfold revP at q1
  dsimp only at q1
  generalize walkS l a = w at q1 q3 hext ⊢
  obtain ⟨W, k⟩ := w
  dsimp only at q1 q3 hext ⊢
  generalize W.reverse = V at q1 q3 hext
  cases k with
  | false =>
    simp only [runA, runB, runC, runD, runE, runF, fieldE, storeE, binE, ↓reduceIte, Nat.reduceLT, Nat.reduceLeDiff, Nat.reduceEqDiff, Nat.reduceAdd, Nat.reduceMul, Nat.reduceSub, reduceCtorEq, putAt, unE, Nat.reduceBEq, convE, buildE, List.replicate, Int.reduceLT, Int.reduceLE, Int.reduceToNat, mkE, mapSetE, hN, hF, ty_3, ty_4, ty_9, ty_33, ty_57, notIf, isEq, h1, q1]
    simp only [runB, finC, finD, Option.isSome_some, Option.isSome_none, ↓reduceIte, Nat.reduceEqDiff, Nat.reduceAdd, Nat.reduceMul, forall_eq_or_imp, forall_eq, implies_true, Nat.reduceBEq, reduceCtorEq, false_implies, List.zip_cons_cons, List.zip_nil_left, List.zip_nil_right, Nat.reduceLeDiff, List.forall_mem_nil, rs_74, ty_3, ty_4, ty_9, ty_33, ty_57, Bool.false_and]
  | true =>
    cases c1 : b == a with
    | true =>
      simp only [runA, runB, runC, runD, runE, runF, fieldE, storeE, binE, ↓reduceIte, Nat.reduceLT, Nat.reduceLeDiff, Nat.reduceEqDiff, Nat.reduceAdd, Nat.reduceMul, Nat.reduceSub, reduceCtorEq, putAt, unE, Nat.reduceBEq, convE, buildE, List.replicate, Int.reduceLT, Int.reduceLE, Int.reduceToNat, mkE, mapSetE, hN, hF, ty_3, ty_4, ty_9, ty_33, ty_57, notIf, isEq, h1, q1, c1]
      simp only [runB, finC, finD, Option.isSome_some, Option.isSome_none, ↓reduceIte, Nat.reduceEqDiff, Nat.reduceAdd, Nat.reduceMul, forall_eq_or_imp, forall_eq, implies_true, Nat.reduceBEq, reduceCtorEq, false_implies, List.zip_cons_cons, List.zip_nil_left, List.zip_nil_right, Nat.reduceLeDiff, List.forall_mem_nil, rs_74, ty_3, ty_4, ty_9, ty_33, ty_57, Bool.true_and, Bool.true_or]
    | false =>
      cases c2 : b == genS with
      | true =>
        simp only [runA, runB, runC, runD, runE, runF, fieldE, storeE, binE, ↓reduceIte, Nat.reduceLT, Nat.reduceLeDiff, Nat.reduceEqDiff, Nat.reduceAdd, Nat.reduceMul, Nat.reduceSub, reduceCtorEq, putAt, unE, Nat.reduceBEq, convE, buildE, List.replicate, Int.reduceLT, Int.reduceLE, Int.reduceToNat, mkE, mapSetE, hN, hF, ty_3, ty_4, ty_9, ty_33, ty_57, notIf, isEq, h1, q1, c1, h2, q2, c2]
        simp only [runB, finC, finD, Option.isSome_some, Option.isSome_none, ↓reduceIte, Nat.reduceEqDiff, Nat.reduceAdd, Nat.reduceMul, forall_eq_or_imp, forall_eq, implies_true, Nat.reduceBEq, reduceCtorEq, false_implies, List.zip_cons_cons, List.zip_nil_left, List.zip_nil_right, Nat.reduceLeDiff, List.forall_mem_nil, rs_74, ty_3, ty_4, ty_9, ty_33, ty_57, Bool.true_and, Bool.true_or, Bool.or_true]
      | false =>
        have he := hext rfl (by simpa using c1) (by simpa using c2)
        rw [Bool.false_or, Bool.true_and, ← he]
        simp only [runA, runB, runC, runD, runE, runF, fieldE, storeE, binE, ↓reduceIte, Nat.reduceLT, Nat.reduceLeDiff, Nat.reduceEqDiff, Nat.reduceAdd, Nat.reduceMul, Nat.reduceSub, reduceCtorEq, putAt, unE, Nat.reduceBEq, convE, buildE, List.replicate, Int.reduceLT, Int.reduceLE, Int.reduceToNat, mkE, mapSetE, hN, hF, ty_3, ty_4, ty_9, ty_33, ty_57, notIf, isEq, h1, q1, c1, h2, q2, c2, h3, q3]
        simp only [runB, finC, finD, Option.isSome_some, Option.isSome_none, ↓reduceIte, Nat.reduceEqDiff, Nat.reduceAdd, Nat.reduceMul, forall_eq_or_imp, forall_eq, implies_true, Nat.reduceBEq, reduceCtorEq, false_implies, List.zip_cons_cons, List.zip_nil_left, List.zip_nil_right, Nat.reduceLeDiff, List.forall_mem_nil, rs_74, ty_3, ty_4, ty_9, ty_33, ty_57, Bool.false_or, Bool.true_and]

set_option maxRecDepth 100000 in
set_option maxHeartbeats 4000000 in
theorem rcfl_sound (hΓ : SoundG Tryz.prog Γ) (h1 : Γ 73 = rchC) (h2 : Γ 74 = rexdC) : SoundC Tryz.prog 27 rcflC := by
  refine sound_fn Tryz.func27 (by kernel_rfl) rfl rfl ?_
  intro args objs r0 hr
  obtain ⟨⟨l, a, b⟩, hl, rfl, rfl, rfl⟩ := mkC_inv hr
  refine ⟨rfl, by show 3 ≤ _; decide, fun E hN hns hF => ?_⟩
  refine vc_sound hΓ mixed _ _ _ ?_
  have hN := hN.trans nt_27
  have hl : okR l := hl
  have q1 := rch_at l a hl
  have q2 := rch_at l b hl
  rw [chS_walk] at q1 q2
  have q3 := rexd_at l a b hl
  have q4 := rexd_at l b a hl
  dsimp only
  unfold conS
  unfold revP at q1 q2
  dsimp only at q1 q2
  generalize extS l a b = e1 at q3 ⊢
  generalize extS l b a = e2 at q4 ⊢
  generalize (walkS l a).1.reverse = l1 at q1
  generalize (walkS l b).1.reverse = l2 at q2
  generalize (walkS l a).2 = k1 at q1 ⊢
  generalize (walkS l b).2 = k2 at q2 ⊢
  cases k1 <;> cases k2 <;> cases e1 <;> cases e2
  all_goals
    simp only [runA, runB, runC, runD, runE, runF, fieldE, storeE, binE, ↓reduceIte, Nat.reduceLT, Nat.reduceLeDiff, Nat.reduceEqDiff, Nat.reduceAdd, Nat.reduceMul, Nat.reduceSub, reduceCtorEq, putAt, unE, Nat.reduceBEq, convE, buildE, List.replicate, Int.reduceLT, Int.reduceLE, Int.reduceToNat, mkE, mapSetE, hN, hF, ty_4, ty_9, ty_33, ty_57, notIf, isEq, h1, q1, q2, h2, q3, q4, Bool.not_true, Bool.not_false]
    simp only [runB, finC, finD, Option.isSome_some, Option.isSome_none, ↓reduceIte, Nat.reduceEqDiff, Nat.reduceAdd, Nat.reduceMul, forall_eq_or_imp, forall_eq, implies_true, Nat.reduceBEq, reduceCtorEq, false_implies, List.zip_cons_cons, List.zip_nil_left, List.zip_nil_right, Nat.reduceLeDiff, List.forall_mem_nil, rs_27, ty_4, ty_9, ty_33, ty_57, Bool.true_and, Bool.false_and, Bool.and_false, Bool.and_true, Bool.not_true, Bool.not_false]


variable {Γ : FuncId → Contract}



variable {Γ : FuncId → Contract}


end Go.Proofs.YtenmlgalcjkdbaaGreat.AM
