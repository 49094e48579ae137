/-
  QK: Mg7 Mg8.
-/
import Derived.Test.YtldehcnaepgamaaQJ
import Derived.Test.YtldehcnaepgamaaQF
set_option linter.unusedVariables false
set_option linter.unusedSimpArgs false
namespace Go.Proofs.Ytldehcnaepgamaa.AM
open Go

variable {Γ : FuncId → Contract}

def odmP (t : Vt) : Bool := !decide (okV t)
noncomputable def odmC : Contract := mkC (α := Vt) (fun _ => True) (fun t => [t.av]) (fun _ => []) (fun t => ⟨[.pv (.c (.bool (odmP t)))], []⟩)
theorem odm_at (t : Vt) : odmC [.agg [.c (.int .i64 t.kd), .c (.int .i64 t.vw), .c (.int .i64 t.ht), .c (.str t.bl), .c (.int .i64 t.tk), .c (.int .i64 t.sg), .c (.str t.sig)]] [] = some ⟨[.pv (.c (.bool (odmP t)))], []⟩ :=
  mkC_at (α := Vt) t trivial (by
    rintro y _ h _
    have h : [y.av] = [t.av] := h
    simp only [List.cons.injEq, and_true, Vt.av_iff] at h
    rw [h])
set_option maxHeartbeats 4000000 in
theorem odm_sound (hΓ : SoundG Try.prog Γ) (h1 : Γ 96 = voCkC) : SoundC Try.prog 140 odmC := by
  refine sound_fn Try.func140 (by kernel_rfl) rfl rfl ?_
  intro args objs r hr
  obtain ⟨t, _, rfl, rfl, rfl⟩ := mkC_inv hr
  refine ⟨rfl, by show 1 ≤ _; decide, fun E hN hns hF => ?_⟩
  refine vc_sound hΓ mixed _ _ _ ?_
  have hN := hN.trans nt_140
  have q1 := voCk_at t
  have hS : (voS t != 0) = odmP t := by
    unfold voS odmP
    by_cases h : okV t
    · rw [if_pos h, decide_eq_true h]; rfl
    · rw [if_neg h, decide_eq_false h]; rfl
  unfold Vt.av
  generalize odmP t = od at hS ⊢
  generalize voS t = sv at q1 hS
  simp only [runA, runB, runC, runD, runE, runF, fieldE, storeE, binE, ↓reduceIte, Nat.reduceLT, Nat.reduceLeDiff, Nat.reduceEqDiff, Nat.reduceAdd, Nat.reduceMul, Nat.reduceSub, reduceCtorEq, putAt, unE, Nat.reduceBEq, convE, buildE, List.replicate, Int.reduceLT, Int.reduceLE, Int.reduceToNat, mkE, mapSetE, hN, hF, ty_3, ty_4, ty_9, ty_27, ty_74, notIf, isEq, h1, q1, hS]
  simp only [runB, finC, finD, Option.isSome_some, Option.isSome_none, ↓reduceIte, Nat.reduceEqDiff, Nat.reduceAdd, Nat.reduceMul, forall_eq_or_imp, forall_eq, implies_true, Nat.reduceBEq, reduceCtorEq, false_implies, List.zip_cons_cons, List.zip_nil_left, List.zip_nil_right, Nat.reduceLeDiff, List.forall_mem_nil, rs_140, ty_3, ty_4, ty_9, ty_27, ty_74]
noncomputable def odVIC : Contract := mkC (α := List Vt) (fun q => q.length ≤ 9223372036854775807) (fun q => [.c (.sl (votes q)), .clo 140 []]) (fun _ => []) (fun q => ⟨[.pv (.c (.int .i64 (idxP (odmP) q)))], []⟩)
noncomputable def odVFC : Contract := mkC (α := List Vt) (fun q => q.length ≤ 9223372036854775807) (fun q => [.c (.sl (votes q)), .clo 140 []]) (fun _ => []) (fun q => ⟨[.pv (.c (.bool (q.any (odmP))))], []⟩)
theorem odVI_at (l : List Vt) (h : l.length ≤ 9223372036854775807) : odVIC [.c (.sl (votes l)), .clo 140 []] [] = some ⟨[.pv (.c (.int .i64 (idxP (odmP) l)))], []⟩ :=
  mkC_at (α := List Vt) l h (by
    rintro y _ h _
    simp only [List.cons.injEq, AV.c.injEq, PC.sl.injEq, PC.str.injEq, PC.int.injEq, AV.clo.injEq, true_and, and_true, votes_iff] at h
    simp only [h])
theorem odVF_at (l : List Vt) (h : l.length ≤ 9223372036854775807) : odVFC [.c (.sl (votes l)), .clo 140 []] [] = some ⟨[.pv (.c (.bool (l.any (odmP))))], []⟩ :=
  mkC_at (α := List Vt) l h (by
    rintro y _ h _
    simp only [List.cons.injEq, AV.c.injEq, PC.sl.injEq, PC.str.injEq, PC.int.injEq, AV.clo.injEq, true_and, and_true, votes_iff] at h
    simp only [h])
set_option maxHeartbeats 2000000 in
theorem odVI_sound (hΓ : SoundG Try.prog Γ) (h1 : Γ 140 = odmC) : SoundC Try.prog 164 odVIC := by
  refine sound_fn Try.func164 (by kernel_rfl) rfl rfl ?_
  intro args objs r hr
  obtain ⟨l, hl, rfl, rfl, rfl⟩ := mkC_inv hr
  have hl : l.length ≤ 9223372036854775807 := hl
  refine ⟨rfl, by show 2 ≤ _; decide, fun E hN hns hF => ?_⟩
  refine vc_sound hΓ mixed _ _ _ ?_
  have hN := hN.trans nt_164
  simp only [runA, runB, runC, runD, runE, runF, fieldE, storeE, binE, ↓reduceIte, Nat.reduceLT, Nat.reduceLeDiff, Nat.reduceEqDiff, Nat.reduceAdd, Nat.reduceMul, Nat.reduceSub, reduceCtorEq, putAt, unE, Nat.reduceBEq, convE, buildE, List.replicate, Int.reduceLT, Int.reduceLE, Int.reduceToNat, mkE, mapSetE, hN, hF, ty_3, ty_9, ty_68, ty_74, notIf, isEq, votes_length]
  refine AWP.loop (fun k st => ∃ i : Nat, (i ≤ l.length ∧ ∀ k, k < i → (odmP) (l.getD k zeroV) = false) ∧ k = l.length - i ∧ st = ⟨[(0, .c (.sl (votes l))), (1, .clo 140 []), (7, .c (.int .i64 (l.length : Int))), (8, .c (.int .i64 (i : Int)))], []⟩) ⟨l.length, _, ?w, 0, ⟨Nat.zero_le _, fun k hk => absurd hk (by omega)⟩, rfl, rfl⟩ ?r
  case w =>
    rw [hns]
    simp only [runB, finC, finD, AS.get, AS.mem, false_implies, implies_true, ↓reduceIte, Nat.reduceEqDiff, Option.isSome_some, Option.isSome_none, forall_eq_or_imp, forall_eq, reduceCtorEq, Nat.reduceAdd, Nat.reduceMul, List.zip_cons_cons, List.zip_nil_left, List.zip_nil_right, List.forall_mem_nil]
    first | done | simp
  case r =>
    rintro k st ⟨i, ⟨hi, h8⟩, rfl, rfl⟩
    refine vc_sound hΓ mixed _ _ _ ?_
    by_cases hlt : i < l.length
    · have k1 : decide ((i : Int) < (l.length : Int)) = true := by simpa using hlt
      have e1 : IntKind.i64.wrap ((i : Int) + 1) = (i : Int) + 1 := wrapI (by omega)
      have hg := votesD l i hlt
      unfold Vt.pcs at hg
      have hd := odm_at (l.getD i zeroV)
      cases hp : (odmP) (l.getD i zeroV) with
      | false =>
        have h8' : ∀ k, k < i + 1 → (odmP) (l.getD k zeroV) = false := fun k hk => by
          by_cases e : k = i
          · rw [e]; exact hp
          · exact h8 k (by omega)
        rw [hp] at hd
        generalize l.getD i zeroV = y at hg hd
        simp only [runA, runB, runC, runD, runE, runF, fieldE, storeE, binE, ↓reduceIte, Nat.reduceLT, Nat.reduceLeDiff, Nat.reduceEqDiff, Nat.reduceAdd, Nat.reduceMul, Nat.reduceSub, reduceCtorEq, putAt, unE, Nat.reduceBEq, convE, buildE, List.replicate, Int.reduceLT, Int.reduceLE, Int.reduceToNat, mkE, mapSetE, hN, hF, ty_3, ty_9, ty_68, ty_74, notIf, isEq, k1, e1, hg, h1, hd]
        refine ⟨l.length - (i + 1), _, by omega, ?_, i + 1, ⟨by omega, h8'⟩, rfl, rfl⟩
        rw [hns]
        simp only [runB, finC, finD, AS.get, AS.mem, false_implies, implies_true, ↓reduceIte, Nat.reduceEqDiff, Option.isSome_some, Option.isSome_none, forall_eq_or_imp, forall_eq, reduceCtorEq, Nat.reduceAdd, Nat.reduceMul, List.zip_cons_cons, List.zip_nil_left, List.zip_nil_right, List.forall_mem_nil]
        first | done | simp
      | true =>
        have hS := idxP_some hlt hp h8
        rw [hp] at hd
        generalize l.getD i zeroV = y at hg hd
        simp only [runA, runB, runC, runD, runE, runF, fieldE, storeE, binE, ↓reduceIte, Nat.reduceLT, Nat.reduceLeDiff, Nat.reduceEqDiff, Nat.reduceAdd, Nat.reduceMul, Nat.reduceSub, reduceCtorEq, putAt, unE, Nat.reduceBEq, convE, buildE, List.replicate, Int.reduceLT, Int.reduceLE, Int.reduceToNat, mkE, mapSetE, hN, hF, ty_3, ty_9, ty_68, ty_74, notIf, isEq, k1, e1, hg, h1, hd]
        simp only [runB, finC, finD, Option.isSome_some, Option.isSome_none, ↓reduceIte, Nat.reduceEqDiff, Nat.reduceAdd, Nat.reduceMul, forall_eq_or_imp, forall_eq, implies_true, Nat.reduceBEq, reduceCtorEq, false_implies, List.zip_cons_cons, List.zip_nil_left, List.zip_nil_right, Nat.reduceLeDiff, List.forall_mem_nil, rs_164, hS]
    · have k1 : decide ((i : Int) < (l.length : Int)) = false := by simpa using hlt
      obtain rfl : i = l.length := by omega
      have hS := idxP_none h8
      simp only [runA, runB, runC, runD, runE, runF, fieldE, storeE, binE, ↓reduceIte, Nat.reduceLT, Nat.reduceLeDiff, Nat.reduceEqDiff, Nat.reduceAdd, Nat.reduceMul, Nat.reduceSub, reduceCtorEq, putAt, unE, Nat.reduceBEq, convE, buildE, List.replicate, Int.reduceLT, Int.reduceLE, Int.reduceToNat, mkE, mapSetE, hN, hF, ty_3, ty_9, ty_68, ty_74, notIf, isEq, k1]
      simp only [runB, finC, finD, Option.isSome_some, Option.isSome_none, ↓reduceIte, Nat.reduceEqDiff, Nat.reduceAdd, Nat.reduceMul, forall_eq_or_imp, forall_eq, implies_true, Nat.reduceBEq, reduceCtorEq, false_implies, List.zip_cons_cons, List.zip_nil_left, List.zip_nil_right, Nat.reduceLeDiff, List.forall_mem_nil, rs_164, hS]
set_option maxHeartbeats 1000000 in
theorem odVF_sound (hΓ : SoundG Try.prog Γ) (h1 : Γ 164 = odVIC) : SoundC Try.prog 157 odVFC := by
  refine sound_fn Try.func157 (by kernel_rfl) rfl rfl ?_
  intro args objs r hr
  obtain ⟨l, hl, rfl, rfl, rfl⟩ := mkC_inv hr
  have hl : l.length ≤ 9223372036854775807 := hl
  refine ⟨rfl, by show 2 ≤ _; decide, fun E hN hns hF => ?_⟩
  refine vc_sound hΓ mixed _ _ _ ?_
  have hN := hN.trans nt_157
  have h2 := odVI_at l hl
  have h3 := idxP_ge (odmP) l
  simp only [runA, runB, runC, runD, runE, runF, fieldE, storeE, binE, ↓reduceIte, Nat.reduceLT, Nat.reduceLeDiff, Nat.reduceEqDiff, Nat.reduceAdd, Nat.reduceMul, Nat.reduceSub, reduceCtorEq, putAt, unE, Nat.reduceBEq, convE, buildE, List.replicate, Int.reduceLT, Int.reduceLE, Int.reduceToNat, mkE, mapSetE, hN, hF, ty_3, ty_4, ty_68, ty_74, notIf, isEq, h1, h2, h3]
  simp only [runB, finC, finD, Option.isSome_some, Option.isSome_none, ↓reduceIte, Nat.reduceEqDiff, Nat.reduceAdd, Nat.reduceMul, forall_eq_or_imp, forall_eq, implies_true, Nat.reduceBEq, reduceCtorEq, false_implies, List.zip_cons_cons, List.zip_nil_left, List.zip_nil_right, Nat.reduceLeDiff, List.forall_mem_nil, rs_157]
/-- May these votes be? -/
def votedP (l : List Vt) : Bool := decide (l.length ≤ 7) && !l.any odmP
theorem votedP_iff {l : List Vt} : votedP l = true ↔ l.length ≤ 7 ∧ ∀ v ∈ l, okV v := by
  unfold votedP
  rw [Bool.and_eq_true, decide_eq_true_iff]
  simp [odmP]
noncomputable def votdC : Contract := mkC (α := List Vt) (fun l => l.length ≤ 9223372036854775807) (fun l => [.c (.sl (votes l))]) (fun _ => []) (fun l => ⟨[.pv (.c (.bool (votedP l)))], []⟩)
theorem votd_at (l : List Vt) (h : l.length ≤ 9223372036854775807) : votdC [.c (.sl (votes l))] [] = some ⟨[.pv (.c (.bool (votedP l)))], []⟩ :=
  mkC_at (α := List Vt) l h (by
    rintro y _ h _
    simp only [List.cons.injEq, AV.c.injEq, PC.sl.injEq, votes_iff, and_true] at h
    rw [h])

set_option maxRecDepth 100000 in
set_option maxHeartbeats 4000000 in
theorem votd_sound (hΓ : SoundG Try.prog Γ) (h1 : Γ 157 = odVFC) : SoundC Try.prog 139 votdC := by
  refine sound_fn Try.func139 (by kernel_rfl) rfl rfl ?_
  intro args objs r0 hr
  obtain ⟨l, hl, rfl, rfl, rfl⟩ := mkC_inv hr
  refine ⟨rfl, by show 1 ≤ _; decide, fun E hN hns hF => ?_⟩
  refine vc_sound hΓ mixed _ _ _ ?_
  have hN := hN.trans nt_139
  have hl : l.length ≤ 9223372036854775807 := hl
  have q1 := odVF_at l hl
  unfold votedP
  generalize l.any odmP = an at q1 ⊢
  by_cases h7 : l.length ≤ 7
  · have g1 : decide ((l.length : Int) ≤ 7) = true := decide_eq_true (by omega)
    have g2 : decide (l.length ≤ 7) = true := decide_eq_true h7
    rw [g2]
    simp only [runA, runB, runC, runD, runE, runF, fieldE, storeE, binE, ↓reduceIte, Nat.reduceLT, Nat.reduceLeDiff, Nat.reduceEqDiff, Nat.reduceAdd, Nat.reduceMul, Nat.reduceSub, reduceCtorEq, putAt, unE, Nat.reduceBEq, convE, buildE, List.replicate, Int.reduceLT, Int.reduceLE, Int.reduceToNat, mkE, mapSetE, hN, hF, ty_3, ty_4, ty_68, ty_74, notIf, isEq, h1, q1, g1, votes_length]
    simp only [runB, finC, finD, Option.isSome_some, Option.isSome_none, ↓reduceIte, Nat.reduceEqDiff, Nat.reduceAdd, Nat.reduceMul, forall_eq_or_imp, forall_eq, implies_true, Nat.reduceBEq, reduceCtorEq, false_implies, List.zip_cons_cons, List.zip_nil_left, List.zip_nil_right, Nat.reduceLeDiff, List.forall_mem_nil, rs_139, ty_3, ty_4, ty_68, ty_74, Bool.true_and]
  · have g1 : decide ((l.length : Int) ≤ 7) = false := decide_eq_false (by omega)
    have g2 : decide (l.length ≤ 7) = false := decide_eq_false h7
    rw [g2]
    simp only [runA, runB, runC, runD, runE, runF, fieldE, storeE, binE, ↓reduceIte, Nat.reduceLT, Nat.reduceLeDiff, Nat.reduceEqDiff, Nat.reduceAdd, Nat.reduceMul, Nat.reduceSub, reduceCtorEq, putAt, unE, Nat.reduceBEq, convE, buildE, List.replicate, Int.reduceLT, Int.reduceLE, Int.reduceToNat, mkE, mapSetE, hN, hF, ty_3, ty_4, ty_68, ty_74, notIf, isEq, g1, votes_length]
    simp only [runB, finC, finD, Option.isSome_some, Option.isSome_none, ↓reduceIte, Nat.reduceEqDiff, Nat.reduceAdd, Nat.reduceMul, forall_eq_or_imp, forall_eq, implies_true, Nat.reduceBEq, reduceCtorEq, false_implies, List.zip_cons_cons, List.zip_nil_left, List.zip_nil_right, Nat.reduceLeDiff, List.forall_mem_nil, rs_139, ty_3, ty_4, ty_68, ty_74, Bool.false_and]
/-- May a cert be? -/
def certP (c : Ct) : Bool := decide (c.vw ≥ 0) && (decide (c.vw ≤ 1048576) && (decide (c.ht ≥ 0) && (decide (c.ht ≤ 1048576) && (((c.bl.length : Int) == 32) && votedP c.vs))))
theorem certP_iff {c : Ct} : certP c = true ↔ (0 ≤ c.vw ∧ c.vw ≤ 1048576) ∧ (0 ≤ c.ht ∧ c.ht ≤ 1048576) ∧ c.bl.length = 32 ∧ c.vs.length ≤ 7 ∧ ∀ v ∈ c.vs, okV v := by
  unfold certP
  simp only [Bool.and_eq_true, decide_eq_true_iff, beq_iff_eq, votedP_iff]
  constructor
  · rintro ⟨a, b, c, d, e, f⟩; exact ⟨⟨a, b⟩, ⟨c, d⟩, by omega, f⟩
  · rintro ⟨⟨a, b⟩, ⟨c, d⟩, e, f⟩; exact ⟨a, b, c, d, by omega, f⟩
noncomputable def cefC : Contract := mkC (α := Ct) lnC (fun c => [c.av]) (fun _ => []) (fun c => ⟨[.pv (.c (.bool (certP c)))], []⟩)
theorem cef_at (c : Ct) (h : lnC c) : cefC [.agg [.c (.int .i64 c.vw), .c (.int .i64 c.ht), .c (.str c.bl), .c (.sl (votes c.vs))]] [] = some ⟨[.pv (.c (.bool (certP c)))], []⟩ :=
  mkC_at (α := Ct) c h (by
    rintro y _ h _
    have h : [y.av] = [c.av] := h
    simp only [List.cons.injEq, and_true, Ct.av_iff] at h
    rw [h])

set_option maxRecDepth 100000 in
set_option maxHeartbeats 4000000 in
theorem cef_sound (hΓ : SoundG Try.prog Γ) (h1 : Γ 139 = votdC) : SoundC Try.prog 141 cefC := by
  refine sound_fn Try.func141 (by kernel_rfl) rfl rfl ?_
  intro args objs r0 hr
  obtain ⟨⟨a1, a2, a3, a4⟩, hl, rfl, rfl, rfl⟩ := mkC_inv hr
  refine ⟨rfl, by show 1 ≤ _; decide, fun E hN hns hF => ?_⟩
  refine vc_sound hΓ mixed _ _ _ ?_
  have hN := hN.trans nt_141
  have q1 := votd_at a4 hl
  unfold Ct.av certP
  dsimp only
  generalize votedP a4 = vt at q1 ⊢
  generalize hb1 : decide (a1 ≥ 0) = e1
  generalize hb2 : decide (a1 ≤ 1048576) = e2
  generalize hb3 : decide (a2 ≥ 0) = e3
  generalize hb4 : decide (a2 ≤ 1048576) = e4
  generalize hb5 : ((a3.length : Int) == 32) = e5
  cases e1
  case false => (simp only [runA, runB, runC, runD, runE, runF, fieldE, storeE, binE, ↓reduceIte, Nat.reduceLT, Nat.reduceLeDiff, Nat.reduceEqDiff, Nat.reduceAdd, Nat.reduceMul, Nat.reduceSub, reduceCtorEq, putAt, unE, Nat.reduceBEq, convE, buildE, List.replicate, Int.reduceLT, Int.reduceLE, Int.reduceToNat, mkE, mapSetE, hN, hF, ty_3, ty_4, ty_9, ty_68, ty_70, ty_74, notIf, isEq, hb1, hb2, hb3, hb4, hb5, h1, q1, Bool.true_and, Bool.false_and]; (iterate 3 (try (refine drawnP_intro (by kernel_rfl) (by kernel_rfl) ?_; simp only [runA, runB, runC, runD, runE, runF, fieldE, storeE, binE, ↓reduceIte, Nat.reduceLT, Nat.reduceLeDiff, Nat.reduceEqDiff, Nat.reduceAdd, Nat.reduceMul, Nat.reduceSub, reduceCtorEq, putAt, unE, Nat.reduceBEq, convE, buildE, List.replicate, Int.reduceLT, Int.reduceLE, Int.reduceToNat, mkE, mapSetE, hN, hF, ty_3, ty_4, ty_9, ty_68, ty_70, ty_74, notIf, isEq, hb1, hb2, hb3, hb4, hb5, h1, q1, Bool.true_and, Bool.false_and]))); (simp only [runB, finC, finD, Option.isSome_some, Option.isSome_none, ↓reduceIte, Nat.reduceEqDiff, Nat.reduceAdd, Nat.reduceMul, forall_eq_or_imp, forall_eq, implies_true, Nat.reduceBEq, reduceCtorEq, false_implies, List.zip_cons_cons, List.zip_nil_left, List.zip_nil_right, Nat.reduceLeDiff, List.forall_mem_nil, rs_141, ty_3, ty_4, ty_9, ty_68, ty_70, ty_74, Bool.true_and, Bool.false_and]))
  cases e2
  case false => (simp only [runA, runB, runC, runD, runE, runF, fieldE, storeE, binE, ↓reduceIte, Nat.reduceLT, Nat.reduceLeDiff, Nat.reduceEqDiff, Nat.reduceAdd, Nat.reduceMul, Nat.reduceSub, reduceCtorEq, putAt, unE, Nat.reduceBEq, convE, buildE, List.replicate, Int.reduceLT, Int.reduceLE, Int.reduceToNat, mkE, mapSetE, hN, hF, ty_3, ty_4, ty_9, ty_68, ty_70, ty_74, notIf, isEq, hb1, hb2, hb3, hb4, hb5, h1, q1, Bool.true_and, Bool.false_and]; (iterate 3 (try (refine drawnP_intro (by kernel_rfl) (by kernel_rfl) ?_; simp only [runA, runB, runC, runD, runE, runF, fieldE, storeE, binE, ↓reduceIte, Nat.reduceLT, Nat.reduceLeDiff, Nat.reduceEqDiff, Nat.reduceAdd, Nat.reduceMul, Nat.reduceSub, reduceCtorEq, putAt, unE, Nat.reduceBEq, convE, buildE, List.replicate, Int.reduceLT, Int.reduceLE, Int.reduceToNat, mkE, mapSetE, hN, hF, ty_3, ty_4, ty_9, ty_68, ty_70, ty_74, notIf, isEq, hb1, hb2, hb3, hb4, hb5, h1, q1, Bool.true_and, Bool.false_and]))); (simp only [runB, finC, finD, Option.isSome_some, Option.isSome_none, ↓reduceIte, Nat.reduceEqDiff, Nat.reduceAdd, Nat.reduceMul, forall_eq_or_imp, forall_eq, implies_true, Nat.reduceBEq, reduceCtorEq, false_implies, List.zip_cons_cons, List.zip_nil_left, List.zip_nil_right, Nat.reduceLeDiff, List.forall_mem_nil, rs_141, ty_3, ty_4, ty_9, ty_68, ty_70, ty_74, Bool.true_and, Bool.false_and]))
  cases e3
  case false => (simp only [runA, runB, runC, runD, runE, runF, fieldE, storeE, binE, ↓reduceIte, Nat.reduceLT, Nat.reduceLeDiff, Nat.reduceEqDiff, Nat.reduceAdd, Nat.reduceMul, Nat.reduceSub, reduceCtorEq, putAt, unE, Nat.reduceBEq, convE, buildE, List.replicate, Int.reduceLT, Int.reduceLE, Int.reduceToNat, mkE, mapSetE, hN, hF, ty_3, ty_4, ty_9, ty_68, ty_70, ty_74, notIf, isEq, hb1, hb2, hb3, hb4, hb5, h1, q1, Bool.true_and, Bool.false_and]; (iterate 3 (try (refine drawnP_intro (by kernel_rfl) (by kernel_rfl) ?_; simp only [runA, runB, runC, runD, runE, runF, fieldE, storeE, binE, ↓reduceIte, Nat.reduceLT, Nat.reduceLeDiff, Nat.reduceEqDiff, Nat.reduceAdd, Nat.reduceMul, Nat.reduceSub, reduceCtorEq, putAt, unE, Nat.reduceBEq, convE, buildE, List.replicate, Int.reduceLT, Int.reduceLE, Int.reduceToNat, mkE, mapSetE, hN, hF, ty_3, ty_4, ty_9, ty_68, ty_70, ty_74, notIf, isEq, hb1, hb2, hb3, hb4, hb5, h1, q1, Bool.true_and, Bool.false_and]))); (simp only [runB, finC, finD, Option.isSome_some, Option.isSome_none, ↓reduceIte, Nat.reduceEqDiff, Nat.reduceAdd, Nat.reduceMul, forall_eq_or_imp, forall_eq, implies_true, Nat.reduceBEq, reduceCtorEq, false_implies, List.zip_cons_cons, List.zip_nil_left, List.zip_nil_right, Nat.reduceLeDiff, List.forall_mem_nil, rs_141, ty_3, ty_4, ty_9, ty_68, ty_70, ty_74, Bool.true_and, Bool.false_and]))
  cases e4
  case false => (simp only [runA, runB, runC, runD, runE, runF, fieldE, storeE, binE, ↓reduceIte, Nat.reduceLT, Nat.reduceLeDiff, Nat.reduceEqDiff, Nat.reduceAdd, Nat.reduceMul, Nat.reduceSub, reduceCtorEq, putAt, unE, Nat.reduceBEq, convE, buildE, List.replicate, Int.reduceLT, Int.reduceLE, Int.reduceToNat, mkE, mapSetE, hN, hF, ty_3, ty_4, ty_9, ty_68, ty_70, ty_74, notIf, isEq, hb1, hb2, hb3, hb4, hb5, h1, q1, Bool.true_and, Bool.false_and]; (iterate 3 (try (refine drawnP_intro (by kernel_rfl) (by kernel_rfl) ?_; simp only [runA, runB, runC, runD, runE, runF, fieldE, storeE, binE, ↓reduceIte, Nat.reduceLT, Nat.reduceLeDiff, Nat.reduceEqDiff, Nat.reduceAdd, Nat.reduceMul, Nat.reduceSub, reduceCtorEq, putAt, unE, Nat.reduceBEq, convE, buildE, List.replicate, Int.reduceLT, Int.reduceLE, Int.reduceToNat, mkE, mapSetE, hN, hF, ty_3, ty_4, ty_9, ty_68, ty_70, ty_74, notIf, isEq, hb1, hb2, hb3, hb4, hb5, h1, q1, Bool.true_and, Bool.false_and]))); (simp only [runB, finC, finD, Option.isSome_some, Option.isSome_none, ↓reduceIte, Nat.reduceEqDiff, Nat.reduceAdd, Nat.reduceMul, forall_eq_or_imp, forall_eq, implies_true, Nat.reduceBEq, reduceCtorEq, false_implies, List.zip_cons_cons, List.zip_nil_left, List.zip_nil_right, Nat.reduceLeDiff, List.forall_mem_nil, rs_141, ty_3, ty_4, ty_9, ty_68, ty_70, ty_74, Bool.true_and, Bool.false_and]))
  cases e5
  case false => (simp only [runA, runB, runC, runD, runE, runF, fieldE, storeE, binE, ↓reduceIte, Nat.reduceLT, Nat.reduceLeDiff, Nat.reduceEqDiff, Nat.reduceAdd, Nat.reduceMul, Nat.reduceSub, reduceCtorEq, putAt, unE, Nat.reduceBEq, convE, buildE, List.replicate, Int.reduceLT, Int.reduceLE, Int.reduceToNat, mkE, mapSetE, hN, hF, ty_3, ty_4, ty_9, ty_68, ty_70, ty_74, notIf, isEq, hb1, hb2, hb3, hb4, hb5, h1, q1, Bool.true_and, Bool.false_and]; (iterate 3 (try (refine drawnP_intro (by kernel_rfl) (by kernel_rfl) ?_; simp only [runA, runB, runC, runD, runE, runF, fieldE, storeE, binE, ↓reduceIte, Nat.reduceLT, Nat.reduceLeDiff, Nat.reduceEqDiff, Nat.reduceAdd, Nat.reduceMul, Nat.reduceSub, reduceCtorEq, putAt, unE, Nat.reduceBEq, convE, buildE, List.replicate, Int.reduceLT, Int.reduceLE, Int.reduceToNat, mkE, mapSetE, hN, hF, ty_3, ty_4, ty_9, ty_68, ty_70, ty_74, notIf, isEq, hb1, hb2, hb3, hb4, hb5, h1, q1, Bool.true_and, Bool.false_and]))); (simp only [runB, finC, finD, Option.isSome_some, Option.isSome_none, ↓reduceIte, Nat.reduceEqDiff, Nat.reduceAdd, Nat.reduceMul, forall_eq_or_imp, forall_eq, implies_true, Nat.reduceBEq, reduceCtorEq, false_implies, List.zip_cons_cons, List.zip_nil_left, List.zip_nil_right, Nat.reduceLeDiff, List.forall_mem_nil, rs_141, ty_3, ty_4, ty_9, ty_68, ty_70, ty_74, Bool.true_and, Bool.false_and]))
  (simp only [runA, runB, runC, runD, runE, runF, fieldE, storeE, binE, ↓reduceIte, Nat.reduceLT, Nat.reduceLeDiff, Nat.reduceEqDiff, Nat.reduceAdd, Nat.reduceMul, Nat.reduceSub, reduceCtorEq, putAt, unE, Nat.reduceBEq, convE, buildE, List.replicate, Int.reduceLT, Int.reduceLE, Int.reduceToNat, mkE, mapSetE, hN, hF, ty_3, ty_4, ty_9, ty_68, ty_70, ty_74, notIf, isEq, hb1, hb2, hb3, hb4, hb5, h1, q1, Bool.true_and, Bool.false_and]; (iterate 3 (try (refine drawnP_intro (by kernel_rfl) (by kernel_rfl) ?_; simp only [runA, runB, runC, runD, runE, runF, fieldE, storeE, binE, ↓reduceIte, Nat.reduceLT, Nat.reduceLeDiff, Nat.reduceEqDiff, Nat.reduceAdd, Nat.reduceMul, Nat.reduceSub, reduceCtorEq, putAt, unE, Nat.reduceBEq, convE, buildE, List.replicate, Int.reduceLT, Int.reduceLE, Int.reduceToNat, mkE, mapSetE, hN, hF, ty_3, ty_4, ty_9, ty_68, ty_70, ty_74, notIf, isEq, hb1, hb2, hb3, hb4, hb5, h1, q1, Bool.true_and, Bool.false_and]))); (simp only [runB, finC, finD, Option.isSome_some, Option.isSome_none, ↓reduceIte, Nat.reduceEqDiff, Nat.reduceAdd, Nat.reduceMul, forall_eq_or_imp, forall_eq, implies_true, Nat.reduceBEq, reduceCtorEq, false_implies, List.zip_cons_cons, List.zip_nil_left, List.zip_nil_right, Nat.reduceLeDiff, List.forall_mem_nil, rs_141, ty_3, ty_4, ty_9, ty_68, ty_70, ty_74, Bool.true_and, Bool.false_and]))
def zeroMsg : Msg := ⟨0, zeroBk, zeroV, zeroCt, [], [], zeroT⟩
/-- What a message is of its kind alone, and whether that may be. -/
def canM (m : Msg) : Msg × Bool :=
  if m.kd = 1 then (⟨m.kd, m.bk, zeroV, zeroCt, [], [], zeroT⟩, decide (okB m.bk) && votedP m.bk.ju.vs)
  else if m.kd = 2 then (⟨m.kd, zeroBk, m.vo, zeroCt, [], [], zeroT⟩, !odmP m.vo)
  else if m.kd = 3 then (⟨m.kd, zeroBk, zeroV, m.ct, [], [], zeroT⟩, certP m.ct)
  else if m.kd = 4 then (⟨m.kd, zeroBk, zeroV, zeroCt, m.bs, [], zeroT⟩, votedP m.bs)
  else if m.kd = 5 then (⟨m.kd, zeroBk, zeroV, zeroCt, [], m.ak, zeroT⟩, (m.ak.length : Int) == 32)
  else if m.kd = 6 then (⟨m.kd, zeroBk, zeroV, zeroCt, [], [], m.tx⟩, decide (okT m.tx))
  else (zeroMsg, false)
theorem canM_ln {m : Msg} (h : lnM m) : lnM (canM m).1 := by
  obtain ⟨⟨h1, h2⟩, h3, h4⟩ := h
  unfold lnC at h3
  unfold canM
  (repeat' split) <;> refine ⟨⟨?_, ?_⟩, ?_, ?_⟩ <;> simp [zeroBk, zeroCt, zeroMsg, lnC] <;> assumption
noncomputable def bareC : Contract := mkC (α := Msg) lnM (fun m => [m.av]) (fun _ => []) (fun m => ⟨[.pv (canM m).1.av, .pv (.c (.bool (canM m).2))], []⟩)
theorem bare_at (m : Msg) (h : lnM m) : bareC [.agg [.c (.int .i64 m.kd), .c (.int .i64 m.bk.vw), .c (.int .i64 m.bk.ht), .c (.str m.bk.pa), .c (.int .i64 m.bk.ju.vw), .c (.int .i64 m.bk.ju.ht), .c (.str m.bk.ju.bl), .c (.sl (votes m.bk.ju.vs)), .c (.sl (trows m.bk.txs)), .c (.str m.bk.sig), .c (.int .i64 m.vo.kd), .c (.int .i64 m.vo.vw), .c (.int .i64 m.vo.ht), .c (.str m.vo.bl), .c (.int .i64 m.vo.tk), .c (.int .i64 m.vo.sg), .c (.str m.vo.sig), .c (.int .i64 m.ct.vw), .c (.int .i64 m.ct.ht), .c (.str m.ct.bl), .c (.sl (votes m.ct.vs)), .c (.sl (votes m.bs)), .c (.str m.ak), .c (.int .i64 m.tx.fr), .c (.int .i64 m.tx.to), .c (.int .i64 m.tx.am), .c (.int .i64 m.tx.no), .c (.str m.tx.sig)]] [] = some ⟨[.pv (canM m).1.av, .pv (.c (.bool (canM m).2))], []⟩ :=
  mkC_at (α := Msg) m h (by
    rintro y _ h _
    have h : [y.av] = [m.av] := h
    simp only [List.cons.injEq, and_true, Msg.av_iff] at h
    rw [h])


variable {Γ : FuncId → Contract}


set_option maxRecDepth 100000 in
set_option maxHeartbeats 4000000 in
theorem bare_sound (hΓ : SoundG Try.prog Γ) (h1 : Γ 138 = bkCkC) (h2 : Γ 139 = votdC) (h3 : Γ 140 = odmC) (h4 : Γ 141 = cefC) (h5 : Γ 90 = txCkC) : SoundC Try.prog 118 bareC := by
  refine sound_fn Try.func118 (by kernel_rfl) rfl rfl ?_
  intro args objs r0 hr
  obtain ⟨⟨kd, bk, vo, ct, bs, ak, tx⟩, hl, rfl, rfl, rfl⟩ := mkC_inv hr
  refine ⟨rfl, by show 1 ≤ _; decide, fun E hN hns hF => ?_⟩
  refine vc_sound hΓ mixed _ _ _ ?_
  have hN := hN.trans nt_118
  obtain ⟨⟨hb1, hb2⟩, hc, hv⟩ := hl
  have hb1 : bk.txs.length ≤ 9223372036854775807 := hb1
  have hb2 : bk.ju.vs.length ≤ 9223372036854775807 := hb2
  have hv : bs.length ≤ 9223372036854775807 := hv
  have vn : votes [] = [] := rfl
  have tn : trows [] = [] := rfl
  unfold Msg.av
  dsimp only
  by_cases k1 : kd = 1
  · subst k1
    have c11 : ((1 : Int) == 1) = true := rfl
    have hS : canM ⟨1, bk, vo, ct, bs, ak, tx⟩ = (⟨1, bk, zeroV, zeroCt, [], [], zeroT⟩, decide (okB bk) && votedP bk.ju.vs) := rfl
    rw [hS]
    have q1 := bkCk_at bk hb1
    have q2 := votd_at bk.ju.vs hb2
    generalize votedP bk.ju.vs = vt at q2 ⊢
    by_cases hk : okB bk
    · rw [show bkS bk = 0 from if_pos hk] at q1
      rw [decide_eq_true hk]
      have g1 : ((0 : Int) == 0) = true := rfl
      simp only [runA, runB, runC, runD, runE, runF, fieldE, storeE, binE, ↓reduceIte, Nat.reduceLT, Nat.reduceLeDiff, Nat.reduceEqDiff, Nat.reduceAdd, Nat.reduceMul, Nat.reduceSub, reduceCtorEq, putAt, unE, Nat.reduceBEq, convE, buildE, List.replicate, Int.reduceLT, Int.reduceLE, Int.reduceToNat, mkE, mapSetE, hN, hF, ty_3, ty_4, ty_9, ty_27, ty_50, ty_54, ty_68, ty_70, ty_72, ty_74, ty_76, notIf, isEq, h1, h2, h3, h4, h5, c11, q1, q2, g1]
      iterate 3 (try (refine drawnP_intro (by kernel_rfl) (by kernel_rfl) ?_; simp only [runA, runB, runC, runD, runE, runF, fieldE, storeE, binE, ↓reduceIte, Nat.reduceLT, Nat.reduceLeDiff, Nat.reduceEqDiff, Nat.reduceAdd, Nat.reduceMul, Nat.reduceSub, reduceCtorEq, putAt, unE, Nat.reduceBEq, convE, buildE, List.replicate, Int.reduceLT, Int.reduceLE, Int.reduceToNat, mkE, mapSetE, hN, hF, ty_3, ty_4, ty_9, ty_27, ty_50, ty_54, ty_68, ty_70, ty_72, ty_74, ty_76, notIf, isEq, h1, h2, h3, h4, h5, c11, q1, q2, g1]))
      simp only [runB, finC, finD, Option.isSome_some, Option.isSome_none, ↓reduceIte, Nat.reduceEqDiff, Nat.reduceAdd, Nat.reduceMul, forall_eq_or_imp, forall_eq, implies_true, Nat.reduceBEq, reduceCtorEq, false_implies, List.zip_cons_cons, List.zip_nil_left, List.zip_nil_right, Nat.reduceLeDiff, List.forall_mem_nil, rs_118, ty_3, ty_4, ty_9, ty_27, ty_50, ty_54, ty_68, ty_70, ty_72, ty_74, ty_76, zeroBk, zeroV, zeroCt, zeroT, Msg.av, vn, tn, Bool.true_and, Bool.false_and, votes_length]
    · rw [show bkS bk = 9 from if_neg hk] at q1
      rw [decide_eq_false hk]
      have g1 : ((9 : Int) == 0) = false := rfl
      simp only [runA, runB, runC, runD, runE, runF, fieldE, storeE, binE, ↓reduceIte, Nat.reduceLT, Nat.reduceLeDiff, Nat.reduceEqDiff, Nat.reduceAdd, Nat.reduceMul, Nat.reduceSub, reduceCtorEq, putAt, unE, Nat.reduceBEq, convE, buildE, List.replicate, Int.reduceLT, Int.reduceLE, Int.reduceToNat, mkE, mapSetE, hN, hF, ty_3, ty_4, ty_9, ty_27, ty_50, ty_54, ty_68, ty_70, ty_72, ty_74, ty_76, notIf, isEq, h1, h2, h3, h4, h5, c11, q1, q2, g1]
      iterate 3 (try (refine drawnP_intro (by kernel_rfl) (by kernel_rfl) ?_; simp only [runA, runB, runC, runD, runE, runF, fieldE, storeE, binE, ↓reduceIte, Nat.reduceLT, Nat.reduceLeDiff, Nat.reduceEqDiff, Nat.reduceAdd, Nat.reduceMul, Nat.reduceSub, reduceCtorEq, putAt, unE, Nat.reduceBEq, convE, buildE, List.replicate, Int.reduceLT, Int.reduceLE, Int.reduceToNat, mkE, mapSetE, hN, hF, ty_3, ty_4, ty_9, ty_27, ty_50, ty_54, ty_68, ty_70, ty_72, ty_74, ty_76, notIf, isEq, h1, h2, h3, h4, h5, c11, q1, q2, g1]))
      simp only [runB, finC, finD, Option.isSome_some, Option.isSome_none, ↓reduceIte, Nat.reduceEqDiff, Nat.reduceAdd, Nat.reduceMul, forall_eq_or_imp, forall_eq, implies_true, Nat.reduceBEq, reduceCtorEq, false_implies, List.zip_cons_cons, List.zip_nil_left, List.zip_nil_right, Nat.reduceLeDiff, List.forall_mem_nil, rs_118, ty_3, ty_4, ty_9, ty_27, ty_50, ty_54, ty_68, ty_70, ty_72, ty_74, ty_76, zeroBk, zeroV, zeroCt, zeroT, Msg.av, vn, tn, Bool.true_and, Bool.false_and, votes_length]
  by_cases k2 : kd = 2
  · subst k2
    have c21 : ((2 : Int) == 1) = false := rfl
    have c22 : ((2 : Int) == 2) = true := rfl
    have hS : canM ⟨2, bk, vo, ct, bs, ak, tx⟩ = (⟨2, zeroBk, vo, zeroCt, [], [], zeroT⟩, !odmP vo) := rfl
    rw [hS]
    have q1 := odm_at vo
    generalize odmP vo = od at q1 ⊢
    simp only [runA, runB, runC, runD, runE, runF, fieldE, storeE, binE, ↓reduceIte, Nat.reduceLT, Nat.reduceLeDiff, Nat.reduceEqDiff, Nat.reduceAdd, Nat.reduceMul, Nat.reduceSub, reduceCtorEq, putAt, unE, Nat.reduceBEq, convE, buildE, List.replicate, Int.reduceLT, Int.reduceLE, Int.reduceToNat, mkE, mapSetE, hN, hF, ty_3, ty_4, ty_9, ty_27, ty_50, ty_54, ty_68, ty_70, ty_72, ty_74, ty_76, notIf, isEq, h1, h2, h3, h4, h5, c21, c22, q1]
    iterate 3 (try (refine drawnP_intro (by kernel_rfl) (by kernel_rfl) ?_; simp only [runA, runB, runC, runD, runE, runF, fieldE, storeE, binE, ↓reduceIte, Nat.reduceLT, Nat.reduceLeDiff, Nat.reduceEqDiff, Nat.reduceAdd, Nat.reduceMul, Nat.reduceSub, reduceCtorEq, putAt, unE, Nat.reduceBEq, convE, buildE, List.replicate, Int.reduceLT, Int.reduceLE, Int.reduceToNat, mkE, mapSetE, hN, hF, ty_3, ty_4, ty_9, ty_27, ty_50, ty_54, ty_68, ty_70, ty_72, ty_74, ty_76, notIf, isEq, h1, h2, h3, h4, h5, c21, c22, q1]))
    simp only [runB, finC, finD, Option.isSome_some, Option.isSome_none, ↓reduceIte, Nat.reduceEqDiff, Nat.reduceAdd, Nat.reduceMul, forall_eq_or_imp, forall_eq, implies_true, Nat.reduceBEq, reduceCtorEq, false_implies, List.zip_cons_cons, List.zip_nil_left, List.zip_nil_right, Nat.reduceLeDiff, List.forall_mem_nil, rs_118, ty_3, ty_4, ty_9, ty_27, ty_50, ty_54, ty_68, ty_70, ty_72, ty_74, ty_76, zeroBk, zeroV, zeroCt, zeroT, Msg.av, vn, tn, Bool.true_and, Bool.false_and, votes_length]
  by_cases k3 : kd = 3
  · subst k3
    have c31 : ((3 : Int) == 1) = false := rfl
    have c32 : ((3 : Int) == 2) = false := rfl
    have c33 : ((3 : Int) == 3) = true := rfl
    have hS : canM ⟨3, bk, vo, ct, bs, ak, tx⟩ = (⟨3, zeroBk, zeroV, ct, [], [], zeroT⟩, certP ct) := rfl
    rw [hS]
    have q1 := cef_at ct hc
    generalize certP ct = od at q1 ⊢
    simp only [runA, runB, runC, runD, runE, runF, fieldE, storeE, binE, ↓reduceIte, Nat.reduceLT, Nat.reduceLeDiff, Nat.reduceEqDiff, Nat.reduceAdd, Nat.reduceMul, Nat.reduceSub, reduceCtorEq, putAt, unE, Nat.reduceBEq, convE, buildE, List.replicate, Int.reduceLT, Int.reduceLE, Int.reduceToNat, mkE, mapSetE, hN, hF, ty_3, ty_4, ty_9, ty_27, ty_50, ty_54, ty_68, ty_70, ty_72, ty_74, ty_76, notIf, isEq, h1, h2, h3, h4, h5, c31, c32, c33, q1]
    iterate 3 (try (refine drawnP_intro (by kernel_rfl) (by kernel_rfl) ?_; simp only [runA, runB, runC, runD, runE, runF, fieldE, storeE, binE, ↓reduceIte, Nat.reduceLT, Nat.reduceLeDiff, Nat.reduceEqDiff, Nat.reduceAdd, Nat.reduceMul, Nat.reduceSub, reduceCtorEq, putAt, unE, Nat.reduceBEq, convE, buildE, List.replicate, Int.reduceLT, Int.reduceLE, Int.reduceToNat, mkE, mapSetE, hN, hF, ty_3, ty_4, ty_9, ty_27, ty_50, ty_54, ty_68, ty_70, ty_72, ty_74, ty_76, notIf, isEq, h1, h2, h3, h4, h5, c31, c32, c33, q1]))
    simp only [runB, finC, finD, Option.isSome_some, Option.isSome_none, ↓reduceIte, Nat.reduceEqDiff, Nat.reduceAdd, Nat.reduceMul, forall_eq_or_imp, forall_eq, implies_true, Nat.reduceBEq, reduceCtorEq, false_implies, List.zip_cons_cons, List.zip_nil_left, List.zip_nil_right, Nat.reduceLeDiff, List.forall_mem_nil, rs_118, ty_3, ty_4, ty_9, ty_27, ty_50, ty_54, ty_68, ty_70, ty_72, ty_74, ty_76, zeroBk, zeroV, zeroCt, zeroT, Msg.av, vn, tn, Bool.true_and, Bool.false_and, votes_length]
  by_cases k4 : kd = 4
  · subst k4
    have c41 : ((4 : Int) == 1) = false := rfl
    have c42 : ((4 : Int) == 2) = false := rfl
    have c43 : ((4 : Int) == 3) = false := rfl
    have c44 : ((4 : Int) == 4) = true := rfl
    have hS : canM ⟨4, bk, vo, ct, bs, ak, tx⟩ = (⟨4, zeroBk, zeroV, zeroCt, bs, [], zeroT⟩, votedP bs) := rfl
    rw [hS]
    have q1 := votd_at bs hv
    generalize votedP bs = od at q1 ⊢
    simp only [runA, runB, runC, runD, runE, runF, fieldE, storeE, binE, ↓reduceIte, Nat.reduceLT, Nat.reduceLeDiff, Nat.reduceEqDiff, Nat.reduceAdd, Nat.reduceMul, Nat.reduceSub, reduceCtorEq, putAt, unE, Nat.reduceBEq, convE, buildE, List.replicate, Int.reduceLT, Int.reduceLE, Int.reduceToNat, mkE, mapSetE, hN, hF, ty_3, ty_4, ty_9, ty_27, ty_50, ty_54, ty_68, ty_70, ty_72, ty_74, ty_76, notIf, isEq, h1, h2, h3, h4, h5, c41, c42, c43, c44, q1]
    iterate 3 (try (refine drawnP_intro (by kernel_rfl) (by kernel_rfl) ?_; simp only [runA, runB, runC, runD, runE, runF, fieldE, storeE, binE, ↓reduceIte, Nat.reduceLT, Nat.reduceLeDiff, Nat.reduceEqDiff, Nat.reduceAdd, Nat.reduceMul, Nat.reduceSub, reduceCtorEq, putAt, unE, Nat.reduceBEq, convE, buildE, List.replicate, Int.reduceLT, Int.reduceLE, Int.reduceToNat, mkE, mapSetE, hN, hF, ty_3, ty_4, ty_9, ty_27, ty_50, ty_54, ty_68, ty_70, ty_72, ty_74, ty_76, notIf, isEq, h1, h2, h3, h4, h5, c41, c42, c43, c44, q1]))
    simp only [runB, finC, finD, Option.isSome_some, Option.isSome_none, ↓reduceIte, Nat.reduceEqDiff, Nat.reduceAdd, Nat.reduceMul, forall_eq_or_imp, forall_eq, implies_true, Nat.reduceBEq, reduceCtorEq, false_implies, List.zip_cons_cons, List.zip_nil_left, List.zip_nil_right, Nat.reduceLeDiff, List.forall_mem_nil, rs_118, ty_3, ty_4, ty_9, ty_27, ty_50, ty_54, ty_68, ty_70, ty_72, ty_74, ty_76, zeroBk, zeroV, zeroCt, zeroT, Msg.av, vn, tn, Bool.true_and, Bool.false_and, votes_length]
  by_cases k5 : kd = 5
  · subst k5
    have c51 : ((5 : Int) == 1) = false := rfl
    have c52 : ((5 : Int) == 2) = false := rfl
    have c53 : ((5 : Int) == 3) = false := rfl
    have c54 : ((5 : Int) == 4) = false := rfl
    have c55 : ((5 : Int) == 5) = true := rfl
    have hS : canM ⟨5, bk, vo, ct, bs, ak, tx⟩ = (⟨5, zeroBk, zeroV, zeroCt, [], ak, zeroT⟩, (ak.length : Int) == 32) := rfl
    rw [hS]
    generalize hak : ((ak.length : Int) == 32) = od
    simp only [runA, runB, runC, runD, runE, runF, fieldE, storeE, binE, ↓reduceIte, Nat.reduceLT, Nat.reduceLeDiff, Nat.reduceEqDiff, Nat.reduceAdd, Nat.reduceMul, Nat.reduceSub, reduceCtorEq, putAt, unE, Nat.reduceBEq, convE, buildE, List.replicate, Int.reduceLT, Int.reduceLE, Int.reduceToNat, mkE, mapSetE, hN, hF, ty_3, ty_4, ty_9, ty_27, ty_50, ty_54, ty_68, ty_70, ty_72, ty_74, ty_76, notIf, isEq, h1, h2, h3, h4, h5, c51, c52, c53, c54, c55, hak]
    iterate 3 (try (refine drawnP_intro (by kernel_rfl) (by kernel_rfl) ?_; simp only [runA, runB, runC, runD, runE, runF, fieldE, storeE, binE, ↓reduceIte, Nat.reduceLT, Nat.reduceLeDiff, Nat.reduceEqDiff, Nat.reduceAdd, Nat.reduceMul, Nat.reduceSub, reduceCtorEq, putAt, unE, Nat.reduceBEq, convE, buildE, List.replicate, Int.reduceLT, Int.reduceLE, Int.reduceToNat, mkE, mapSetE, hN, hF, ty_3, ty_4, ty_9, ty_27, ty_50, ty_54, ty_68, ty_70, ty_72, ty_74, ty_76, notIf, isEq, h1, h2, h3, h4, h5, c51, c52, c53, c54, c55, hak]))
    simp only [runB, finC, finD, Option.isSome_some, Option.isSome_none, ↓reduceIte, Nat.reduceEqDiff, Nat.reduceAdd, Nat.reduceMul, forall_eq_or_imp, forall_eq, implies_true, Nat.reduceBEq, reduceCtorEq, false_implies, List.zip_cons_cons, List.zip_nil_left, List.zip_nil_right, Nat.reduceLeDiff, List.forall_mem_nil, rs_118, ty_3, ty_4, ty_9, ty_27, ty_50, ty_54, ty_68, ty_70, ty_72, ty_74, ty_76, zeroBk, zeroV, zeroCt, zeroT, Msg.av, vn, tn, Bool.true_and, Bool.false_and, votes_length]
  by_cases k6 : kd = 6
  · subst k6
    have c61 : ((6 : Int) == 1) = false := rfl
    have c62 : ((6 : Int) == 2) = false := rfl
    have c63 : ((6 : Int) == 3) = false := rfl
    have c64 : ((6 : Int) == 4) = false := rfl
    have c65 : ((6 : Int) == 5) = false := rfl
    have c66 : ((6 : Int) == 6) = true := rfl
    have hS : canM ⟨6, bk, vo, ct, bs, ak, tx⟩ = (⟨6, zeroBk, zeroV, zeroCt, [], [], tx⟩, decide (okT tx)) := rfl
    rw [hS]
    obtain ⟨t1, t2, t3, t4, t5⟩ := tx
    have q1 := txCk_at (⟨t1, t2, t3, t4, t5⟩ : Txn)
    dsimp only at q1 ⊢
    by_cases hk : okT (⟨t1, t2, t3, t4, t5⟩ : Txn)
    · rw [show txS (⟨t1, t2, t3, t4, t5⟩ : Txn) = 0 from if_pos hk] at q1
      rw [decide_eq_true hk]
      have g1 : ((0 : Int) == 0) = true := rfl
      simp only [runA, runB, runC, runD, runE, runF, fieldE, storeE, binE, ↓reduceIte, Nat.reduceLT, Nat.reduceLeDiff, Nat.reduceEqDiff, Nat.reduceAdd, Nat.reduceMul, Nat.reduceSub, reduceCtorEq, putAt, unE, Nat.reduceBEq, convE, buildE, List.replicate, Int.reduceLT, Int.reduceLE, Int.reduceToNat, mkE, mapSetE, hN, hF, ty_3, ty_4, ty_9, ty_27, ty_50, ty_54, ty_68, ty_70, ty_72, ty_74, ty_76, notIf, isEq, h1, h2, h3, h4, h5, c61, c62, c63, c64, c65, c66, q1, g1]
      iterate 3 (try (refine drawnP_intro (by kernel_rfl) (by kernel_rfl) ?_; simp only [runA, runB, runC, runD, runE, runF, fieldE, storeE, binE, ↓reduceIte, Nat.reduceLT, Nat.reduceLeDiff, Nat.reduceEqDiff, Nat.reduceAdd, Nat.reduceMul, Nat.reduceSub, reduceCtorEq, putAt, unE, Nat.reduceBEq, convE, buildE, List.replicate, Int.reduceLT, Int.reduceLE, Int.reduceToNat, mkE, mapSetE, hN, hF, ty_3, ty_4, ty_9, ty_27, ty_50, ty_54, ty_68, ty_70, ty_72, ty_74, ty_76, notIf, isEq, h1, h2, h3, h4, h5, c61, c62, c63, c64, c65, c66, q1, g1]))
      simp only [runB, finC, finD, Option.isSome_some, Option.isSome_none, ↓reduceIte, Nat.reduceEqDiff, Nat.reduceAdd, Nat.reduceMul, forall_eq_or_imp, forall_eq, implies_true, Nat.reduceBEq, reduceCtorEq, false_implies, List.zip_cons_cons, List.zip_nil_left, List.zip_nil_right, Nat.reduceLeDiff, List.forall_mem_nil, rs_118, ty_3, ty_4, ty_9, ty_27, ty_50, ty_54, ty_68, ty_70, ty_72, ty_74, ty_76, zeroBk, zeroV, zeroCt, zeroT, Msg.av, vn, tn, Bool.true_and, Bool.false_and, votes_length]
    · rw [show txS (⟨t1, t2, t3, t4, t5⟩ : Txn) = 9 from if_neg hk] at q1
      rw [decide_eq_false hk]
      have g1 : ((9 : Int) == 0) = false := rfl
      simp only [runA, runB, runC, runD, runE, runF, fieldE, storeE, binE, ↓reduceIte, Nat.reduceLT, Nat.reduceLeDiff, Nat.reduceEqDiff, Nat.reduceAdd, Nat.reduceMul, Nat.reduceSub, reduceCtorEq, putAt, unE, Nat.reduceBEq, convE, buildE, List.replicate, Int.reduceLT, Int.reduceLE, Int.reduceToNat, mkE, mapSetE, hN, hF, ty_3, ty_4, ty_9, ty_27, ty_50, ty_54, ty_68, ty_70, ty_72, ty_74, ty_76, notIf, isEq, h1, h2, h3, h4, h5, c61, c62, c63, c64, c65, c66, q1, g1]
      iterate 3 (try (refine drawnP_intro (by kernel_rfl) (by kernel_rfl) ?_; simp only [runA, runB, runC, runD, runE, runF, fieldE, storeE, binE, ↓reduceIte, Nat.reduceLT, Nat.reduceLeDiff, Nat.reduceEqDiff, Nat.reduceAdd, Nat.reduceMul, Nat.reduceSub, reduceCtorEq, putAt, unE, Nat.reduceBEq, convE, buildE, List.replicate, Int.reduceLT, Int.reduceLE, Int.reduceToNat, mkE, mapSetE, hN, hF, ty_3, ty_4, ty_9, ty_27, ty_50, ty_54, ty_68, ty_70, ty_72, ty_74, ty_76, notIf, isEq, h1, h2, h3, h4, h5, c61, c62, c63, c64, c65, c66, q1, g1]))
      simp only [runB, finC, finD, Option.isSome_some, Option.isSome_none, ↓reduceIte, Nat.reduceEqDiff, Nat.reduceAdd, Nat.reduceMul, forall_eq_or_imp, forall_eq, implies_true, Nat.reduceBEq, reduceCtorEq, false_implies, List.zip_cons_cons, List.zip_nil_left, List.zip_nil_right, Nat.reduceLeDiff, List.forall_mem_nil, rs_118, ty_3, ty_4, ty_9, ty_27, ty_50, ty_54, ty_68, ty_70, ty_72, ty_74, ty_76, zeroBk, zeroV, zeroCt, zeroT, Msg.av, vn, tn, Bool.true_and, Bool.false_and, votes_length]
  have hS : canM ⟨kd, bk, vo, ct, bs, ak, tx⟩ = (zeroMsg, false) := by
    unfold canM; dsimp only
    rw [if_neg k1, if_neg k2, if_neg k3, if_neg k4, if_neg k5, if_neg k6]
  rw [hS]
  have c1 : (kd == 1) = false := by simpa using k1
  have c2 : (kd == 2) = false := by simpa using k2
  have c3 : (kd == 3) = false := by simpa using k3
  have c4 : (kd == 4) = false := by simpa using k4
  have c5 : (kd == 5) = false := by simpa using k5
  have c6 : (kd == 6) = false := by simpa using k6
  simp only [runA, runB, runC, runD, runE, runF, fieldE, storeE, binE, ↓reduceIte, Nat.reduceLT, Nat.reduceLeDiff, Nat.reduceEqDiff, Nat.reduceAdd, Nat.reduceMul, Nat.reduceSub, reduceCtorEq, putAt, unE, Nat.reduceBEq, convE, buildE, List.replicate, Int.reduceLT, Int.reduceLE, Int.reduceToNat, mkE, mapSetE, hN, hF, ty_3, ty_4, ty_9, ty_27, ty_50, ty_54, ty_68, ty_70, ty_72, ty_74, ty_76, notIf, isEq, c1, c2, c3, c4, c5, c6]
  iterate 3 (try (refine drawnP_intro (by kernel_rfl) (by kernel_rfl) ?_; simp only [runA, runB, runC, runD, runE, runF, fieldE, storeE, binE, ↓reduceIte, Nat.reduceLT, Nat.reduceLeDiff, Nat.reduceEqDiff, Nat.reduceAdd, Nat.reduceMul, Nat.reduceSub, reduceCtorEq, putAt, unE, Nat.reduceBEq, convE, buildE, List.replicate, Int.reduceLT, Int.reduceLE, Int.reduceToNat, mkE, mapSetE, hN, hF, ty_3, ty_4, ty_9, ty_27, ty_50, ty_54, ty_68, ty_70, ty_72, ty_74, ty_76, notIf, isEq, c1, c2, c3, c4, c5, c6]))
  simp only [runB, finC, finD, Option.isSome_some, Option.isSome_none, ↓reduceIte, Nat.reduceEqDiff, Nat.reduceAdd, Nat.reduceMul, forall_eq_or_imp, forall_eq, implies_true, Nat.reduceBEq, reduceCtorEq, false_implies, List.zip_cons_cons, List.zip_nil_left, List.zip_nil_right, Nat.reduceLeDiff, List.forall_mem_nil, rs_118, ty_3, ty_4, ty_9, ty_27, ty_50, ty_54, ty_68, ty_70, ty_72, ty_74, ty_76, zeroMsg, zeroBk, zeroV, zeroCt, zeroT, Msg.av, vn, tn]
/-- May a message be? -/
def okMsg (m : Msg) : Prop := (canM m).2 = true ∧ (canM m).1 = m
instance (m : Msg) : Decidable (okMsg m) := inferInstanceAs (Decidable (_ ∧ _))
def msS (m : Msg) : Int := if okMsg m then 0 else 9
noncomputable def msCkC : Contract := mkC (α := Msg) lnM (fun m => [m.av]) (fun _ => []) (fun m => ⟨[.pv (.c (.int .i64 (msS m)))], []⟩)
theorem msCk_at (m : Msg) (h : lnM m) : msCkC [.agg [.c (.int .i64 m.kd), .c (.int .i64 m.bk.vw), .c (.int .i64 m.bk.ht), .c (.str m.bk.pa), .c (.int .i64 m.bk.ju.vw), .c (.int .i64 m.bk.ju.ht), .c (.str m.bk.ju.bl), .c (.sl (votes m.bk.ju.vs)), .c (.sl (trows m.bk.txs)), .c (.str m.bk.sig), .c (.int .i64 m.vo.kd), .c (.int .i64 m.vo.vw), .c (.int .i64 m.vo.ht), .c (.str m.vo.bl), .c (.int .i64 m.vo.tk), .c (.int .i64 m.vo.sg), .c (.str m.vo.sig), .c (.int .i64 m.ct.vw), .c (.int .i64 m.ct.ht), .c (.str m.ct.bl), .c (.sl (votes m.ct.vs)), .c (.sl (votes m.bs)), .c (.str m.ak), .c (.int .i64 m.tx.fr), .c (.int .i64 m.tx.to), .c (.int .i64 m.tx.am), .c (.int .i64 m.tx.no), .c (.str m.tx.sig)]] [] = some ⟨[.pv (.c (.int .i64 (msS m)))], []⟩ :=
  mkC_at (α := Msg) m h (by
    rintro y _ h _
    have h : [y.av] = [m.av] := h
    simp only [List.cons.injEq, and_true, Msg.av_iff] at h
    rw [h])

set_option maxRecDepth 100000 in
set_option maxHeartbeats 4000000 in
theorem msCk_sound (hΓ : SoundG Try.prog Γ) (h1 : Γ 118 = bareC) (h2 : Γ 119 = smPC) : SoundC Try.prog 79 msCkC := by
  refine sound_fn Try.func79 (by kernel_rfl) rfl rfl ?_
  intro args objs r0 hr
  obtain ⟨m, hl, rfl, rfl, rfl⟩ := mkC_inv hr
  refine ⟨rfl, by show 1 ≤ _; decide, fun E hN hns hF => ?_⟩
  refine vc_sound hΓ mixed _ _ _ ?_
  have hN := hN.trans nt_79
  have hl : lnM m := hl
  have q1 := bare_at m hl
  have q2 := smP_at (canM m).1 m (canM_ln hl) hl
  have hS1 : ((canM m).2 = true ∧ (canM m).1 = m) → msS m = 0 := fun h => if_pos h
  have hS2 : ¬ ((canM m).2 = true ∧ (canM m).1 = m) → msS m = 9 := fun h => if_neg h
  generalize msS m = R at *
  generalize canM m = C at *
  obtain ⟨cm, cb⟩ := C
  dsimp only at q1 q2 hS1 hS2
  unfold Msg.av at q1 ⊢
  cases cb with
  | false =>
    have hr : R = 9 := hS2 (fun h => by have := h.1; cases this)
    rw [hr]
    simp only [runA, runB, runC, runD, runE, runF, fieldE, storeE, binE, ↓reduceIte, Nat.reduceLT, Nat.reduceLeDiff, Nat.reduceEqDiff, Nat.reduceAdd, Nat.reduceMul, Nat.reduceSub, reduceCtorEq, putAt, unE, Nat.reduceBEq, convE, buildE, List.replicate, Int.reduceLT, Int.reduceLE, Int.reduceToNat, mkE, mapSetE, hN, hF, ty_3, ty_4, ty_9, ty_27, ty_54, ty_68, ty_70, ty_72, ty_74, ty_76, notIf, isEq, h1, q1]
    iterate 3 (try (refine drawnP_intro (by kernel_rfl) (by kernel_rfl) ?_; simp only [runA, runB, runC, runD, runE, runF, fieldE, storeE, binE, ↓reduceIte, Nat.reduceLT, Nat.reduceLeDiff, Nat.reduceEqDiff, Nat.reduceAdd, Nat.reduceMul, Nat.reduceSub, reduceCtorEq, putAt, unE, Nat.reduceBEq, convE, buildE, List.replicate, Int.reduceLT, Int.reduceLE, Int.reduceToNat, mkE, mapSetE, hN, hF, ty_3, ty_4, ty_9, ty_27, ty_54, ty_68, ty_70, ty_72, ty_74, ty_76, notIf, isEq, h1, q1]))
    simp only [runB, finC, finD, Option.isSome_some, Option.isSome_none, ↓reduceIte, Nat.reduceEqDiff, Nat.reduceAdd, Nat.reduceMul, forall_eq_or_imp, forall_eq, implies_true, Nat.reduceBEq, reduceCtorEq, false_implies, List.zip_cons_cons, List.zip_nil_left, List.zip_nil_right, Nat.reduceLeDiff, List.forall_mem_nil, rs_79, ty_3, ty_4, ty_9, ty_27, ty_54, ty_68, ty_70, ty_72, ty_74, ty_76]
  | true =>
    by_cases he : cm = m
    · have hr : R = 0 := hS1 ⟨rfl, he⟩
      rw [decide_eq_true he] at q2
      have nt1 : (!true) = false := rfl
      rw [hr]
      simp only [runA, runB, runC, runD, runE, runF, fieldE, storeE, binE, ↓reduceIte, Nat.reduceLT, Nat.reduceLeDiff, Nat.reduceEqDiff, Nat.reduceAdd, Nat.reduceMul, Nat.reduceSub, reduceCtorEq, putAt, unE, Nat.reduceBEq, convE, buildE, List.replicate, Int.reduceLT, Int.reduceLE, Int.reduceToNat, mkE, mapSetE, hN, hF, ty_3, ty_4, ty_9, ty_27, ty_54, ty_68, ty_70, ty_72, ty_74, ty_76, notIf, isEq, h1, h2, q1, q2, nt1]
      iterate 3 (try (refine drawnP_intro (by kernel_rfl) (by kernel_rfl) ?_; simp only [runA, runB, runC, runD, runE, runF, fieldE, storeE, binE, ↓reduceIte, Nat.reduceLT, Nat.reduceLeDiff, Nat.reduceEqDiff, Nat.reduceAdd, Nat.reduceMul, Nat.reduceSub, reduceCtorEq, putAt, unE, Nat.reduceBEq, convE, buildE, List.replicate, Int.reduceLT, Int.reduceLE, Int.reduceToNat, mkE, mapSetE, hN, hF, ty_3, ty_4, ty_9, ty_27, ty_54, ty_68, ty_70, ty_72, ty_74, ty_76, notIf, isEq, h1, h2, q1, q2, nt1]))
      simp only [runB, finC, finD, Option.isSome_some, Option.isSome_none, ↓reduceIte, Nat.reduceEqDiff, Nat.reduceAdd, Nat.reduceMul, forall_eq_or_imp, forall_eq, implies_true, Nat.reduceBEq, reduceCtorEq, false_implies, List.zip_cons_cons, List.zip_nil_left, List.zip_nil_right, Nat.reduceLeDiff, List.forall_mem_nil, rs_79, ty_3, ty_4, ty_9, ty_27, ty_54, ty_68, ty_70, ty_72, ty_74, ty_76]
    · have hr : R = 9 := hS2 (fun h => he h.2)
      rw [decide_eq_false he] at q2
      have nt1 : (!true) = false := rfl
      have ntf : (!false) = true := rfl
      rw [hr]
      simp only [runA, runB, runC, runD, runE, runF, fieldE, storeE, binE, ↓reduceIte, Nat.reduceLT, Nat.reduceLeDiff, Nat.reduceEqDiff, Nat.reduceAdd, Nat.reduceMul, Nat.reduceSub, reduceCtorEq, putAt, unE, Nat.reduceBEq, convE, buildE, List.replicate, Int.reduceLT, Int.reduceLE, Int.reduceToNat, mkE, mapSetE, hN, hF, ty_3, ty_4, ty_9, ty_27, ty_54, ty_68, ty_70, ty_72, ty_74, ty_76, notIf, isEq, h1, h2, q1, q2, nt1, ntf]
      iterate 3 (try (refine drawnP_intro (by kernel_rfl) (by kernel_rfl) ?_; simp only [runA, runB, runC, runD, runE, runF, fieldE, storeE, binE, ↓reduceIte, Nat.reduceLT, Nat.reduceLeDiff, Nat.reduceEqDiff, Nat.reduceAdd, Nat.reduceMul, Nat.reduceSub, reduceCtorEq, putAt, unE, Nat.reduceBEq, convE, buildE, List.replicate, Int.reduceLT, Int.reduceLE, Int.reduceToNat, mkE, mapSetE, hN, hF, ty_3, ty_4, ty_9, ty_27, ty_54, ty_68, ty_70, ty_72, ty_74, ty_76, notIf, isEq, h1, h2, q1, q2, nt1, ntf]))
      simp only [runB, finC, finD, Option.isSome_some, Option.isSome_none, ↓reduceIte, Nat.reduceEqDiff, Nat.reduceAdd, Nat.reduceMul, forall_eq_or_imp, forall_eq, implies_true, Nat.reduceBEq, reduceCtorEq, false_implies, List.zip_cons_cons, List.zip_nil_left, List.zip_nil_right, Nat.reduceLeDiff, List.forall_mem_nil, rs_79, ty_3, ty_4, ty_9, ty_27, ty_54, ty_68, ty_70, ty_72, ty_74, ty_76]

end Go.Proofs.Ytldehcnaepgamaa.AM
