/-
  QA: Bk1 Bk2 Tx2 Pk4 Pk5 Bk3 Bk4 Bk5.
-/
import Derived.Test.YtenmlgalcjkdbaaQ9
import Derived.Test.YtenmlgalcjkdbaaQ8
set_option linter.unusedVariables false
set_option linter.unusedSimpArgs false
namespace Go.Proofs.Ytenmlgalcjkdbaa.AM
open Go

variable {Γ : FuncId → Contract}

theorem txCkA_at (fr to am no : Int) (sig : List UInt8) : txCkC [.agg [.c (.int .i64 fr), .c (.int .i64 to), .c (.int .i64 am), .c (.int .i64 no), .c (.str sig)]] [] = some ⟨[.pv (.c (.int .i64 (txS ⟨fr, to, am, no, sig⟩)))], []⟩ := txCk_at ⟨fr, to, am, no, sig⟩
def badT (t : Txn) : Bool := txS t != 0
theorem badT_iff (t : Txn) : badT t = true ↔ ¬ okT t := by
  unfold badT txS
  by_cases h : okT t
  · simp [h]
  · simp [h]
noncomputable def oddTC : Contract := mkC (α := Txn) (fun _ => True) (fun t => [t.av]) (fun _ => []) (fun t => ⟨[.pv (.c (.bool (badT t)))], []⟩)
theorem oddT_at (t : Txn) : oddTC [.agg [.c (.int .i64 t.fr), .c (.int .i64 t.to), .c (.int .i64 t.am), .c (.int .i64 t.no), .c (.str t.sig)]] [] = some ⟨[.pv (.c (.bool (badT t)))], []⟩ :=
  mkC_at (α := Txn) t trivial (by
    rintro y _ h _
    simp only [List.cons.injEq, Txn.av_iff, and_true] at h
    rw [h])
set_option maxHeartbeats 1000000 in
theorem oddT_sound (hΓ : SoundG Try.prog Γ) (h1 : Γ 73 = txCkC) : SoundC Try.prog 72 oddTC := by
  refine sound_fn Try.func72 (by kernel_rfl) rfl rfl ?_
  intro args objs r hr
  obtain ⟨t, _, rfl, rfl, rfl⟩ := mkC_inv hr
  refine ⟨rfl, by show 1 ≤ _; decide, fun E hN hns hF => ?_⟩
  refine vc_sound hΓ mixed _ _ _ ?_
  have hN := hN.trans nt_72
  unfold Txn.av badT
  simp +contextual (maxSteps := 10000000) only [runA, runB, runC, runD, runE, runF, fieldE, storeE, binE, ↓reduceIte, Nat.reduceLT, Nat.reduceLeDiff, Nat.reduceEqDiff, Nat.reduceAdd, Nat.reduceMul, Nat.reduceSub, reduceCtorEq, putAt, unE, Nat.reduceBEq, convE, buildE, List.replicate, Int.reduceLT, Int.reduceLE, Int.reduceToNat, mkE, mapSetE, hN, hF, ty_3, ty_4, ty_9, ty_47, ty_85, notIf, isEq, bytes_length, false_implies, implies_true, h1, txCkA_at]
  simp only [runB, finC, finD, Option.isSome_some, Option.isSome_none, ↓reduceIte, Nat.reduceEqDiff, Nat.reduceAdd, Nat.reduceMul, forall_eq_or_imp, forall_eq, implies_true, Nat.reduceBEq, reduceCtorEq, false_implies, List.zip_cons_cons, List.zip_nil_left, List.zip_nil_right, Nat.reduceLeDiff, List.forall_mem_nil, rs_72]
noncomputable def ckTIC : Contract := mkC (α := List Txn) (fun q => q.length ≤ 9223372036854775807) (fun q => [.c (.sl (trows q)), .clo 72 []]) (fun _ => []) (fun q => ⟨[.pv (.c (.int .i64 (idxP (badT) q)))], []⟩)
noncomputable def ckTFC : Contract := mkC (α := List Txn) (fun q => q.length ≤ 9223372036854775807) (fun q => [.c (.sl (trows q)), .clo 72 []]) (fun _ => []) (fun q => ⟨[.pv (.c (.bool (q.any (badT))))], []⟩)
theorem ckTI_at (l : List Txn) (h : l.length ≤ 9223372036854775807) : ckTIC [.c (.sl (trows l)), .clo 72 []] [] = some ⟨[.pv (.c (.int .i64 (idxP (badT) l)))], []⟩ :=
  mkC_at (α := List Txn) l h (by
    rintro y _ h _
    simp only [List.cons.injEq, AV.c.injEq, PC.sl.injEq, PC.str.injEq, PC.int.injEq, AV.clo.injEq, true_and, and_true, trows_iff] at h
    simp only [h])
theorem ckTF_at (l : List Txn) (h : l.length ≤ 9223372036854775807) : ckTFC [.c (.sl (trows l)), .clo 72 []] [] = some ⟨[.pv (.c (.bool (l.any (badT))))], []⟩ :=
  mkC_at (α := List Txn) l h (by
    rintro y _ h _
    simp only [List.cons.injEq, AV.c.injEq, PC.sl.injEq, PC.str.injEq, PC.int.injEq, AV.clo.injEq, true_and, and_true, trows_iff] at h
    simp only [h])
set_option maxHeartbeats 2000000 in
theorem ckTI_sound (hΓ : SoundG Try.prog Γ) (h1 : Γ 72 = oddTC) : SoundC Try.prog 96 ckTIC := by
  refine sound_fn Try.func96 (by kernel_rfl) rfl rfl ?_
  intro args objs r hr
  obtain ⟨l, hl, rfl, rfl, rfl⟩ := mkC_inv hr
  have hl : l.length ≤ 9223372036854775807 := hl
  refine ⟨rfl, by show 2 ≤ _; decide, fun E hN hns hF => ?_⟩
  refine vc_sound hΓ mixed _ _ _ ?_
  have hN := hN.trans nt_96
  simp only [runA, runB, runC, runD, runE, runF, fieldE, storeE, binE, ↓reduceIte, Nat.reduceLT, Nat.reduceLeDiff, Nat.reduceEqDiff, Nat.reduceAdd, Nat.reduceMul, Nat.reduceSub, reduceCtorEq, putAt, unE, Nat.reduceBEq, convE, buildE, List.replicate, Int.reduceLT, Int.reduceLE, Int.reduceToNat, mkE, mapSetE, hN, hF, ty_3, ty_9, ty_25, ty_47, notIf, isEq, trows_length, Txn.pcs]
  refine AWP.loop (fun k st => ∃ i : Nat, (i ≤ l.length ∧ ∀ k, k < i → (badT) (l.getD k zeroT) = false) ∧ k = l.length - i ∧ st = ⟨[(0, .c (.sl (trows l))), (1, .clo 72 []), (7, .c (.int .i64 (l.length : Int))), (8, .c (.int .i64 (i : Int)))], []⟩) ⟨l.length, _, ?w, 0, ⟨Nat.zero_le _, fun k hk => absurd hk (by omega)⟩, rfl, rfl⟩ ?r
  case w =>
    rw [hns]
    simp only [runB, finC, finD, AS.get, AS.mem, false_implies, implies_true, ↓reduceIte, Nat.reduceEqDiff, Option.isSome_some, Option.isSome_none, forall_eq_or_imp, forall_eq, reduceCtorEq, Nat.reduceAdd, Nat.reduceMul, List.zip_cons_cons, List.zip_nil_left, List.zip_nil_right, List.forall_mem_nil]
    first | done | simp
  case r =>
    rintro k st ⟨i, ⟨hi, h8⟩, rfl, rfl⟩
    refine vc_sound hΓ mixed _ _ _ ?_
    by_cases hlt : i < l.length
    · have k1 : decide ((i : Int) < (l.length : Int)) = true := by simpa using hlt
      have e1 : IntKind.i64.wrap ((i : Int) + 1) = (i : Int) + 1 := wrapI (by omega)
      have hg := trowsD l i hlt
      unfold Txn.pcs at hg
      have hd := oddT_at (l.getD i zeroT)
      cases hp : (badT) (l.getD i zeroT) with
      | false =>
        have h8' : ∀ k, k < i + 1 → (badT) (l.getD k zeroT) = false := fun k hk => by
          by_cases e : k = i
          · rw [e]; exact hp
          · exact h8 k (by omega)
        rw [hp] at hd
        generalize l.getD i zeroT = y at hg hd
        simp only [runA, runB, runC, runD, runE, runF, fieldE, storeE, binE, ↓reduceIte, Nat.reduceLT, Nat.reduceLeDiff, Nat.reduceEqDiff, Nat.reduceAdd, Nat.reduceMul, Nat.reduceSub, reduceCtorEq, putAt, unE, Nat.reduceBEq, convE, buildE, List.replicate, Int.reduceLT, Int.reduceLE, Int.reduceToNat, mkE, mapSetE, hN, hF, ty_3, ty_9, ty_25, ty_47, notIf, isEq, k1, e1, hg, h1, hd]
        refine ⟨l.length - (i + 1), _, by omega, ?_, i + 1, ⟨by omega, h8'⟩, rfl, rfl⟩
        rw [hns]
        simp only [runB, finC, finD, AS.get, AS.mem, false_implies, implies_true, ↓reduceIte, Nat.reduceEqDiff, Option.isSome_some, Option.isSome_none, forall_eq_or_imp, forall_eq, reduceCtorEq, Nat.reduceAdd, Nat.reduceMul, List.zip_cons_cons, List.zip_nil_left, List.zip_nil_right, List.forall_mem_nil]
        first | done | simp
      | true =>
        have hS := idxP_some hlt hp h8
        rw [hp] at hd
        generalize l.getD i zeroT = y at hg hd
        simp only [runA, runB, runC, runD, runE, runF, fieldE, storeE, binE, ↓reduceIte, Nat.reduceLT, Nat.reduceLeDiff, Nat.reduceEqDiff, Nat.reduceAdd, Nat.reduceMul, Nat.reduceSub, reduceCtorEq, putAt, unE, Nat.reduceBEq, convE, buildE, List.replicate, Int.reduceLT, Int.reduceLE, Int.reduceToNat, mkE, mapSetE, hN, hF, ty_3, ty_9, ty_25, ty_47, notIf, isEq, k1, e1, hg, h1, hd]
        simp only [runB, finC, finD, Option.isSome_some, Option.isSome_none, ↓reduceIte, Nat.reduceEqDiff, Nat.reduceAdd, Nat.reduceMul, forall_eq_or_imp, forall_eq, implies_true, Nat.reduceBEq, reduceCtorEq, false_implies, List.zip_cons_cons, List.zip_nil_left, List.zip_nil_right, Nat.reduceLeDiff, List.forall_mem_nil, rs_96, hS]
    · have k1 : decide ((i : Int) < (l.length : Int)) = false := by simpa using hlt
      obtain rfl : i = l.length := by omega
      have hS := idxP_none h8
      simp only [runA, runB, runC, runD, runE, runF, fieldE, storeE, binE, ↓reduceIte, Nat.reduceLT, Nat.reduceLeDiff, Nat.reduceEqDiff, Nat.reduceAdd, Nat.reduceMul, Nat.reduceSub, reduceCtorEq, putAt, unE, Nat.reduceBEq, convE, buildE, List.replicate, Int.reduceLT, Int.reduceLE, Int.reduceToNat, mkE, mapSetE, hN, hF, ty_3, ty_9, ty_25, ty_47, notIf, isEq, k1]
      simp only [runB, finC, finD, Option.isSome_some, Option.isSome_none, ↓reduceIte, Nat.reduceEqDiff, Nat.reduceAdd, Nat.reduceMul, forall_eq_or_imp, forall_eq, implies_true, Nat.reduceBEq, reduceCtorEq, false_implies, List.zip_cons_cons, List.zip_nil_left, List.zip_nil_right, Nat.reduceLeDiff, List.forall_mem_nil, rs_96, hS]
set_option maxHeartbeats 1000000 in
theorem ckTF_sound (hΓ : SoundG Try.prog Γ) (h1 : Γ 96 = ckTIC) : SoundC Try.prog 74 ckTFC := by
  refine sound_fn Try.func74 (by kernel_rfl) rfl rfl ?_
  intro args objs r hr
  obtain ⟨l, hl, rfl, rfl, rfl⟩ := mkC_inv hr
  have hl : l.length ≤ 9223372036854775807 := hl
  refine ⟨rfl, by show 2 ≤ _; decide, fun E hN hns hF => ?_⟩
  refine vc_sound hΓ mixed _ _ _ ?_
  have hN := hN.trans nt_74
  have h2 := ckTI_at l hl
  have h3 := idxP_ge (badT) l
  simp only [runA, runB, runC, runD, runE, runF, fieldE, storeE, binE, ↓reduceIte, Nat.reduceLT, Nat.reduceLeDiff, Nat.reduceEqDiff, Nat.reduceAdd, Nat.reduceMul, Nat.reduceSub, reduceCtorEq, putAt, unE, Nat.reduceBEq, convE, buildE, List.replicate, Int.reduceLT, Int.reduceLE, Int.reduceToNat, mkE, mapSetE, hN, hF, ty_3, ty_4, ty_25, ty_47, notIf, isEq, h1, h2, h3]
  simp only [runB, finC, finD, Option.isSome_some, Option.isSome_none, ↓reduceIte, Nat.reduceEqDiff, Nat.reduceAdd, Nat.reduceMul, forall_eq_or_imp, forall_eq, implies_true, Nat.reduceBEq, reduceCtorEq, false_implies, List.zip_cons_cons, List.zip_nil_left, List.zip_nil_right, Nat.reduceLeDiff, List.forall_mem_nil, rs_74]

def okB (b : Blk) : Prop := (0 ≤ b.vw ∧ b.vw ≤ 1048576) ∧ (1 ≤ b.ht ∧ b.ht ≤ 1048576) ∧ b.pa.length = 32 ∧ b.ju.bl = b.pa ∧ b.ju.ht = b.ht - 1 ∧ (0 ≤ b.ju.vw ∧ b.ju.vw ≤ b.vw) ∧ b.txs.length ≤ 4 ∧ (∀ t ∈ b.txs, okT t) ∧ b.sig.length ≤ 4096
instance (b : Blk) : Decidable (okB b) := inferInstanceAs (Decidable (_ ∧ _))
def bkS (b : Blk) : Int := if okB b then 0 else 9
theorem any_bad (l : List Txn) : l.any badT = false ↔ ∀ t ∈ l, okT t := by
  rw [List.any_eq_false]
  constructor
  · intro h t ht
    have := h t ht
    rw [badT_iff, Classical.not_not] at this
    exact this
  · intro h t ht
    rw [badT_iff, Classical.not_not]
    exact h t ht
noncomputable def bkCkC : Contract := mkC (α := Blk) (fun b => b.txs.length ≤ 9223372036854775807) (fun b => [b.av]) (fun _ => []) (fun b => ⟨[.pv (.c (.int .i64 (bkS b)))], []⟩)
theorem bkCk_at (b : Blk) (h : b.txs.length ≤ 9223372036854775807) : bkCkC [.agg [.c (.int .i64 b.vw), .c (.int .i64 b.ht), .c (.str b.pa), .c (.int .i64 b.ju.vw), .c (.int .i64 b.ju.ht), .c (.str b.ju.bl), .c (.sl (votes b.ju.vs)), .c (.sl (trows b.txs)), .c (.str b.sig)]] [] = some ⟨[.pv (.c (.int .i64 (bkS b)))], []⟩ :=
  mkC_at (α := Blk) b h (by
    rintro y _ h _
    have h' : [y.av] = [b.av] := h
    simp only [List.cons.injEq, Blk.av_iff, and_true] at h'
    rw [h'])
set_option maxRecDepth 100000 in
set_option maxHeartbeats 4000000 in
theorem bkCk_sound (hΓ : SoundG Try.prog Γ) (h1 : Γ 74 = ckTFC) : SoundC Try.prog 49 bkCkC := by
  refine sound_fn Try.func49 (by kernel_rfl) rfl rfl ?_
  intro args objs r hr
  obtain ⟨⟨vw, ht, pa, ⟨jv, jh, jb, js⟩, txs, sig⟩, hl, rfl, rfl, rfl⟩ := mkC_inv hr
  have hl : txs.length ≤ 9223372036854775807 := hl
  refine ⟨rfl, by show 1 ≤ _; decide, fun E hN hns hF => ?_⟩
  refine vc_sound hΓ mixed _ _ _ ?_
  have hN := hN.trans nt_49
  have q1 := ckTF_at txs hl
  unfold Blk.av
  dsimp only
  simp +contextual (maxSteps := 10000000) only [runA, runB, runC, runD, runE, runF, fieldE, storeE, binE, ↓reduceIte, Nat.reduceLT, Nat.reduceLeDiff, Nat.reduceEqDiff, Nat.reduceAdd, Nat.reduceMul, Nat.reduceSub, reduceCtorEq, putAt, unE, Nat.reduceBEq, convE, buildE, List.replicate, Int.reduceLT, Int.reduceLE, Int.reduceToNat, mkE, mapSetE, hN, hF, ty_3, ty_9, ty_22, ty_24, ty_25, ty_27, ty_47, ty_85, notIf, isEq, bytes_length, false_implies, implies_true, h1, q1, trows_length]
  refine ⟨fun b1 => ?_, fun b1 => ⟨fun b2 => ?_, fun b2 => ⟨fun b3 => ?_, fun b3 => ?_⟩⟩⟩
  · have hS : bkS ⟨vw, ht, pa, ⟨jv, jh, jb, js⟩, txs, sig⟩ = 9 := if_neg (fun ⟨⟨a1, a2⟩, ⟨a3, a4⟩, a5, a6, a7, ⟨a8, a9⟩, a10, a11, a12⟩ => by
      simp only at a1 a2 a3 a4 a5
      revert b1; simp [a5]; omega)
    simp only [runB, finC, finD, Option.isSome_some, Option.isSome_none, ↓reduceIte, Nat.reduceEqDiff, Nat.reduceAdd, Nat.reduceMul, forall_eq_or_imp, forall_eq, implies_true, Nat.reduceBEq, reduceCtorEq, false_implies, List.zip_cons_cons, List.zip_nil_left, List.zip_nil_right, Nat.reduceLeDiff, List.forall_mem_nil, rs_49, hS]
  · have hw : IntKind.i64.wrap (ht - 1) = ht - 1 := by simp at b1; exact wrapI (by omega)
    have hS : bkS ⟨vw, ht, pa, ⟨jv, jh, jb, js⟩, txs, sig⟩ = 9 := if_neg (fun ⟨⟨a1, a2⟩, ⟨a3, a4⟩, a5, a6, a7, ⟨a8, a9⟩, a10, a11, a12⟩ => by
      simp only at a6 a7 a8 a9
      revert b2; rw [hw]; simp [a6, a7]; omega)
    simp only [runB, finC, finD, Option.isSome_some, Option.isSome_none, ↓reduceIte, Nat.reduceEqDiff, Nat.reduceAdd, Nat.reduceMul, forall_eq_or_imp, forall_eq, implies_true, Nat.reduceBEq, reduceCtorEq, false_implies, List.zip_cons_cons, List.zip_nil_left, List.zip_nil_right, Nat.reduceLeDiff, List.forall_mem_nil, rs_49, hS]
  · have hS : bkS ⟨vw, ht, pa, ⟨jv, jh, jb, js⟩, txs, sig⟩ = 9 := if_neg (fun ⟨⟨a1, a2⟩, ⟨a3, a4⟩, a5, a6, a7, ⟨a8, a9⟩, a10, a11, a12⟩ => by
      simp only at a10 a11 a12
      rw [← any_bad] at a11
      revert b3; rw [a11]; simp; omega)
    simp only [runB, finC, finD, Option.isSome_some, Option.isSome_none, ↓reduceIte, Nat.reduceEqDiff, Nat.reduceAdd, Nat.reduceMul, forall_eq_or_imp, forall_eq, implies_true, Nat.reduceBEq, reduceCtorEq, false_implies, List.zip_cons_cons, List.zip_nil_left, List.zip_nil_right, Nat.reduceLeDiff, List.forall_mem_nil, rs_49, hS]
  · have hw : IntKind.i64.wrap (ht - 1) = ht - 1 := by simp at b1; exact wrapI (by omega)
    have hS : bkS ⟨vw, ht, pa, ⟨jv, jh, jb, js⟩, txs, sig⟩ = 0 := if_pos (by
      rw [hw] at b2
      cases ha : txs.any badT with
      | true => rw [ha] at b3; simp at b3
      | false =>
        rw [ha] at b3
        simp at b1 b2 b3
        refine ⟨⟨by simp only; omega, by simp only; omega⟩, ⟨by simp only; omega, by simp only; omega⟩, by simp only; omega, ?_, by simp only; omega, ⟨by simp only; omega, by simp only; omega⟩, by simp only; omega, (any_bad txs).1 ha, by simp only; omega⟩
        simp only
        exact b2.1.1.1)
    simp only [runB, finC, finD, Option.isSome_some, Option.isSome_none, ↓reduceIte, Nat.reduceEqDiff, Nat.reduceAdd, Nat.reduceMul, forall_eq_or_imp, forall_eq, implies_true, Nat.reduceBEq, reduceCtorEq, false_implies, List.zip_cons_cons, List.zip_nil_left, List.zip_nil_right, Nat.reduceLeDiff, List.forall_mem_nil, rs_49, hS]


variable {Γ : FuncId → Contract}

set_option maxRecDepth 100000 in
set_option maxHeartbeats 4000000 in
theorem refBkCk_sound (hΓ : SoundG Try.prog Γ) (h1 : Γ 48 = txCkC) : SoundC Try.prog 12 bkCkC := by
  refine sound_fn Try.func12 (by kernel_rfl) rfl rfl ?_
  intro args objs r hr
  obtain ⟨⟨vw, ht, pa, ⟨jv, jh, jb, js⟩, txs, sig⟩, hl, rfl, rfl, rfl⟩ := mkC_inv hr
  have hl : txs.length ≤ 9223372036854775807 := hl
  refine ⟨rfl, by show 1 ≤ _; decide, fun E hN hns hF => ?_⟩
  refine vc_sound hΓ mixed _ _ _ ?_
  have hN := hN.trans nt_12
  unfold Blk.av
  dsimp only
  simp +contextual (maxSteps := 10000000) only [runA, runB, runC, runD, runE, runF, fieldE, storeE, binE, ↓reduceIte, Nat.reduceLT, Nat.reduceLeDiff, Nat.reduceEqDiff, Nat.reduceAdd, Nat.reduceMul, Nat.reduceSub, reduceCtorEq, putAt, unE, Nat.reduceBEq, convE, buildE, List.replicate, Int.reduceLT, Int.reduceLE, Int.reduceToNat, mkE, mapSetE, hN, hF, ty_3, ty_9, ty_22, ty_24, ty_25, ty_27, ty_47, notIf, isEq, bytes_length, false_implies, implies_true, trows_length]
  refine ⟨fun b1 => ?_, fun b1 => ⟨fun b2 => ?_, fun b2 => ?_⟩⟩
  · have hS : bkS ⟨vw, ht, pa, ⟨jv, jh, jb, js⟩, txs, sig⟩ = 9 := if_neg (fun ⟨⟨a1, a2⟩, ⟨a3, a4⟩, a5, a6, a7, ⟨a8, a9⟩, a10, a11, a12⟩ => by
      simp only at a1 a2 a3 a4 a5 a10 a12
      revert b1; simp [a5]; omega)
    simp only [runB, finC, finD, Option.isSome_some, Option.isSome_none, ↓reduceIte, Nat.reduceEqDiff, Nat.reduceAdd, Nat.reduceMul, forall_eq_or_imp, forall_eq, implies_true, Nat.reduceBEq, reduceCtorEq, false_implies, List.zip_cons_cons, List.zip_nil_left, List.zip_nil_right, Nat.reduceLeDiff, List.forall_mem_nil, rs_12, hS]
  · have hw : IntKind.i64.wrap (ht - 1) = ht - 1 := by simp at b1; exact wrapI (by omega)
    have hS : bkS ⟨vw, ht, pa, ⟨jv, jh, jb, js⟩, txs, sig⟩ = 9 := if_neg (fun ⟨⟨a1, a2⟩, ⟨a3, a4⟩, a5, a6, a7, ⟨a8, a9⟩, a10, a11, a12⟩ => by
      simp only at a6 a7 a8 a9
      revert b2; rw [hw]; simp [a6, a7]; omega)
    simp only [runB, finC, finD, Option.isSome_some, Option.isSome_none, ↓reduceIte, Nat.reduceEqDiff, Nat.reduceAdd, Nat.reduceMul, forall_eq_or_imp, forall_eq, implies_true, Nat.reduceBEq, reduceCtorEq, false_implies, List.zip_cons_cons, List.zip_nil_left, List.zip_nil_right, Nat.reduceLeDiff, List.forall_mem_nil, rs_12, hS]
  have hw : IntKind.i64.wrap (ht - 1) = ht - 1 := by simp at b1; exact wrapI (by omega)
  rw [hw] at b2
  simp at b1 b2
  refine AWP.loop (fun k st => ∃ i : Nat, (i ≤ txs.length ∧ ∀ k, k < i → badT (txs.getD k zeroT) = false) ∧ k = txs.length - i ∧ st = ⟨[(1, .ptr 64 0), (3, .c (.int .i64 (i : Int)))], [(64, .obj [.c (.int .i64 vw), .c (.int .i64 ht), .c (.str pa), .c (.int .i64 jv), .c (.int .i64 jh), .c (.str jb), .c (.sl (votes js)), .c (.sl (trows txs)), .c (.str sig)] false)]⟩) ⟨txs.length, _, ?w, 0, ⟨Nat.zero_le _, fun k hk => absurd hk (by omega)⟩, rfl, rfl⟩ ?r
  case w =>
    rw [hns]
    simp only [runB, finC, finD, AS.get, AS.mem, false_implies, implies_true, ↓reduceIte, Nat.reduceEqDiff, Option.isSome_some, Option.isSome_none, forall_eq_or_imp, forall_eq, reduceCtorEq, Nat.reduceAdd, Nat.reduceMul, List.zip_cons_cons, List.zip_nil_left, List.zip_nil_right, List.forall_mem_nil]
    first | done | simp
  case r =>
    rintro k st ⟨i, ⟨hi, h8⟩, rfl, rfl⟩
    refine vc_sound hΓ mixed _ _ _ ?_
    by_cases hlt : i < txs.length
    · have k1 : decide ((i : Int) < (txs.length : Int)) = true := by simpa using hlt
      have e1 : IntKind.i64.wrap ((i : Int) + 1) = (i : Int) + 1 := wrapI (by omega)
      have hg := trowsD txs i hlt
      have hx := txCk_at (txs.getD i zeroT)
      unfold Txn.pcs at hg
      cases hp : badT (txs.getD i zeroT) with
      | false =>
        have h8' : ∀ k, k < i + 1 → badT (txs.getD k zeroT) = false := fun k hk => by
          by_cases e : k = i
          · rw [e]; exact hp
          · exact h8 k (by omega)
        unfold badT at hp
        generalize txs.getD i zeroT = y at hg hx hp
        simp +contextual (maxSteps := 10000000) only [runA, runB, runC, runD, runE, runF, fieldE, storeE, binE, ↓reduceIte, Nat.reduceLT, Nat.reduceLeDiff, Nat.reduceEqDiff, Nat.reduceAdd, Nat.reduceMul, Nat.reduceSub, reduceCtorEq, putAt, unE, Nat.reduceBEq, convE, buildE, List.replicate, Int.reduceLT, Int.reduceLE, Int.reduceToNat, mkE, mapSetE, hN, hF, ty_3, ty_9, ty_22, ty_24, ty_25, ty_27, ty_47, notIf, isEq, bytes_length, false_implies, implies_true, h1, k1, e1, hg, hx, hp, trows_length]
        refine ⟨txs.length - (i + 1), _, by omega, ?_, i + 1, ⟨by omega, h8'⟩, rfl, rfl⟩
        rw [hns]
        simp only [runB, finC, finD, AS.get, AS.mem, false_implies, implies_true, ↓reduceIte, Nat.reduceEqDiff, Option.isSome_some, Option.isSome_none, forall_eq_or_imp, forall_eq, reduceCtorEq, Nat.reduceAdd, Nat.reduceMul, List.zip_cons_cons, List.zip_nil_left, List.zip_nil_right, List.forall_mem_nil]
        first | done | simp
      | true =>
        have hmem : txs.getD i zeroT ∈ txs := by rw [List.getD, List.getElem?_eq_getElem hlt]; exact List.getElem_mem hlt
        have hS : bkS ⟨vw, ht, pa, ⟨jv, jh, jb, js⟩, txs, sig⟩ = 9 := if_neg (fun ⟨_, _, _, _, _, _, _, a11, _⟩ => (badT_iff _).1 hp (a11 _ hmem))
        unfold badT at hp
        generalize txs.getD i zeroT = y at hg hx hp
        simp +contextual (maxSteps := 10000000) only [runA, runB, runC, runD, runE, runF, fieldE, storeE, binE, ↓reduceIte, Nat.reduceLT, Nat.reduceLeDiff, Nat.reduceEqDiff, Nat.reduceAdd, Nat.reduceMul, Nat.reduceSub, reduceCtorEq, putAt, unE, Nat.reduceBEq, convE, buildE, List.replicate, Int.reduceLT, Int.reduceLE, Int.reduceToNat, mkE, mapSetE, hN, hF, ty_3, ty_9, ty_22, ty_24, ty_25, ty_27, ty_47, notIf, isEq, bytes_length, false_implies, implies_true, h1, k1, e1, hg, hx, hp, trows_length]
        simp only [runB, finC, finD, Option.isSome_some, Option.isSome_none, ↓reduceIte, Nat.reduceEqDiff, Nat.reduceAdd, Nat.reduceMul, forall_eq_or_imp, forall_eq, implies_true, Nat.reduceBEq, reduceCtorEq, false_implies, List.zip_cons_cons, List.zip_nil_left, List.zip_nil_right, Nat.reduceLeDiff, List.forall_mem_nil, rs_12, hS]
    · have k1 : decide ((i : Int) < (txs.length : Int)) = false := by simpa using hlt
      have hil : i = txs.length := by omega
      have ha : ∀ t ∈ txs, okT t := fun t ht => by
        obtain ⟨k, hk, rfl⟩ := List.getElem_of_mem ht
        have := h8 k (by omega)
        rw [List.getD, List.getElem?_eq_getElem hk, Option.getD_some] at this
        have h2 := badT_iff txs[k]
        rw [this] at h2
        simpa using h2
      have hS : bkS ⟨vw, ht, pa, ⟨jv, jh, jb, js⟩, txs, sig⟩ = 0 := if_pos (by
        refine ⟨⟨by simp only; omega, by simp only; omega⟩, ⟨by simp only; omega, by simp only; omega⟩, by simp only; omega, ?_, by simp only; omega, ⟨by simp only; omega, by simp only; omega⟩, by simp only; omega, ha, by simp only; omega⟩
        simp only
        exact b2.1.1.1)
      simp only [runA, runB, runC, runD, runE, runF, fieldE, storeE, binE, ↓reduceIte, Nat.reduceLT, Nat.reduceLeDiff, Nat.reduceEqDiff, Nat.reduceAdd, Nat.reduceMul, Nat.reduceSub, reduceCtorEq, putAt, unE, Nat.reduceBEq, convE, buildE, List.replicate, Int.reduceLT, Int.reduceLE, Int.reduceToNat, mkE, mapSetE, hN, hF, ty_3, ty_9, ty_22, ty_24, ty_25, ty_27, ty_47, notIf, isEq, k1, trows_length]
      simp only [runB, finC, finD, Option.isSome_some, Option.isSome_none, ↓reduceIte, Nat.reduceEqDiff, Nat.reduceAdd, Nat.reduceMul, forall_eq_or_imp, forall_eq, implies_true, Nat.reduceBEq, reduceCtorEq, false_implies, List.zip_cons_cons, List.zip_nil_left, List.zip_nil_right, Nat.reduceLeDiff, List.forall_mem_nil, rs_12, hS]


variable {Γ : FuncId → Contract}

def txW : List UInt8 := [116, 120]
def arrT (t : Txn) (i : Nat) : Int := if i = 0 then t.fr else if i = 1 then t.to else if i = 2 then t.am else t.no
/-- The fields, one behind another, till i. -/
def txF (w : WS) (t : Txn) : Nat → WS
  | 0 => rText w txW
  | i + 1 => wNum (txF w t i) (arrT t i)
theorem txF_len (w : WS) (t : Txn) : ∀ i, (txF w t i).b.length ≤ w.b.length + 4 + 6 * i
  | 0 => by have := (rText_len w txW).1; show (rText w txW).b.length ≤ _; simp only [txW, List.length_cons, List.length_nil] at this; simp only [txW]; omega
  | i + 1 => by have h1 := txF_len w t i; have h2 := wNum_len (txF w t i) (arrT t i); show (wNum _ _).b.length ≤ _; omega
structure Wt where
  w : WS
  t : Txn
theorem bytes_ovi {a b : List UInt8} {x y : Int} (h : [[OV.own 1 (bytes a), .c (.int .i64 x), .c (.bool true)]] = [[OV.own 1 (bytes b), .c (.int .i64 y), .c (.bool true)]]) : a = b ∧ x = y := by
  simp only [List.cons.injEq, OV.own.injEq, OV.c.injEq, PC.int.injEq, true_and, and_true] at h
  exact ⟨bytes_inj h.1, h.2⟩
noncomputable def txtC : Contract := mkC (α := Wt) (fun p => p.w.b.length ≤ 90000) (fun p => [.ptr 6400000 0, p.t.av]) (fun p => [[.own 1 (bytes p.w.b), .c (.int .i64 p.w.e), .c (.bool true)]]) (fun p => ⟨[], [[.own 1 (bytes (txF p.w p.t 4).b), .c (.int .i64 (txF p.w p.t 4).e), .c (.bool true)]]⟩)
theorem txt_at (w : WS) (t : Txn) (h : w.b.length ≤ 90000) : txtC [.ptr 6400000 0, .agg [.c (.int .i64 t.fr), .c (.int .i64 t.to), .c (.int .i64 t.am), .c (.int .i64 t.no), .c (.str t.sig)]] [[.own 1 (bytes w.b), .c (.int .i64 w.e), .c (.bool true)]] = some ⟨[], [[.own 1 (bytes (txF w t 4).b), .c (.int .i64 (txF w t 4).e), .c (.bool true)]]⟩ :=
  mkC_at (α := Wt) ⟨w, t⟩ h (by
    rintro ⟨⟨b', e'⟩, t'⟩ _ h ho
    obtain ⟨b, e⟩ := w
    have h' : [AV.ptr 6400000 0, t'.av] = [AV.ptr 6400000 0, t.av] := h
    have e1 : t' = t := Txn.av_inj (by simpa using h')
    obtain ⟨e2, e3⟩ := bytes_ovi ho
    dsimp only at e2 e3
    rw [e1, e2, e3])
noncomputable def txPutC : Contract := mkC (α := Wt) (fun p => p.w.b.length ≤ 90000 ∧ p.t.sig.length ≤ 9223372036854775807) (fun p => [.ptr 6400000 0, p.t.av]) (fun p => [[.own 1 (bytes p.w.b), .c (.int .i64 p.w.e), .c (.bool true)]]) (fun p => ⟨[], [[.own 1 (bytes (rText (txF p.w p.t 4) p.t.sig).b), .c (.int .i64 (rText (txF p.w p.t 4) p.t.sig).e), .c (.bool true)]]⟩)
theorem txPut_at (w : WS) (t : Txn) (h : w.b.length ≤ 90000) (hs : t.sig.length ≤ 9223372036854775807) : txPutC [.ptr 6400000 0, .agg [.c (.int .i64 t.fr), .c (.int .i64 t.to), .c (.int .i64 t.am), .c (.int .i64 t.no), .c (.str t.sig)]] [[.own 1 (bytes w.b), .c (.int .i64 w.e), .c (.bool true)]] = some ⟨[], [[.own 1 (bytes (rText (txF w t 4) t.sig).b), .c (.int .i64 (rText (txF w t 4) t.sig).e), .c (.bool true)]]⟩ :=
  mkC_at (α := Wt) ⟨w, t⟩ ⟨h, hs⟩ (by
    rintro ⟨⟨b', e'⟩, t'⟩ _ h ho
    obtain ⟨b, e⟩ := w
    have h' : [AV.ptr 6400000 0, t'.av] = [AV.ptr 6400000 0, t.av] := h
    have e1 : t' = t := Txn.av_inj (by simpa using h')
    obtain ⟨e2, e3⟩ := bytes_ovi ho
    dsimp only at e2 e3
    rw [e1, e2, e3])

set_option maxRecDepth 100000 in
set_option maxHeartbeats 4000000 in
theorem txt_sound (hΓ : SoundG Try.prog Γ) (h1 : Γ 103 = textC) (h2 : Γ 104 = numC) : SoundC Try.prog 123 txtC := by
  refine sound_fn Try.func123 (by kernel_rfl) rfl rfl ?_
  intro args objs r0 hr
  obtain ⟨⟨w, ⟨fr, to, am, no, sig⟩⟩, hl, rfl, rfl, rfl⟩ := mkC_inv hr
  have hl : w.b.length ≤ 90000 := hl
  refine ⟨rfl, by show 2 ≤ _; decide, fun E hN hns hF => ?_⟩
  refine vc_sound hΓ mixed _ _ _ ?_
  have hN := hN.trans nt_123
  unfold Txn.av
  dsimp only
  have q1 : textC [.ptr 6400000 0, .c (.str [116, 120])] [[.own 1 (bytes w.b), .c (.int .i64 w.e), .c (.bool true)]] = some ⟨[], [[.own 1 (bytes (txF w ⟨fr, to, am, no, sig⟩ 0).b), .c (.int .i64 (txF w ⟨fr, to, am, no, sig⟩ 0).e), .c (.bool true)]]⟩ := text_atw w [116, 120] (by omega) (by decide)
  have hfl := txF_len w ⟨fr, to, am, no, sig⟩
  obtain ⟨wb, we⟩ := w
  dsimp only at q1 ⊢
  simp only [runA, runB, runC, runD, runE, runF, fieldE, storeE, binE, ↓reduceIte, Nat.reduceLT, Nat.reduceLeDiff, Nat.reduceEqDiff, Nat.reduceAdd, Nat.reduceMul, Nat.reduceSub, reduceCtorEq, putAt, unE, Nat.reduceBEq, convE, buildE, List.replicate, Int.reduceLT, Int.reduceLE, Int.reduceToNat, mkE, mapSetE, hN, hF, ty_3, ty_9, ty_47, ty_113, ty_180, notIf, isEq, h1, q1, bytes_length]
  refine AWP.loop (fun k st => ∃ i : Nat, i ≤ 4 ∧ k = 4 - i ∧ st = ⟨[(0, .ptr 6400000 0), (16, .agg [.c (.int .i64 fr), .c (.int .i64 to), .c (.int .i64 am), .c (.int .i64 no)]), (17, .c (.int .i64 (i : Int)))],
    [(6400000, .obj [.own 6400001 1 (bytes (txF ⟨wb, we⟩ ⟨fr, to, am, no, sig⟩ i).b), .c (.int .i64 (txF ⟨wb, we⟩ ⟨fr, to, am, no, sig⟩ i).e), .c (.bool true)] false), (6400001, .row 1 (txF ⟨wb, we⟩ ⟨fr, to, am, no, sig⟩ i).b.length)]⟩) ⟨4, _, ?w, 0, Nat.zero_le _, rfl, rfl⟩ ?r
  case w =>
    rw [hns]
    simp only [runB, finC, finD, AS.get, AS.mem, false_implies, implies_true, ↓reduceIte, Nat.reduceEqDiff, Option.isSome_some, Option.isSome_none, forall_eq_or_imp, forall_eq, reduceCtorEq, Nat.reduceAdd, Nat.reduceMul, List.zip_cons_cons, List.zip_nil_left, List.zip_nil_right, List.forall_mem_nil]
    first | done | simp
  case r =>
    rintro k st ⟨i, hi, rfl, rfl⟩
    refine vc_sound hΓ mixed _ _ _ ?_
    have hlen := hfl i
    by_cases hlt : i < 4
    · have g2 : decide ((i : Int) < 4) = true := by simp; omega
      have g3 : ((i : Int) < ((4 : Nat) : Int)) = True := by simp; omega
      have e1 : IntKind.i64.wrap ((i : Int) + 1) = (i : Int) + 1 := wrapI (by omega)
      have hx : ([AV.c (.int .i64 fr), AV.c (.int .i64 to), AV.c (.int .i64 am), AV.c (.int .i64 no)] : List AV)[i]? = some (.c (.int .i64 (arrT ⟨fr, to, am, no, sig⟩ i))) := by
        unfold arrT
        rcases (show i = 0 ∨ i = 1 ∨ i = 2 ∨ i = 3 by omega) with rfl | rfl | rfl | rfl <;> rfl
      have hn := num_atw (txF ⟨wb, we⟩ ⟨fr, to, am, no, sig⟩ i) (arrT ⟨fr, to, am, no, sig⟩ i) (by dsimp only at hlen hl; omega)
      have hb : wNum (txF ⟨wb, we⟩ ⟨fr, to, am, no, sig⟩ i) (arrT ⟨fr, to, am, no, sig⟩ i) = txF ⟨wb, we⟩ ⟨fr, to, am, no, sig⟩ (i + 1) := rfl
      rw [hb] at hn
      generalize hg : ([AV.c (.int .i64 fr), AV.c (.int .i64 to), AV.c (.int .i64 am), AV.c (.int .i64 no)] : List AV) = ar at hx
      simp only [runA, runB, runC, runD, runE, runF, fieldE, storeE, binE, ↓reduceIte, Nat.reduceLT, Nat.reduceLeDiff, Nat.reduceEqDiff, Nat.reduceAdd, Nat.reduceMul, Nat.reduceSub, reduceCtorEq, putAt, unE, Nat.reduceBEq, convE, buildE, List.replicate, Int.reduceLT, Int.reduceLE, Int.reduceToNat, mkE, mapSetE, hN, hF, ty_3, ty_9, ty_47, ty_113, ty_180, notIf, isEq, g2, g3, e1, hx, h2, hn, bytes_length]
      refine ⟨4 - (i + 1), _, by omega, ?_, i + 1, by omega, rfl, rfl⟩
      rw [hns]
      subst hg
      simp only [runB, finC, finD, AS.get, AS.mem, false_implies, implies_true, ↓reduceIte, Nat.reduceEqDiff, Option.isSome_some, Option.isSome_none, forall_eq_or_imp, forall_eq, reduceCtorEq, Nat.reduceAdd, Nat.reduceMul, List.zip_cons_cons, List.zip_nil_left, List.zip_nil_right, List.forall_mem_nil, bytes_length]
      first | done | simp
    · have g2 : decide ((i : Int) < 4) = false := by simp; omega
      obtain rfl : i = 4 := by omega
      generalize txF ⟨wb, we⟩ ⟨fr, to, am, no, sig⟩ 4 = w2
      simp only [runA, runB, runC, runD, runE, runF, fieldE, storeE, binE, ↓reduceIte, Nat.reduceLT, Nat.reduceLeDiff, Nat.reduceEqDiff, Nat.reduceAdd, Nat.reduceMul, Nat.reduceSub, reduceCtorEq, putAt, unE, Nat.reduceBEq, convE, buildE, List.replicate, Int.reduceLT, Int.reduceLE, Int.reduceToNat, mkE, mapSetE, hN, hF, ty_3, ty_9, ty_47, ty_113, ty_180, notIf, isEq, g2]
      simp only [runB, finC, finD, Option.isSome_some, Option.isSome_none, ↓reduceIte, Nat.reduceEqDiff, Nat.reduceAdd, Nat.reduceMul, forall_eq_or_imp, forall_eq, implies_true, Nat.reduceBEq, reduceCtorEq, false_implies, List.zip_cons_cons, List.zip_nil_left, List.zip_nil_right, Nat.reduceLeDiff, List.forall_mem_nil, rs_123, bytes_length]

set_option maxRecDepth 100000 in
set_option maxHeartbeats 4000000 in
theorem txPut_sound (hΓ : SoundG Try.prog Γ) (h1 : Γ 123 = txtC) (h2 : Γ 103 = textC) : SoundC Try.prog 105 txPutC := by
  refine sound_fn Try.func105 (by kernel_rfl) rfl rfl ?_
  intro args objs r0 hr
  obtain ⟨⟨w, t⟩, ⟨hl, hs⟩, rfl, rfl, rfl⟩ := mkC_inv hr
  have hl : w.b.length ≤ 90000 := hl
  have hs : t.sig.length ≤ 9223372036854775807 := hs
  refine ⟨rfl, by show 2 ≤ _; decide, fun E hN hns hF => ?_⟩
  refine vc_sound hΓ mixed _ _ _ ?_
  have hN := hN.trans nt_105
  unfold Txn.av
  dsimp only
  have q1 := txt_at w t hl
  have hfl := txF_len w t 4
  have q2 := text_atw (txF w t 4) t.sig (by omega) hs
  generalize rText (txF w t 4) t.sig = w3 at q2 ⊢
  generalize txF w t 4 = w2 at q1 q2
  simp only [runA, runB, runC, runD, runE, runF, fieldE, storeE, binE, ↓reduceIte, Nat.reduceLT, Nat.reduceLeDiff, Nat.reduceEqDiff, Nat.reduceAdd, Nat.reduceMul, Nat.reduceSub, reduceCtorEq, putAt, unE, Nat.reduceBEq, convE, buildE, List.replicate, Int.reduceLT, Int.reduceLE, Int.reduceToNat, mkE, mapSetE, hN, hF, ty_3, ty_9, ty_47, ty_113, notIf, isEq, h1, q1, h2, q2, bytes_length]
  simp only [runB, finC, finD, Option.isSome_some, Option.isSome_none, ↓reduceIte, Nat.reduceEqDiff, Nat.reduceAdd, Nat.reduceMul, forall_eq_or_imp, forall_eq, implies_true, Nat.reduceBEq, reduceCtorEq, false_implies, List.zip_cons_cons, List.zip_nil_left, List.zip_nil_right, Nat.reduceLeDiff, List.forall_mem_nil, rs_105, bytes_length]



variable {Γ : FuncId → Contract}


/-- The document's writer. -/
def rNum (w : WS) (n : Int) : WS := if n < 0 ∨ 1099511627776 < n then ⟨w.b, if w.e = 0 then 4 else w.e⟩ else if w.b.length ≤ 16384 then ⟨w.b ++ putB n 6, w.e⟩ else w
def wAgg (w : WS) : AV := .agg [.c (.sl (bytes w.b)), .c (.int .i64 w.e)]
def rNumC : Contract := fun args objs => match args, objs with
  | [.agg [.c (.sl rows), .c (.int .i64 e)], .c (.int .i64 n)], [] => match asB rows with
    | some b => if b.length ≤ 100000 then some ⟨[.pv (wAgg (rNum ⟨b, e⟩ n))], []⟩ else none
    | none => none
  | _, _ => none

set_option maxHeartbeats 4000000 in
theorem rNum_sound (hΓ : SoundG Try.prog Γ) (h54 : Γ 107 = putC) : SoundC Try.prog 108 rNumC := by
  refine sound_fn Try.func108 (by kernel_rfl) rfl rfl ?_
  intro args objs r hr
  unfold rNumC at hr
  split at hr
  · split at hr
    · rename_i rows e n _ b hb
      split at hr
      · rename_i hc
        cases hr
        obtain rfl := asB_inv hb
        refine ⟨rfl, by show 2 ≤ _; decide, fun E hN hns hF => ?_⟩
        refine vc_sound hΓ mixed _ _ _ ?_
        have hN := hN.trans nt_108
        have hz := rowsOK_bytes
        have hz0 : rowsOK 1 [] := fun _ h => by cases h
        have hpl := putB_length n 6
        rw [show (min (max (6 : Int) 0) 8).toNat = 6 from rfl] at hpl
        have hL : b.length ≤ 140737488355328 := by omega
        have hL6 : b.length ≤ 140737488355322 := by omega
        cases h1 : decide (n < 0) <;> cases h2 : decide (n > 1099511627776) <;> cases h3 : decide ((b.length : Int) ≤ 16384) <;> cases h4 : (e == 0)
        all_goals
          simp only [runA, runB, runC, runD, runE, runF, fieldE, storeE, binE, ↓reduceIte, Nat.reduceLT, Nat.reduceLeDiff, Nat.reduceEqDiff, Nat.reduceAdd, Nat.reduceMul, Nat.reduceSub, reduceCtorEq, putAt, unE, Nat.reduceBEq, convE, buildE, List.replicate, Int.reduceLT, Int.reduceLE, Int.reduceToNat, mkE, mapSetE, hN, hF, ty_3, ty_5, ty_88, ty_133, notIf, isEq, h1, h2, h3, h4, h54, putC, bytes_length, bytes_app, hz, hz0, hL, hL6, hpl]
        all_goals
          simp only [decide_eq_false_iff_not, decide_eq_true_eq, gt_iff_lt, beq_iff_eq, beq_eq_false_iff_ne, ne_eq] at h1 h2 h3 h4
          rw [show (16384 : Int) = ((16384 : Nat) : Int) from rfl, Int.ofNat_le] at h3
        all_goals
          simp only [runB, finC, finD, Option.isSome_some, Option.isSome_none, ↓reduceIte, Nat.reduceEqDiff, Nat.reduceAdd, Nat.reduceMul, forall_eq_or_imp, forall_eq, implies_true, Nat.reduceBEq, reduceCtorEq, false_implies, List.zip_cons_cons, List.zip_nil_left, List.zip_nil_right, Nat.reduceLeDiff, List.forall_mem_nil, rs_108, ty_3, ty_5, ty_88, ty_133, wAgg, bytes_length]
        all_goals simp [rNum, h1, h2, h3, h4]
      · cases hr
    · cases hr
  · cases hr


variable {Γ : FuncId → Contract}

def rTextC : Contract := fun args objs => match args, objs with
  | [.agg [.c (.sl rows), .c (.int .i64 e)], .c (.str s)], [] => match asB rows with
    | some b => if b.length ≤ 100000 ∧ s.length ≤ 9223372036854775807 then some ⟨[.pv (wAgg (rText ⟨b, e⟩ s))], []⟩ else none
    | none => none
  | _, _ => none

set_option maxHeartbeats 4000000 in
theorem rText_sound (hΓ : SoundG Try.prog Γ) (h54 : Γ 107 = putC) : SoundC Try.prog 109 rTextC := by
  refine sound_fn Try.func109 (by kernel_rfl) rfl rfl ?_
  intro args objs r hr
  unfold rTextC at hr
  split at hr
  · split at hr
    · rename_i rows e s _ b hb
      split at hr
      · rename_i hc
        obtain ⟨hc, hcs⟩ := hc
        cases hr
        obtain rfl := asB_inv hb
        refine ⟨rfl, by show 2 ≤ _; decide, fun E hN hns hF => ?_⟩
        refine vc_sound hΓ mixed _ _ _ ?_
        have hN := hN.trans nt_109
        have hz := rowsOK_bytes
        have hz0 : rowsOK 1 [] := fun _ h => by cases h
        have hpl := putB_length s.length 2
        rw [show (min (max (2 : Int) 0) 8).toNat = 2 from rfl] at hpl
        have hL : b.length ≤ 140737488355328 := by omega
        have hL6 : b.length ≤ 140737488355326 := by omega
        by_cases h1n : 4096 < s.length
        · have h1 : decide ((s.length : Int) > 4096) = true := by simp; omega
          cases h4 : (e == 0)
          all_goals
            simp only [runA, runB, runC, runD, runE, runF, fieldE, storeE, binE, ↓reduceIte, Nat.reduceLT, Nat.reduceLeDiff, Nat.reduceEqDiff, Nat.reduceAdd, Nat.reduceMul, Nat.reduceSub, reduceCtorEq, putAt, unE, Nat.reduceBEq, convE, buildE, List.replicate, Int.reduceLT, Int.reduceLE, Int.reduceToNat, mkE, mapSetE, hN, hF, ty_3, ty_5, ty_9, ty_88, ty_133, notIf, isEq, h1, h4, h54, putC, bytes_length, bytes_app, hz, hz0, hL, hL6, hpl]
          all_goals
            simp only [beq_iff_eq, beq_eq_false_iff_ne, ne_eq] at h4
          all_goals
            simp only [runB, finC, finD, Option.isSome_some, Option.isSome_none, ↓reduceIte, Nat.reduceEqDiff, Nat.reduceAdd, Nat.reduceMul, forall_eq_or_imp, forall_eq, implies_true, Nat.reduceBEq, reduceCtorEq, false_implies, List.zip_cons_cons, List.zip_nil_left, List.zip_nil_right, Nat.reduceLeDiff, List.forall_mem_nil, rs_109, ty_3, ty_5, ty_9, ty_88, ty_133, wAgg, bytes_length]
          all_goals simp [rText, h1n, h4]
        · have h1 : decide ((s.length : Int) > 4096) = false := by simp; omega
          have hL7 : b.length + 2 + s.length ≤ 140737488355328 := by omega
          cases h3 : decide ((b.length : Int) ≤ 16384)
          all_goals
            simp only [runA, runB, runC, runD, runE, runF, fieldE, storeE, binE, ↓reduceIte, Nat.reduceLT, Nat.reduceLeDiff, Nat.reduceEqDiff, Nat.reduceAdd, Nat.reduceMul, Nat.reduceSub, reduceCtorEq, putAt, unE, Nat.reduceBEq, convE, buildE, List.replicate, Int.reduceLT, Int.reduceLE, Int.reduceToNat, mkE, mapSetE, hN, hF, ty_3, ty_5, ty_9, ty_88, ty_133, notIf, isEq, h1, h3, h54, putC, bytes_length, bytes_app, hz, hz0, hL, hL6, hL7, hpl]
          all_goals
            simp only [decide_eq_false_iff_not, decide_eq_true_eq] at h3
            rw [show (16384 : Int) = ((16384 : Nat) : Int) from rfl, Int.ofNat_le] at h3
          all_goals
            simp only [runB, finC, finD, Option.isSome_some, Option.isSome_none, ↓reduceIte, Nat.reduceEqDiff, Nat.reduceAdd, Nat.reduceMul, forall_eq_or_imp, forall_eq, implies_true, Nat.reduceBEq, reduceCtorEq, false_implies, List.zip_cons_cons, List.zip_nil_left, List.zip_nil_right, Nat.reduceLeDiff, List.forall_mem_nil, rs_109, ty_3, ty_5, ty_9, ty_88, ty_133, wAgg, bytes_length]
          all_goals simp [rText, h1n, h3]
      · cases hr
    · cases hr
  · cases hr

/-- What the reference does. -/
def rDoneC : Contract := fun args objs => match args, objs with
  | [.agg [.c (.sl rows), .c (.int .i64 e)]], [] => match asB rows with
    | some b => some ⟨[.pv (.c (.sl (bytes (doneR ⟨b, e⟩).1))), .pv (.c (.int .i64 (doneR ⟨b, e⟩).2))], []⟩
    | none => none
  | _, _ => none

set_option maxHeartbeats 4000000 in
theorem rDone_sound : SoundC Try.prog 88 rDoneC := by
  refine sound_fn Try.func88 (by kernel_rfl) rfl rfl ?_
  intro args objs r hr
  unfold rDoneC at hr
  split at hr
  · split at hr
    · rename_i rows e _ b hb
      cases hr
      obtain rfl := asB_inv hb
      refine ⟨rfl, by show 1 ≤ _; decide, fun E hN hns hF => ?_⟩
      refine vc_sound none0_sound mixed _ _ _ ?_
      have hN := hN.trans nt_88
      cases h3 : decide ((b.length : Int) > 16384) <;> cases h4 : (e != 0)
      all_goals
        simp only [runA, runB, runC, runD, runE, runF, fieldE, storeE, binE, ↓reduceIte, Nat.reduceLT, Nat.reduceLeDiff, Nat.reduceEqDiff, Nat.reduceAdd, Nat.reduceMul, Nat.reduceSub, reduceCtorEq, putAt, unE, Nat.reduceBEq, convE, buildE, List.replicate, Int.reduceLT, Int.reduceLE, Int.reduceToNat, mkE, mapSetE, hN, hF, ty_3, ty_5, ty_88, ty_133, notIf, isEq, h3, h4, bytes_length]
      all_goals try refine drawnP_intro (by kernel_rfl) (by kernel_rfl) ?_
      all_goals
        simp only [decide_eq_false_iff_not, decide_eq_true_eq, gt_iff_lt, bne_iff_ne, ne_eq, bne_eq_false_iff_eq] at h3 h4
        rw [show (16384 : Int) = ((16384 : Nat) : Int) from rfl, Int.ofNat_lt] at h3
      all_goals
        try simp only [runA, runB, runC, runD, runE, runF, fieldE, storeE, binE, ↓reduceIte, Nat.reduceLT, Nat.reduceLeDiff, Nat.reduceEqDiff, Nat.reduceAdd, Nat.reduceMul, Nat.reduceSub, reduceCtorEq, putAt, unE, Nat.reduceBEq, convE, buildE, List.replicate, Int.reduceLT, Int.reduceLE, Int.reduceToNat, mkE, mapSetE, hN, hF, ty_3, ty_5, ty_88, ty_133, bytes_length]
      all_goals
        simp only [runB, finC, finD, Option.isSome_some, Option.isSome_none, ↓reduceIte, Nat.reduceEqDiff, Nat.reduceAdd, Nat.reduceMul, forall_eq_or_imp, forall_eq, implies_true, Nat.reduceBEq, reduceCtorEq, false_implies, List.zip_cons_cons, List.zip_nil_left, List.zip_nil_right, Nat.reduceLeDiff, List.forall_mem_nil, rs_88, bytes_length]
      all_goals simp [doneR, h3, h4, bytes]
    · cases hr
  · cases hr


variable {Γ : FuncId → Contract}

theorem wNum_cap {w : WS} (n : Int) (h : w.b.length ≤ 20482) : (wNum w n).b.length ≤ 20482 := by
  unfold wNum
  split
  · exact h
  · split
    · show (w.b ++ putB n 6).length ≤ _
      rw [List.length_append, len6]; omega
    · exact h
theorem rText_cap {w : WS} (s : List UInt8) (h : w.b.length ≤ 20482) : (rText w s).b.length ≤ 20482 := by
  unfold rText
  split
  · exact h
  · split
    · show (w.b ++ putB s.length 2 ++ s).length ≤ _
      rw [List.length_append, List.length_append, len2]; omega
    · exact h
theorem rNum_at (w : WS) (n : Int) (h : w.b.length ≤ 100000) : rNumC [.agg [.c (.sl (bytes w.b)), .c (.int .i64 w.e)], .c (.int .i64 n)] [] = some ⟨[.pv (.agg [.c (.sl (bytes (wNum w n).b)), .c (.int .i64 (wNum w n).e)])], []⟩ := by
  simp [rNumC, asB_bytes, h, wAgg]; exact ⟨rfl, rfl⟩
theorem rTextR_at (w : WS) (s : List UInt8) (h : w.b.length ≤ 100000) (h2 : s.length ≤ 9223372036854775807) : rTextC [.agg [.c (.sl (bytes w.b)), .c (.int .i64 w.e)], .c (.str s)] [] = some ⟨[.pv (.agg [.c (.sl (bytes (rText w s).b)), .c (.int .i64 (rText w s).e)])], []⟩ := by
  simp [rTextC, asB_bytes, h, h2, wAgg]
theorem rDone_at (w : WS) : rDoneC [.agg [.c (.sl (bytes w.b)), .c (.int .i64 w.e)]] [] = some ⟨[.pv (.c (.sl (bytes (doneR w).1))), .pv (.c (.int .i64 (doneR w).2))], []⟩ := by
  simp [rDoneC, asB_bytes]
theorem txF4 (w : WS) (t : Txn) : txF w t 4 = wNum (wNum (wNum (wNum (rText w [116, 120]) t.fr) t.to) t.am) t.no := rfl
theorem txF_cap {w : WS} (t : Txn) (h : w.b.length ≤ 20482) : (txF w t 4).b.length ≤ 20482 := by
  rw [txF4]; exact wNum_cap _ (wNum_cap _ (wNum_cap _ (wNum_cap _ (rText_cap _ h))))
def txP (w : WS) (t : Txn) : WS := rText (txF w t 4) t.sig
theorem txP_cap {w : WS} (t : Txn) (h : w.b.length ≤ 20482) : (txP w t).b.length ≤ 20482 := rText_cap _ (txF_cap t h)
noncomputable def rTxFC : Contract := mkC (α := WS × Txn) (fun p => p.1.b.length ≤ 20482) (fun p => [.agg [.c (.sl (bytes p.1.b)), .c (.int .i64 p.1.e)], p.2.av]) (fun p => []) (fun p => ⟨[.pv (.agg [.c (.sl (bytes (txF p.1 p.2 4).b)), .c (.int .i64 (txF p.1 p.2 4).e)])], []⟩)
theorem rTxF_at (w : WS) (tfr : Int) (tto : Int) (tam : Int) (tno : Int) (tsig : List UInt8) (g0 : w.b.length ≤ 20482) : rTxFC [.agg [.c (.sl (bytes w.b)), .c (.int .i64 w.e)], (.agg [.c (.int .i64 tfr), .c (.int .i64 tto), .c (.int .i64 tam), .c (.int .i64 tno), .c (.str tsig)])] [] = some ⟨[.pv (.agg [.c (.sl (bytes (txF w (⟨tfr, tto, tam, tno, tsig⟩ : Txn) 4).b)), .c (.int .i64 (txF w (⟨tfr, tto, tam, tno, tsig⟩ : Txn) 4).e)])], []⟩ := by
  obtain ⟨wb, we⟩ := w
  exact mkC_at (α := WS × Txn) (⟨wb, we⟩, ⟨tfr, tto, tam, tno, tsig⟩) g0 (by
    rintro ⟨⟨w'b, w'e⟩, t'⟩ _ h ho
    have hh := And.intro h ho
    clear h ho
    simp only [List.cons.injEq, AV.c.injEq, AV.agg.injEq, PC.int.injEq, PC.str.injEq, PC.bool.injEq, PC.sl.injEq, OV.c.injEq, OV.own.injEq, OV.mp.injEq, bytes_iff, texts_iff, true_and, and_true, and_self, beq_self_eq_true, Txn.av_iff] at hh
    simp only [hh])

set_option maxRecDepth 100000 in
set_option maxHeartbeats 4000000 in
theorem rTxF_sound (hΓ : SoundG Try.prog Γ) (h1 : Γ 108 = rNumC) (h2 : Γ 109 = rTextC) : SoundC Try.prog 124 rTxFC := by
  refine sound_fn Try.func124 (by kernel_rfl) rfl rfl ?_
  intro args objs r0 hr
  obtain ⟨⟨w, ⟨fr, to, am, no, sig⟩⟩, hl, rfl, rfl, rfl⟩ := mkC_inv hr
  refine ⟨rfl, by show 2 ≤ _; decide, fun E hN hns hF => ?_⟩
  refine vc_sound hΓ mixed _ _ _ ?_
  have hN := hN.trans nt_124
  have hl : w.b.length ≤ 20482 := hl
  have l0 := rText_cap [116, 120] hl
  have l1 := wNum_cap fr l0
  have l2 := wNum_cap to l1
  have l3 := wNum_cap am l2
  unfold Txn.av
  rw [txF4]
  dsimp only
  have q0 := rTextR_at w [116, 120] (by omega) (by decide)
  have q1 := rNum_at (rText w [116, 120]) fr (by omega)
  have q2 := rNum_at (wNum (rText w [116, 120]) fr) to (by omega)
  have q3 := rNum_at (wNum (wNum (rText w [116, 120]) fr) to) am (by omega)
  have q4 := rNum_at (wNum (wNum (wNum (rText w [116, 120]) fr) to) am) no (by omega)
  simp only [runA, runB, runC, runD, runE, runF, fieldE, storeE, binE, ↓reduceIte, Nat.reduceLT, Nat.reduceLeDiff, Nat.reduceEqDiff, Nat.reduceAdd, Nat.reduceMul, Nat.reduceSub, reduceCtorEq, putAt, unE, Nat.reduceBEq, convE, buildE, List.replicate, Int.reduceLT, Int.reduceLE, Int.reduceToNat, mkE, mapSetE, hN, hF, ty_3, ty_9, ty_47, ty_88, ty_133, notIf, isEq, h1, h2, q0, q1, q2, q3, q4]
  refine drawnP_intro (by kernel_rfl) (by kernel_rfl) ?_
  simp only [runA, runB, runC, runD, runE, runF, fieldE, storeE, binE, ↓reduceIte, Nat.reduceLT, Nat.reduceLeDiff, Nat.reduceEqDiff, Nat.reduceAdd, Nat.reduceMul, Nat.reduceSub, reduceCtorEq, putAt, unE, Nat.reduceBEq, convE, buildE, List.replicate, Int.reduceLT, Int.reduceLE, Int.reduceToNat, mkE, mapSetE, hN, hF, ty_3, ty_9, ty_47, ty_88, ty_133, notIf, isEq, h1, h2, q0, q1, q2, q3, q4]
  simp only [runB, finC, finD, Option.isSome_some, Option.isSome_none, ↓reduceIte, Nat.reduceEqDiff, Nat.reduceAdd, Nat.reduceMul, forall_eq_or_imp, forall_eq, implies_true, Nat.reduceBEq, reduceCtorEq, false_implies, List.zip_cons_cons, List.zip_nil_left, List.zip_nil_right, Nat.reduceLeDiff, List.forall_mem_nil, rs_124, ty_3, ty_9, ty_47, ty_88, ty_133]
noncomputable def rTxPC : Contract := mkC (α := WS × Txn) (fun p => p.1.b.length ≤ 20482 ∧ p.2.sig.length ≤ 9223372036854775807) (fun p => [.agg [.c (.sl (bytes p.1.b)), .c (.int .i64 p.1.e)], p.2.av]) (fun p => []) (fun p => ⟨[.pv (.agg [.c (.sl (bytes (txP p.1 p.2).b)), .c (.int .i64 (txP p.1 p.2).e)])], []⟩)
theorem rTxP_at (w : WS) (tfr : Int) (tto : Int) (tam : Int) (tno : Int) (tsig : List UInt8) (g0 : w.b.length ≤ 20482) (g1 : tsig.length ≤ 9223372036854775807) : rTxPC [.agg [.c (.sl (bytes w.b)), .c (.int .i64 w.e)], (.agg [.c (.int .i64 tfr), .c (.int .i64 tto), .c (.int .i64 tam), .c (.int .i64 tno), .c (.str tsig)])] [] = some ⟨[.pv (.agg [.c (.sl (bytes (txP w (⟨tfr, tto, tam, tno, tsig⟩ : Txn)).b)), .c (.int .i64 (txP w (⟨tfr, tto, tam, tno, tsig⟩ : Txn)).e)])], []⟩ := by
  obtain ⟨wb, we⟩ := w
  exact mkC_at (α := WS × Txn) (⟨wb, we⟩, ⟨tfr, tto, tam, tno, tsig⟩) ⟨g0, g1⟩ (by
    rintro ⟨⟨w'b, w'e⟩, t'⟩ _ h ho
    have hh := And.intro h ho
    clear h ho
    simp only [List.cons.injEq, AV.c.injEq, AV.agg.injEq, PC.int.injEq, PC.str.injEq, PC.bool.injEq, PC.sl.injEq, OV.c.injEq, OV.own.injEq, OV.mp.injEq, bytes_iff, texts_iff, true_and, and_true, and_self, beq_self_eq_true, Txn.av_iff] at hh
    simp only [hh])

set_option maxRecDepth 100000 in
set_option maxHeartbeats 4000000 in
theorem rTxP_sound (hΓ : SoundG Try.prog Γ) (h1 : Γ 124 = rTxFC) (h2 : Γ 109 = rTextC) : SoundC Try.prog 110 rTxPC := by
  refine sound_fn Try.func110 (by kernel_rfl) rfl rfl ?_
  intro args objs r0 hr
  obtain ⟨⟨w, ⟨fr, to, am, no, sig⟩⟩, ⟨hl, hs⟩, rfl, rfl, rfl⟩ := mkC_inv hr
  refine ⟨rfl, by show 2 ≤ _; decide, fun E hN hns hF => ?_⟩
  refine vc_sound hΓ mixed _ _ _ ?_
  have hN := hN.trans nt_110
  have hl : w.b.length ≤ 20482 := hl
  have hs : sig.length ≤ 9223372036854775807 := hs
  have l0 := txF_cap ⟨fr, to, am, no, sig⟩ hl
  unfold txP Txn.av
  dsimp only
  have q0 := rTxF_at w fr to am no sig hl
  have q1 := rTextR_at (txF w ⟨fr, to, am, no, sig⟩ 4) sig (by omega) (by omega)
  simp only [runA, runB, runC, runD, runE, runF, fieldE, storeE, binE, ↓reduceIte, Nat.reduceLT, Nat.reduceLeDiff, Nat.reduceEqDiff, Nat.reduceAdd, Nat.reduceMul, Nat.reduceSub, reduceCtorEq, putAt, unE, Nat.reduceBEq, convE, buildE, List.replicate, Int.reduceLT, Int.reduceLE, Int.reduceToNat, mkE, mapSetE, hN, hF, ty_3, ty_9, ty_47, ty_88, ty_133, notIf, isEq, h1, h2, q0, q1]
  refine drawnP_intro (by kernel_rfl) (by kernel_rfl) ?_
  simp only [runA, runB, runC, runD, runE, runF, fieldE, storeE, binE, ↓reduceIte, Nat.reduceLT, Nat.reduceLeDiff, Nat.reduceEqDiff, Nat.reduceAdd, Nat.reduceMul, Nat.reduceSub, reduceCtorEq, putAt, unE, Nat.reduceBEq, convE, buildE, List.replicate, Int.reduceLT, Int.reduceLE, Int.reduceToNat, mkE, mapSetE, hN, hF, ty_3, ty_9, ty_47, ty_88, ty_133, notIf, isEq, h1, h2, q0, q1]
  simp only [runB, finC, finD, Option.isSome_some, Option.isSome_none, ↓reduceIte, Nat.reduceEqDiff, Nat.reduceAdd, Nat.reduceMul, forall_eq_or_imp, forall_eq, implies_true, Nat.reduceBEq, reduceCtorEq, false_implies, List.zip_cons_cons, List.zip_nil_left, List.zip_nil_right, Nat.reduceLeDiff, List.forall_mem_nil, rs_110, ty_3, ty_9, ty_47, ty_88, ty_133]

/-- A block's fields, ahead of its transactions. -/
def bkH (w : WS) (b : Blk) : WS := wNum (wNum (rText (wNum (wNum (rText w [98, 108, 111, 99, 107]) b.vw) b.ht) b.pa) b.ju.vw) (b.txs.length : Int)
def txsP (w : WS) (l : List Txn) : WS := l.foldl txP w
def bkF (w : WS) (b : Blk) : WS := txsP (bkH w b) b.txs
theorem bkH_cap {w : WS} (b : Blk) (h : w.b.length ≤ 20482) : (bkH w b).b.length ≤ 20482 := wNum_cap _ (wNum_cap _ (rText_cap _ (wNum_cap _ (wNum_cap _ (rText_cap _ h)))))
theorem txsP_cap : ∀ {l : List Txn} {w : WS}, w.b.length ≤ 20482 → (txsP w l).b.length ≤ 20482
  | [], w, h => h
  | t :: l, w, h => txsP_cap (l := l) (txP_cap t h)
theorem bkF_cap {w : WS} (b : Blk) (h : w.b.length ≤ 20482) : (bkF w b).b.length ≤ 20482 := txsP_cap (bkH_cap b h)
theorem txsP_take (w : WS) (l : List Txn) (i : Nat) (h : i < l.length) : txsP w (l.take (i + 1)) = txP (txsP w (l.take i)) (l.getD i zeroT) := by
  have : l.take (i + 1) = l.take i ++ [l.getD i zeroT] := by
    rw [List.take_add_one, List.getElem?_eq_getElem h]; simp [List.getD, h]
  rw [this]
  unfold txsP
  rw [List.foldl_append]
  rfl
def okS (l : List Txn) : Prop := ∀ t ∈ l, t.sig.length ≤ 9223372036854775807
theorem okS_getD {l : List Txn} (h : okS l) {i : Nat} (hi : i < l.length) : (l.getD i zeroT).sig.length ≤ 9223372036854775807 := by
  rw [List.getD, List.getElem?_eq_getElem hi]; exact h _ (List.getElem_mem hi)
noncomputable def rBkFC : Contract := mkC (α := WS × Blk) (fun p => p.1.b.length ≤ 20482 ∧ p.2.pa.length ≤ 9223372036854775807 ∧ p.2.txs.length ≤ 4294967296 ∧ okS p.2.txs) (fun p => [.agg [.c (.sl (bytes p.1.b)), .c (.int .i64 p.1.e)], p.2.av]) (fun p => []) (fun p => ⟨[.pv (.agg [.c (.sl (bytes (bkF p.1 p.2).b)), .c (.int .i64 (bkF p.1 p.2).e)])], []⟩)
theorem rBkF_at (w : WS) (bvw : Int) (bht : Int) (bpa : List UInt8) (bjvw : Int) (bjht : Int) (bjbl : List UInt8) (bjvs : List Vt) (btxs : List Txn) (bsig : List UInt8) (g0 : w.b.length ≤ 20482) (g1 : bpa.length ≤ 9223372036854775807) (g2 : btxs.length ≤ 4294967296) (g3 : okS btxs) : rBkFC [.agg [.c (.sl (bytes w.b)), .c (.int .i64 w.e)], (.agg [.c (.int .i64 bvw), .c (.int .i64 bht), .c (.str bpa), .c (.int .i64 bjvw), .c (.int .i64 bjht), .c (.str bjbl), .c (.sl (votes bjvs)), .c (.sl (trows btxs)), .c (.str bsig)])] [] = some ⟨[.pv (.agg [.c (.sl (bytes (bkF w (⟨bvw, bht, bpa, ⟨bjvw, bjht, bjbl, bjvs⟩, btxs, bsig⟩ : Blk)).b)), .c (.int .i64 (bkF w (⟨bvw, bht, bpa, ⟨bjvw, bjht, bjbl, bjvs⟩, btxs, bsig⟩ : Blk)).e)])], []⟩ := by
  obtain ⟨wb, we⟩ := w
  exact mkC_at (α := WS × Blk) (⟨wb, we⟩, ⟨bvw, bht, bpa, ⟨bjvw, bjht, bjbl, bjvs⟩, btxs, bsig⟩) ⟨g0, g1, g2, g3⟩ (by
    rintro ⟨⟨w'b, w'e⟩, b'⟩ _ h ho
    have hh := And.intro h ho
    clear h ho
    simp only [List.cons.injEq, AV.c.injEq, AV.agg.injEq, PC.int.injEq, PC.str.injEq, PC.bool.injEq, PC.sl.injEq, OV.c.injEq, OV.own.injEq, OV.mp.injEq, bytes_iff, texts_iff, true_and, and_true, and_self, beq_self_eq_true, Blk.av_iff] at hh
    simp only [hh])
noncomputable def bkTxC : Contract := mkC (α := WS × Blk) (fun p => p.1.b.length ≤ 20482 ∧ p.2.pa.length ≤ 9223372036854775807 ∧ p.2.txs.length ≤ 4294967296 ∧ okS p.2.txs) (fun p => [.ptr 6400000 0, p.2.av]) (fun p => [[.own 1 (bytes p.1.b), .c (.int .i64 p.1.e), .c (.bool true)]]) (fun p => ⟨[], [[.own 1 (bytes (bkF p.1 p.2).b), .c (.int .i64 (bkF p.1 p.2).e), .c (.bool true)]]⟩)
theorem bkTx_at (w : WS) (bvw : Int) (bht : Int) (bpa : List UInt8) (bjvw : Int) (bjht : Int) (bjbl : List UInt8) (bjvs : List Vt) (btxs : List Txn) (bsig : List UInt8) (g0 : w.b.length ≤ 20482) (g1 : bpa.length ≤ 9223372036854775807) (g2 : btxs.length ≤ 4294967296) (g3 : okS btxs) : bkTxC [.ptr 6400000 0, (.agg [.c (.int .i64 bvw), .c (.int .i64 bht), .c (.str bpa), .c (.int .i64 bjvw), .c (.int .i64 bjht), .c (.str bjbl), .c (.sl (votes bjvs)), .c (.sl (trows btxs)), .c (.str bsig)])] [[.own 1 (bytes w.b), .c (.int .i64 w.e), .c (.bool true)]] = some ⟨[], [[.own 1 (bytes (bkF w (⟨bvw, bht, bpa, ⟨bjvw, bjht, bjbl, bjvs⟩, btxs, bsig⟩ : Blk)).b), .c (.int .i64 (bkF w (⟨bvw, bht, bpa, ⟨bjvw, bjht, bjbl, bjvs⟩, btxs, bsig⟩ : Blk)).e), .c (.bool true)]]⟩ := by
  obtain ⟨wb, we⟩ := w
  exact mkC_at (α := WS × Blk) (⟨wb, we⟩, ⟨bvw, bht, bpa, ⟨bjvw, bjht, bjbl, bjvs⟩, btxs, bsig⟩) ⟨g0, g1, g2, g3⟩ (by
    rintro ⟨⟨w'b, w'e⟩, b'⟩ _ h ho
    have hh := And.intro h ho
    clear h ho
    simp only [List.cons.injEq, AV.c.injEq, AV.agg.injEq, PC.int.injEq, PC.str.injEq, PC.bool.injEq, PC.sl.injEq, OV.c.injEq, OV.own.injEq, OV.mp.injEq, bytes_iff, texts_iff, true_and, and_true, and_self, beq_self_eq_true, Blk.av_iff] at hh
    simp only [hh])


variable {Γ : FuncId → Contract}


set_option maxRecDepth 100000 in
set_option maxHeartbeats 4000000 in
theorem bkTx_sound (hΓ : SoundG Try.prog Γ) (h1 : Γ 104 = numC) (h2 : Γ 103 = textC) (h3 : Γ 105 = txPutC) : SoundC Try.prog 78 bkTxC := by
  refine sound_fn Try.func78 (by kernel_rfl) rfl rfl ?_
  intro args objs r0 hr
  obtain ⟨⟨w, ⟨vw, ht, pa, ⟨jv, jh, jb, js⟩, txs, sig⟩⟩, ⟨hl, hpa, htl, hts⟩, rfl, rfl, rfl⟩ := mkC_inv hr
  refine ⟨rfl, by show 2 ≤ _; decide, fun E hN hns hF => ?_⟩
  refine vc_sound hΓ mixed _ _ _ ?_
  have hN := hN.trans nt_78
  have hl : w.b.length ≤ 20482 := hl
  have hpa : pa.length ≤ 9223372036854775807 := hpa
  have htl : txs.length ≤ 4294967296 := htl
  have hts : okS txs := hts
  have l0 := rText_cap [98, 108, 111, 99, 107] hl
  have l1 := wNum_cap vw l0
  have l2 := wNum_cap ht l1
  have l3 := rText_cap pa l2
  have l4 := wNum_cap jv l3
  have l5 := wNum_cap (txs.length : Int) l4
  have hE : bkF w ⟨vw, ht, pa, ⟨jv, jh, jb, js⟩, txs, sig⟩ = txsP (bkH w ⟨vw, ht, pa, ⟨jv, jh, jb, js⟩, txs, sig⟩) txs := rfl
  have hH : bkH w ⟨vw, ht, pa, ⟨jv, jh, jb, js⟩, txs, sig⟩ = wNum (wNum (rText (wNum (wNum (rText w [98, 108, 111, 99, 107]) vw) ht) pa) jv) (txs.length : Int) := rfl
  rw [← hH] at l5
  unfold Blk.av
  dsimp only
  rw [hE]
  have q0 := text_atw (w) [98, 108, 111, 99, 107] (by omega) (by decide)
  have q1 := num_atw (rText w [98, 108, 111, 99, 107]) vw (by omega)
  have q2 := num_atw (wNum (rText w [98, 108, 111, 99, 107]) vw) ht (by omega)
  have q3 := text_atw (wNum (wNum (rText w [98, 108, 111, 99, 107]) vw) ht) pa (by omega) (by omega)
  have q4 := num_atw (rText (wNum (wNum (rText w [98, 108, 111, 99, 107]) vw) ht) pa) jv (by omega)
  have q5 := num_atw (wNum (rText (wNum (wNum (rText w [98, 108, 111, 99, 107]) vw) ht) pa) jv) (txs.length : Int) (by omega)
  rw [← hH] at q5
  simp only [runA, runB, runC, runD, runE, runF, fieldE, storeE, binE, ↓reduceIte, Nat.reduceLT, Nat.reduceLeDiff, Nat.reduceEqDiff, Nat.reduceAdd, Nat.reduceMul, Nat.reduceSub, reduceCtorEq, putAt, unE, Nat.reduceBEq, convE, buildE, List.replicate, Int.reduceLT, Int.reduceLE, Int.reduceToNat, mkE, mapSetE, hN, hF, ty_3, ty_9, ty_22, ty_24, ty_25, ty_27, ty_47, ty_113, notIf, isEq, h1, h2, q0, q1, q2, q3, q4, q5, trows_length, bytes_length]
  generalize bkH w ⟨vw, ht, pa, ⟨jv, jh, jb, js⟩, txs, sig⟩ = w0 at l5 ⊢
  refine AWP.loop (fun k st => ∃ i : Nat, i ≤ txs.length ∧ k = txs.length - i ∧ st = ⟨[(0, .ptr 6400000 0), (31, .c (.sl (trows txs))), (32, .c (.int .i64 (txs.length : Int))), (33, .c (.int .i64 (i : Int)))],
    [(6400000, .obj [.own 6400001 1 (bytes (txsP w0 (txs.take i)).b), .c (.int .i64 (txsP w0 (txs.take i)).e), .c (.bool true)] false), (6400001, .row 1 (txsP w0 (txs.take i)).b.length)]⟩) ⟨txs.length, _, ?w, 0, Nat.zero_le _, rfl, rfl⟩ ?r
  case w =>
    rw [hns]
    simp only [runB, finC, finD, AS.get, AS.mem, false_implies, implies_true, ↓reduceIte, Nat.reduceEqDiff, Option.isSome_some, Option.isSome_none, forall_eq_or_imp, forall_eq, reduceCtorEq, Nat.reduceAdd, Nat.reduceMul, List.zip_cons_cons, List.zip_nil_left, List.zip_nil_right, List.forall_mem_nil, List.take_zero, txsP, List.foldl_nil, bytes_length]
    first | done | simp
  case r =>
    rintro k st ⟨i, hi, rfl, rfl⟩
    refine vc_sound hΓ mixed _ _ _ ?_
    have hc := txsP_cap (l := txs.take i) l5
    by_cases hlt : i < txs.length
    · have k1 : decide ((i : Int) < (txs.length : Int)) = true := by simpa using hlt
      have e1 : IntKind.i64.wrap ((i : Int) + 1) = (i : Int) + 1 := wrapI (by omega)
      have hg := trowsD txs i hlt
      have hn := txPut_at (txsP w0 (txs.take i)) (txs.getD i zeroT) (by omega) (okS_getD hts hlt)
      rw [show rText (txF (txsP w0 (txs.take i)) (txs.getD i zeroT) 4) (txs.getD i zeroT).sig = txP (txsP w0 (txs.take i)) (txs.getD i zeroT) from rfl, ← txsP_take w0 txs i hlt] at hn
      unfold Txn.pcs at hg
      generalize txs.getD i zeroT = y at hg hn
      generalize txsP w0 (txs.take i) = wi at hn hc ⊢
      simp only [runA, runB, runC, runD, runE, runF, fieldE, storeE, binE, ↓reduceIte, Nat.reduceLT, Nat.reduceLeDiff, Nat.reduceEqDiff, Nat.reduceAdd, Nat.reduceMul, Nat.reduceSub, reduceCtorEq, putAt, unE, Nat.reduceBEq, convE, buildE, List.replicate, Int.reduceLT, Int.reduceLE, Int.reduceToNat, mkE, mapSetE, hN, hF, ty_3, ty_9, ty_22, ty_24, ty_25, ty_27, ty_47, ty_113, notIf, isEq, k1, e1, hg, h3, hn, bytes_length]
      refine ⟨txs.length - (i + 1), _, by omega, ?_, i + 1, by omega, rfl, rfl⟩
      rw [hns]
      simp only [runB, finC, finD, AS.get, AS.mem, false_implies, implies_true, ↓reduceIte, Nat.reduceEqDiff, Option.isSome_some, Option.isSome_none, forall_eq_or_imp, forall_eq, reduceCtorEq, Nat.reduceAdd, Nat.reduceMul, List.zip_cons_cons, List.zip_nil_left, List.zip_nil_right, List.forall_mem_nil, bytes_length]
      first | done | simp
    · have k1 : decide ((i : Int) < (txs.length : Int)) = false := by simpa using hlt
      have hil : i = txs.length := by omega
      have ht : txs.take i = txs := by rw [hil, List.take_length]
      rw [ht]
      generalize txsP w0 txs = w9
      simp only [runA, runB, runC, runD, runE, runF, fieldE, storeE, binE, ↓reduceIte, Nat.reduceLT, Nat.reduceLeDiff, Nat.reduceEqDiff, Nat.reduceAdd, Nat.reduceMul, Nat.reduceSub, reduceCtorEq, putAt, unE, Nat.reduceBEq, convE, buildE, List.replicate, Int.reduceLT, Int.reduceLE, Int.reduceToNat, mkE, mapSetE, hN, hF, ty_3, ty_9, ty_22, ty_24, ty_25, ty_27, ty_47, ty_113, notIf, isEq, k1]
      simp only [runB, finC, finD, Option.isSome_some, Option.isSome_none, ↓reduceIte, Nat.reduceEqDiff, Nat.reduceAdd, Nat.reduceMul, forall_eq_or_imp, forall_eq, implies_true, Nat.reduceBEq, reduceCtorEq, false_implies, List.zip_cons_cons, List.zip_nil_left, List.zip_nil_right, Nat.reduceLeDiff, List.forall_mem_nil, rs_78, bytes_length]

set_option maxRecDepth 100000 in
set_option maxHeartbeats 4000000 in
theorem rBkF_sound (hΓ : SoundG Try.prog Γ) (h1 : Γ 108 = rNumC) (h2 : Γ 109 = rTextC) (h3 : Γ 110 = rTxPC) : SoundC Try.prog 89 rBkFC := by
  refine sound_fn Try.func89 (by kernel_rfl) rfl rfl ?_
  intro args objs r0 hr
  obtain ⟨⟨w, ⟨vw, ht, pa, ⟨jv, jh, jb, js⟩, txs, sig⟩⟩, ⟨hl, hpa, htl, hts⟩, rfl, rfl, rfl⟩ := mkC_inv hr
  refine ⟨rfl, by show 2 ≤ _; decide, fun E hN hns hF => ?_⟩
  refine vc_sound hΓ mixed _ _ _ ?_
  have hN := hN.trans nt_89
  have hl : w.b.length ≤ 20482 := hl
  have hpa : pa.length ≤ 9223372036854775807 := hpa
  have htl : txs.length ≤ 4294967296 := htl
  have hts : okS txs := hts
  have l0 := rText_cap [98, 108, 111, 99, 107] hl
  have l1 := wNum_cap vw l0
  have l2 := wNum_cap ht l1
  have l3 := rText_cap pa l2
  have l4 := wNum_cap jv l3
  have l5 := wNum_cap (txs.length : Int) l4
  have hE : bkF w ⟨vw, ht, pa, ⟨jv, jh, jb, js⟩, txs, sig⟩ = txsP (bkH w ⟨vw, ht, pa, ⟨jv, jh, jb, js⟩, txs, sig⟩) txs := rfl
  have hH : bkH w ⟨vw, ht, pa, ⟨jv, jh, jb, js⟩, txs, sig⟩ = wNum (wNum (rText (wNum (wNum (rText w [98, 108, 111, 99, 107]) vw) ht) pa) jv) (txs.length : Int) := rfl
  rw [← hH] at l5
  unfold Blk.av
  dsimp only
  rw [hE]
  have q0 := rTextR_at (w) [98, 108, 111, 99, 107] (by omega) (by decide)
  have q1 := rNum_at (rText w [98, 108, 111, 99, 107]) vw (by omega)
  have q2 := rNum_at (wNum (rText w [98, 108, 111, 99, 107]) vw) ht (by omega)
  have q3 := rTextR_at (wNum (wNum (rText w [98, 108, 111, 99, 107]) vw) ht) pa (by omega) (by omega)
  have q4 := rNum_at (rText (wNum (wNum (rText w [98, 108, 111, 99, 107]) vw) ht) pa) jv (by omega)
  have q5 := rNum_at (wNum (rText (wNum (wNum (rText w [98, 108, 111, 99, 107]) vw) ht) pa) jv) (txs.length : Int) (by omega)
  rw [← hH] at q5
  simp only [runA, runB, runC, runD, runE, runF, fieldE, storeE, binE, ↓reduceIte, Nat.reduceLT, Nat.reduceLeDiff, Nat.reduceEqDiff, Nat.reduceAdd, Nat.reduceMul, Nat.reduceSub, reduceCtorEq, putAt, unE, Nat.reduceBEq, convE, buildE, List.replicate, Int.reduceLT, Int.reduceLE, Int.reduceToNat, mkE, mapSetE, hN, hF, ty_3, ty_9, ty_22, ty_24, ty_25, ty_27, ty_47, ty_88, ty_133, notIf, isEq, h1, h2, q0, q1, q2, q3, q4, q5, trows_length]
  generalize bkH w ⟨vw, ht, pa, ⟨jv, jh, jb, js⟩, txs, sig⟩ = w0 at l5 ⊢
  refine drawnP_intro (by kernel_rfl) (by kernel_rfl) ?_
  simp only [runA, runB, runC, runD, runE, runF, fieldE, storeE, binE, ↓reduceIte, Nat.reduceLT, Nat.reduceLeDiff, Nat.reduceEqDiff, Nat.reduceAdd, Nat.reduceMul, Nat.reduceSub, reduceCtorEq, putAt, unE, Nat.reduceBEq, convE, buildE, List.replicate, Int.reduceLT, Int.reduceLE, Int.reduceToNat, mkE, mapSetE, hN, hF, ty_3, ty_9, ty_22, ty_24, ty_25, ty_27, ty_47, ty_88, ty_133, notIf, isEq]
  refine AWP.loop (fun k st => ∃ i : Nat, i ≤ txs.length ∧ k = txs.length - i ∧ st = ⟨[(2, .ptr 128 0), (3, .ptr 192 0), (4, .ptr 256 0), (5, .c (.int .i64 (i : Int)))],
    [(128, .obj [.c (.sl (bytes (txsP w0 (txs.take i)).b)), .c (.int .i64 (txsP w0 (txs.take i)).e)] false), (192, .obj [.c (.int .i64 vw), .c (.int .i64 ht), .c (.str pa), .c (.int .i64 jv), .c (.int .i64 jh), .c (.str jb), .c (.sl (votes js)), .c (.sl (trows txs)), .c (.str sig)] false), (256, .obj [.c (.sl []), .c (.int .i64 0)] false)]⟩) ⟨txs.length, _, ?w, 0, Nat.zero_le _, rfl, rfl⟩ ?r
  case w =>
    rw [hns]
    simp only [runB, finC, finD, AS.get, AS.mem, false_implies, implies_true, ↓reduceIte, Nat.reduceEqDiff, Option.isSome_some, Option.isSome_none, forall_eq_or_imp, forall_eq, reduceCtorEq, Nat.reduceAdd, Nat.reduceMul, List.zip_cons_cons, List.zip_nil_left, List.zip_nil_right, List.forall_mem_nil, List.take_zero, txsP, List.foldl_nil, bytes_length]
    first | done | simp
  case r =>
    rintro k st ⟨i, hi, rfl, rfl⟩
    refine vc_sound hΓ mixed _ _ _ ?_
    have hc := txsP_cap (l := txs.take i) l5
    by_cases hlt : i < txs.length
    · have k1 : decide ((i : Int) < (txs.length : Int)) = true := by simpa using hlt
      have e1 : IntKind.i64.wrap ((i : Int) + 1) = (i : Int) + 1 := wrapI (by omega)
      have hg := trowsD txs i hlt
      have hn := rTxP_at (txsP w0 (txs.take i)) (txs.getD i zeroT).fr (txs.getD i zeroT).to (txs.getD i zeroT).am (txs.getD i zeroT).no (txs.getD i zeroT).sig (by omega) (okS_getD hts hlt)
      rw [show txP (txsP w0 (txs.take i)) ⟨(txs.getD i zeroT).fr, (txs.getD i zeroT).to, (txs.getD i zeroT).am, (txs.getD i zeroT).no, (txs.getD i zeroT).sig⟩ = txP (txsP w0 (txs.take i)) (txs.getD i zeroT) from rfl, ← txsP_take w0 txs i hlt] at hn
      unfold Txn.pcs at hg
      generalize txs.getD i zeroT = y at hg hn
      generalize txsP w0 (txs.take i) = wi at hn hc ⊢
      simp only [runA, runB, runC, runD, runE, runF, fieldE, storeE, binE, ↓reduceIte, Nat.reduceLT, Nat.reduceLeDiff, Nat.reduceEqDiff, Nat.reduceAdd, Nat.reduceMul, Nat.reduceSub, reduceCtorEq, putAt, unE, Nat.reduceBEq, convE, buildE, List.replicate, Int.reduceLT, Int.reduceLE, Int.reduceToNat, mkE, mapSetE, hN, hF, ty_3, ty_9, ty_22, ty_24, ty_25, ty_27, ty_47, ty_88, ty_133, notIf, isEq, k1, e1, hg, h3, hn, trows_length]
      refine drawnP_intro (by kernel_rfl) (by kernel_rfl) ?_
      simp only [runA, runB, runC, runD, runE, runF, fieldE, storeE, binE, ↓reduceIte, Nat.reduceLT, Nat.reduceLeDiff, Nat.reduceEqDiff, Nat.reduceAdd, Nat.reduceMul, Nat.reduceSub, reduceCtorEq, putAt, unE, Nat.reduceBEq, convE, buildE, List.replicate, Int.reduceLT, Int.reduceLE, Int.reduceToNat, mkE, mapSetE, hN, hF, ty_3, ty_9, ty_22, ty_24, ty_25, ty_27, ty_47, ty_88, ty_133, notIf, isEq, e1]
      refine ⟨txs.length - (i + 1), _, by omega, ?_, i + 1, by omega, rfl, rfl⟩
      rw [hns]
      simp only [runB, finC, finD, AS.get, AS.mem, false_implies, implies_true, ↓reduceIte, Nat.reduceEqDiff, Option.isSome_some, Option.isSome_none, forall_eq_or_imp, forall_eq, reduceCtorEq, Nat.reduceAdd, Nat.reduceMul, List.zip_cons_cons, List.zip_nil_left, List.zip_nil_right, List.forall_mem_nil, bytes_length]
      first | done | simp
    · have k1 : decide ((i : Int) < (txs.length : Int)) = false := by simpa using hlt
      have hil : i = txs.length := by omega
      have ht : txs.take i = txs := by rw [hil, List.take_length]
      rw [ht]
      generalize txsP w0 txs = w9
      simp only [runA, runB, runC, runD, runE, runF, fieldE, storeE, binE, ↓reduceIte, Nat.reduceLT, Nat.reduceLeDiff, Nat.reduceEqDiff, Nat.reduceAdd, Nat.reduceMul, Nat.reduceSub, reduceCtorEq, putAt, unE, Nat.reduceBEq, convE, buildE, List.replicate, Int.reduceLT, Int.reduceLE, Int.reduceToNat, mkE, mapSetE, hN, hF, ty_3, ty_9, ty_22, ty_24, ty_25, ty_27, ty_47, ty_88, ty_133, notIf, isEq, k1, trows_length]
      simp only [runB, finC, finD, Option.isSome_some, Option.isSome_none, ↓reduceIte, Nat.reduceEqDiff, Nat.reduceAdd, Nat.reduceMul, forall_eq_or_imp, forall_eq, implies_true, Nat.reduceBEq, reduceCtorEq, false_implies, List.zip_cons_cons, List.zip_nil_left, List.zip_nil_right, Nat.reduceLeDiff, List.forall_mem_nil, rs_89, ty_3, ty_9, ty_22, ty_24, ty_25, ty_27, ty_47, ty_88, ty_133]

/-- What a name is of. -/
def bkT (b : Blk) : List UInt8 := if okB b then (doneR (bkF ⟨[], 0⟩ b)).1 else []
theorem okB_okS {b : Blk} (h : okB b) : okS b.txs := fun t ht => by
  obtain ⟨_, _, _, _, _, _, _, h8, _⟩ := h
  obtain ⟨_, _, _, _, _, _, _, h⟩ := h8 t ht
  omega
theorem bkT_len (b : Blk) : (bkT b).length ≤ 20482 := by
  unfold bkT
  split
  · have := bkF_cap b (w := ⟨[], 0⟩) (by simp)
    unfold doneR
    split
    · split
      · simp
      · exact this
    · simp
  · simp
noncomputable def nameS (b : Blk) : List UInt8 := if okB b then shaS (bkT b) else []
theorem nameS_len {b : Blk} (h : okB b) : (nameS b).length = 32 := by unfold nameS; rw [if_pos h, shaS_length]
noncomputable def bkTC : Contract := mkC (α := Blk) (fun p => p.txs.length ≤ 9223372036854775807) (fun p => [p.av]) (fun p => []) (fun p => ⟨[.pv (.c (.sl (bytes (bkT p))))], []⟩)
theorem bkT_at (bvw : Int) (bht : Int) (bpa : List UInt8) (bjvw : Int) (bjht : Int) (bjbl : List UInt8) (bjvs : List Vt) (btxs : List Txn) (bsig : List UInt8) (g0 : btxs.length ≤ 9223372036854775807) : bkTC [.agg [.c (.int .i64 bvw), .c (.int .i64 bht), .c (.str bpa), .c (.int .i64 bjvw), .c (.int .i64 bjht), .c (.str bjbl), .c (.sl (votes bjvs)), .c (.sl (trows btxs)), .c (.str bsig)]] [] = some ⟨[.pv (.c (.sl (bytes (bkT (⟨bvw, bht, bpa, ⟨bjvw, bjht, bjbl, bjvs⟩, btxs, bsig⟩ : Blk)))))], []⟩ := by
  exact mkC_at (α := Blk) ⟨bvw, bht, bpa, ⟨bjvw, bjht, bjbl, bjvs⟩, btxs, bsig⟩ g0 (by
    rintro b' _ h ho
    have hh := And.intro h ho
    clear h ho
    simp only [List.cons.injEq, AV.c.injEq, AV.agg.injEq, PC.int.injEq, PC.str.injEq, PC.bool.injEq, PC.sl.injEq, OV.c.injEq, OV.own.injEq, OV.mp.injEq, bytes_iff, texts_iff, true_and, and_true, and_self, beq_self_eq_true, Blk.av_iff] at hh
    simp only [hh])
noncomputable def bkNC : Contract := mkC (α := Blk) (fun p => p.txs.length ≤ 9223372036854775807) (fun p => [p.av]) (fun p => []) (fun p => ⟨[.pv (.c (.str (nameS p)))], []⟩)
theorem bkN_at (bvw : Int) (bht : Int) (bpa : List UInt8) (bjvw : Int) (bjht : Int) (bjbl : List UInt8) (bjvs : List Vt) (btxs : List Txn) (bsig : List UInt8) (g0 : btxs.length ≤ 9223372036854775807) : bkNC [.agg [.c (.int .i64 bvw), .c (.int .i64 bht), .c (.str bpa), .c (.int .i64 bjvw), .c (.int .i64 bjht), .c (.str bjbl), .c (.sl (votes bjvs)), .c (.sl (trows btxs)), .c (.str bsig)]] [] = some ⟨[.pv (.c (.str (nameS (⟨bvw, bht, bpa, ⟨bjvw, bjht, bjbl, bjvs⟩, btxs, bsig⟩ : Blk))))], []⟩ := by
  exact mkC_at (α := Blk) ⟨bvw, bht, bpa, ⟨bjvw, bjht, bjbl, bjvs⟩, btxs, bsig⟩ g0 (by
    rintro b' _ h ho
    have hh := And.intro h ho
    clear h ho
    simp only [List.cons.injEq, AV.c.injEq, AV.agg.injEq, PC.int.injEq, PC.str.injEq, PC.bool.injEq, PC.sl.injEq, OV.c.injEq, OV.own.injEq, OV.mp.injEq, bytes_iff, texts_iff, true_and, and_true, and_self, beq_self_eq_true, Blk.av_iff] at hh
    simp only [hh])


variable {Γ : FuncId → Contract}


set_option maxRecDepth 100000 in
set_option maxHeartbeats 4000000 in
theorem bkT_sound (hΓ : SoundG Try.prog Γ) (h1 : Γ 49 = bkCkC) (h2 : Γ 77 = newC) (h3 : Γ 78 = bkTxC) (h4 : Γ 79 = doneC) : SoundC Try.prog 51 bkTC := by
  refine sound_fn Try.func51 (by kernel_rfl) rfl rfl ?_
  intro args objs r0 hr
  obtain ⟨⟨vw, ht, pa, ⟨jv, jh, jb, js⟩, txs, sig⟩, hl, rfl, rfl, rfl⟩ := mkC_inv hr
  refine ⟨rfl, by show 1 ≤ _; decide, fun E hN hns hF => ?_⟩
  refine vc_sound hΓ mixed _ _ _ ?_
  have hN := hN.trans nt_51
  have hl : txs.length ≤ 9223372036854775807 := hl
  unfold Blk.av
  dsimp only
  have q1 := bkCk_at ⟨vw, ht, pa, ⟨jv, jh, jb, js⟩, txs, sig⟩ hl
  dsimp only at q1
  have b0 : ((0 : Int) != 0) = false := rfl
  have b9 : ((9 : Int) != 0) = true := rfl
  by_cases hk : okB ⟨vw, ht, pa, ⟨jv, jh, jb, js⟩, txs, sig⟩
  case neg =>
    have hS : bkT ⟨vw, ht, pa, ⟨jv, jh, jb, js⟩, txs, sig⟩ = [] := if_neg hk
    rw [show bkS ⟨vw, ht, pa, ⟨jv, jh, jb, js⟩, txs, sig⟩ = 9 from if_neg hk] at q1
    rw [hS]
    simp only [runA, runB, runC, runD, runE, runF, fieldE, storeE, binE, ↓reduceIte, Nat.reduceLT, Nat.reduceLeDiff, Nat.reduceEqDiff, Nat.reduceAdd, Nat.reduceMul, Nat.reduceSub, reduceCtorEq, putAt, unE, Nat.reduceBEq, convE, buildE, List.replicate, Int.reduceLT, Int.reduceLE, Int.reduceToNat, mkE, mapSetE, hN, hF, ty_3, ty_5, ty_9, ty_24, ty_25, ty_27, ty_85, ty_88, ty_113, notIf, isEq, h1, q1, b9]
    simp only [runB, finC, finD, Option.isSome_some, Option.isSome_none, ↓reduceIte, Nat.reduceEqDiff, Nat.reduceAdd, Nat.reduceMul, forall_eq_or_imp, forall_eq, implies_true, Nat.reduceBEq, reduceCtorEq, false_implies, List.zip_cons_cons, List.zip_nil_left, List.zip_nil_right, Nat.reduceLeDiff, List.forall_mem_nil, rs_51, ty_3, ty_5, ty_9, ty_24, ty_25, ty_27, ty_85, ty_88, ty_113, bytes, List.map_nil]
  have hS : bkT ⟨vw, ht, pa, ⟨jv, jh, jb, js⟩, txs, sig⟩ = (doneR (bkF ⟨[], 0⟩ ⟨vw, ht, pa, ⟨jv, jh, jb, js⟩, txs, sig⟩)).1 := if_pos hk
  rw [show bkS ⟨vw, ht, pa, ⟨jv, jh, jb, js⟩, txs, sig⟩ = 0 from if_pos hk] at q1
  have hk2 := hk
  obtain ⟨_, _, a5, _, _, _, a10, _, _⟩ := hk2
  simp only at a5 a10
  have q2 := bkTx_at ⟨[], 0⟩ vw ht pa jv jh jb js txs sig (by simp) (by omega) (by omega) (okB_okS hk)
  have q3 := done_atw (bkF ⟨[], 0⟩ ⟨vw, ht, pa, ⟨jv, jh, jb, js⟩, txs, sig⟩)
  rw [hS]
  dsimp only at q2 q3
  generalize bkF ⟨[], 0⟩ ⟨vw, ht, pa, ⟨jv, jh, jb, js⟩, txs, sig⟩ = wf at q2 q3 ⊢
  simp only [runA, runB, runC, runD, runE, runF, fieldE, storeE, binE, ↓reduceIte, Nat.reduceLT, Nat.reduceLeDiff, Nat.reduceEqDiff, Nat.reduceAdd, Nat.reduceMul, Nat.reduceSub, reduceCtorEq, putAt, unE, Nat.reduceBEq, convE, buildE, List.replicate, Int.reduceLT, Int.reduceLE, Int.reduceToNat, mkE, mapSetE, hN, hF, ty_3, ty_5, ty_9, ty_24, ty_25, ty_27, ty_85, ty_88, ty_113, notIf, isEq, h1, q1, b0, h2, newC, h3, q2, h4, q3, bytes_length]
  simp only [runB, finC, finD, Option.isSome_some, Option.isSome_none, ↓reduceIte, Nat.reduceEqDiff, Nat.reduceAdd, Nat.reduceMul, forall_eq_or_imp, forall_eq, implies_true, Nat.reduceBEq, reduceCtorEq, false_implies, List.zip_cons_cons, List.zip_nil_left, List.zip_nil_right, Nat.reduceLeDiff, List.forall_mem_nil, rs_51, ty_3, ty_5, ty_9, ty_24, ty_25, ty_27, ty_85, ty_88, ty_113]

set_option maxRecDepth 100000 in
set_option maxHeartbeats 4000000 in
theorem rBkT_sound (hΓ : SoundG Try.prog Γ) (h1 : Γ 12 = bkCkC) (h2 : Γ 89 = rBkFC) (h3 : Γ 88 = rDoneC) : SoundC Try.prog 59 bkTC := by
  refine sound_fn Try.func59 (by kernel_rfl) rfl rfl ?_
  intro args objs r0 hr
  obtain ⟨⟨vw, ht, pa, ⟨jv, jh, jb, js⟩, txs, sig⟩, hl, rfl, rfl, rfl⟩ := mkC_inv hr
  refine ⟨rfl, by show 1 ≤ _; decide, fun E hN hns hF => ?_⟩
  refine vc_sound hΓ mixed _ _ _ ?_
  have hN := hN.trans nt_59
  have hl : txs.length ≤ 9223372036854775807 := hl
  unfold Blk.av
  dsimp only
  have q1 := bkCk_at ⟨vw, ht, pa, ⟨jv, jh, jb, js⟩, txs, sig⟩ hl
  dsimp only at q1
  have b0 : ((0 : Int) != 0) = false := rfl
  have b9 : ((9 : Int) != 0) = true := rfl
  by_cases hk : okB ⟨vw, ht, pa, ⟨jv, jh, jb, js⟩, txs, sig⟩
  case neg =>
    have hS : bkT ⟨vw, ht, pa, ⟨jv, jh, jb, js⟩, txs, sig⟩ = [] := if_neg hk
    rw [show bkS ⟨vw, ht, pa, ⟨jv, jh, jb, js⟩, txs, sig⟩ = 9 from if_neg hk] at q1
    rw [hS]
    simp only [runA, runB, runC, runD, runE, runF, fieldE, storeE, binE, ↓reduceIte, Nat.reduceLT, Nat.reduceLeDiff, Nat.reduceEqDiff, Nat.reduceAdd, Nat.reduceMul, Nat.reduceSub, reduceCtorEq, putAt, unE, Nat.reduceBEq, convE, buildE, List.replicate, Int.reduceLT, Int.reduceLE, Int.reduceToNat, mkE, mapSetE, hN, hF, ty_3, ty_5, ty_9, ty_24, ty_25, ty_27, ty_88, ty_133, notIf, isEq, h1, q1, b9]
    simp only [runB, finC, finD, Option.isSome_some, Option.isSome_none, ↓reduceIte, Nat.reduceEqDiff, Nat.reduceAdd, Nat.reduceMul, forall_eq_or_imp, forall_eq, implies_true, Nat.reduceBEq, reduceCtorEq, false_implies, List.zip_cons_cons, List.zip_nil_left, List.zip_nil_right, Nat.reduceLeDiff, List.forall_mem_nil, rs_59, ty_3, ty_5, ty_9, ty_24, ty_25, ty_27, ty_88, ty_133, bytes, List.map_nil]
  have hS : bkT ⟨vw, ht, pa, ⟨jv, jh, jb, js⟩, txs, sig⟩ = (doneR (bkF ⟨[], 0⟩ ⟨vw, ht, pa, ⟨jv, jh, jb, js⟩, txs, sig⟩)).1 := if_pos hk
  rw [show bkS ⟨vw, ht, pa, ⟨jv, jh, jb, js⟩, txs, sig⟩ = 0 from if_pos hk] at q1
  have hk2 := hk
  obtain ⟨_, _, a5, _, _, _, a10, _, _⟩ := hk2
  simp only at a5 a10
  have q2 := rBkF_at ⟨[], 0⟩ vw ht pa jv jh jb js txs sig (by simp) (by omega) (by omega) (okB_okS hk)
  have q3 := rDone_at (bkF ⟨[], 0⟩ ⟨vw, ht, pa, ⟨jv, jh, jb, js⟩, txs, sig⟩)
  rw [hS]
  dsimp only at q2 q3
  rw [show bytes [] = [] from rfl] at q2
  generalize bkF ⟨[], 0⟩ ⟨vw, ht, pa, ⟨jv, jh, jb, js⟩, txs, sig⟩ = wf at q2 q3 ⊢
  simp only [runA, runB, runC, runD, runE, runF, fieldE, storeE, binE, ↓reduceIte, Nat.reduceLT, Nat.reduceLeDiff, Nat.reduceEqDiff, Nat.reduceAdd, Nat.reduceMul, Nat.reduceSub, reduceCtorEq, putAt, unE, Nat.reduceBEq, convE, buildE, List.replicate, Int.reduceLT, Int.reduceLE, Int.reduceToNat, mkE, mapSetE, hN, hF, ty_3, ty_5, ty_9, ty_24, ty_25, ty_27, ty_88, ty_133, notIf, isEq, h1, q1, b0, h2, q2, h3, q3, bytes_length]
  simp only [runB, finC, finD, Option.isSome_some, Option.isSome_none, ↓reduceIte, Nat.reduceEqDiff, Nat.reduceAdd, Nat.reduceMul, forall_eq_or_imp, forall_eq, implies_true, Nat.reduceBEq, reduceCtorEq, false_implies, List.zip_cons_cons, List.zip_nil_left, List.zip_nil_right, Nat.reduceLeDiff, List.forall_mem_nil, rs_59, ty_3, ty_5, ty_9, ty_24, ty_25, ty_27, ty_88, ty_133]

set_option maxRecDepth 100000 in
set_option maxHeartbeats 4000000 in
theorem bkN_sound (hΓ : SoundG Try.prog Γ) (h1 : Γ 49 = bkCkC) (h2 : Γ 51 = bkTC) (h3 : Γ 50 = longC) : SoundC Try.prog 13 bkNC := by
  refine sound_fn Try.func13 (by kernel_rfl) rfl rfl ?_
  intro args objs r0 hr
  obtain ⟨⟨vw, ht, pa, ⟨jv, jh, jb, js⟩, txs, sig⟩, hl, rfl, rfl, rfl⟩ := mkC_inv hr
  refine ⟨rfl, by show 1 ≤ _; decide, fun E hN hns hF => ?_⟩
  refine vc_sound hΓ mixed _ _ _ ?_
  have hN := hN.trans nt_13
  have hl : txs.length ≤ 9223372036854775807 := hl
  unfold Blk.av
  dsimp only
  have q1 := bkCk_at ⟨vw, ht, pa, ⟨jv, jh, jb, js⟩, txs, sig⟩ hl
  dsimp only at q1
  have b0 : ((0 : Int) != 0) = false := rfl
  have b9 : ((9 : Int) != 0) = true := rfl
  by_cases hk : okB ⟨vw, ht, pa, ⟨jv, jh, jb, js⟩, txs, sig⟩
  case neg =>
    have hS : nameS ⟨vw, ht, pa, ⟨jv, jh, jb, js⟩, txs, sig⟩ = [] := if_neg hk
    rw [show bkS ⟨vw, ht, pa, ⟨jv, jh, jb, js⟩, txs, sig⟩ = 9 from if_neg hk] at q1
    rw [hS]
    simp only [runA, runB, runC, runD, runE, runF, fieldE, storeE, binE, ↓reduceIte, Nat.reduceLT, Nat.reduceLeDiff, Nat.reduceEqDiff, Nat.reduceAdd, Nat.reduceMul, Nat.reduceSub, reduceCtorEq, putAt, unE, Nat.reduceBEq, convE, buildE, List.replicate, Int.reduceLT, Int.reduceLE, Int.reduceToNat, mkE, mapSetE, hN, hF, ty_3, ty_9, ty_24, ty_25, ty_27, ty_85, ty_88, ty_111, notIf, isEq, h1, q1, b9]
    simp only [runB, finC, finD, Option.isSome_some, Option.isSome_none, ↓reduceIte, Nat.reduceEqDiff, Nat.reduceAdd, Nat.reduceMul, forall_eq_or_imp, forall_eq, implies_true, Nat.reduceBEq, reduceCtorEq, false_implies, List.zip_cons_cons, List.zip_nil_left, List.zip_nil_right, Nat.reduceLeDiff, List.forall_mem_nil, rs_13, ty_3, ty_9, ty_24, ty_25, ty_27, ty_85, ty_88, ty_111]
  have hS : nameS ⟨vw, ht, pa, ⟨jv, jh, jb, js⟩, txs, sig⟩ = shaS (bkT ⟨vw, ht, pa, ⟨jv, jh, jb, js⟩, txs, sig⟩) := if_pos hk
  rw [show bkS ⟨vw, ht, pa, ⟨jv, jh, jb, js⟩, txs, sig⟩ = 0 from if_pos hk] at q1
  have q2 := bkT_at vw ht pa jv jh jb js txs sig hl
  have hb := bkT_len ⟨vw, ht, pa, ⟨jv, jh, jb, js⟩, txs, sig⟩
  have q3 := long_at [bkT ⟨vw, ht, pa, ⟨jv, jh, jb, js⟩, txs, sig⟩] (by refine ⟨?_, ?_⟩ <;> simp <;> omega)
  rw [hS]
  generalize bkT ⟨vw, ht, pa, ⟨jv, jh, jb, js⟩, txs, sig⟩ = bt at q2 q3 hb ⊢
  simp only [slices, List.map_cons, List.map_nil, List.flatten_cons, List.flatten_nil, List.append_nil] at q3
  simp only [runA, runB, runC, runD, runE, runF, fieldE, storeE, binE, ↓reduceIte, Nat.reduceLT, Nat.reduceLeDiff, Nat.reduceEqDiff, Nat.reduceAdd, Nat.reduceMul, Nat.reduceSub, reduceCtorEq, putAt, unE, Nat.reduceBEq, convE, buildE, List.replicate, Int.reduceLT, Int.reduceLE, Int.reduceToNat, mkE, mapSetE, hN, hF, ty_3, ty_9, ty_24, ty_25, ty_27, ty_85, ty_88, ty_111, notIf, isEq, h1, q1, b0, h2, q2, h3, q3, bytes_length]
  simp only [runB, finC, finD, Option.isSome_some, Option.isSome_none, ↓reduceIte, Nat.reduceEqDiff, Nat.reduceAdd, Nat.reduceMul, forall_eq_or_imp, forall_eq, implies_true, Nat.reduceBEq, reduceCtorEq, false_implies, List.zip_cons_cons, List.zip_nil_left, List.zip_nil_right, Nat.reduceLeDiff, List.forall_mem_nil, rs_13, ty_3, ty_9, ty_24, ty_25, ty_27, ty_85, ty_88, ty_111]

set_option maxRecDepth 100000 in
set_option maxHeartbeats 4000000 in
theorem rBkN_sound (hΓ : SoundG Try.prog Γ) (h1 : Γ 12 = bkCkC) (h2 : Γ 59 = bkTC) (h3 : Γ 58 = sumC) : SoundC Try.prog 25 bkNC := by
  refine sound_fn Try.func25 (by kernel_rfl) rfl rfl ?_
  intro args objs r0 hr
  obtain ⟨⟨vw, ht, pa, ⟨jv, jh, jb, js⟩, txs, sig⟩, hl, rfl, rfl, rfl⟩ := mkC_inv hr
  refine ⟨rfl, by show 1 ≤ _; decide, fun E hN hns hF => ?_⟩
  refine vc_sound hΓ mixed _ _ _ ?_
  have hN := hN.trans nt_25
  have hl : txs.length ≤ 9223372036854775807 := hl
  unfold Blk.av
  dsimp only
  have q1 := bkCk_at ⟨vw, ht, pa, ⟨jv, jh, jb, js⟩, txs, sig⟩ hl
  dsimp only at q1
  have b0 : ((0 : Int) != 0) = false := rfl
  have b9 : ((9 : Int) != 0) = true := rfl
  by_cases hk : okB ⟨vw, ht, pa, ⟨jv, jh, jb, js⟩, txs, sig⟩
  case neg =>
    have hS : nameS ⟨vw, ht, pa, ⟨jv, jh, jb, js⟩, txs, sig⟩ = [] := if_neg hk
    rw [show bkS ⟨vw, ht, pa, ⟨jv, jh, jb, js⟩, txs, sig⟩ = 9 from if_neg hk] at q1
    rw [hS]
    simp only [runA, runB, runC, runD, runE, runF, fieldE, storeE, binE, ↓reduceIte, Nat.reduceLT, Nat.reduceLeDiff, Nat.reduceEqDiff, Nat.reduceAdd, Nat.reduceMul, Nat.reduceSub, reduceCtorEq, putAt, unE, Nat.reduceBEq, convE, buildE, List.replicate, Int.reduceLT, Int.reduceLE, Int.reduceToNat, mkE, mapSetE, hN, hF, ty_3, ty_5, ty_9, ty_24, ty_25, ty_27, ty_88, notIf, isEq, h1, q1, b9]
    simp only [runB, finC, finD, Option.isSome_some, Option.isSome_none, ↓reduceIte, Nat.reduceEqDiff, Nat.reduceAdd, Nat.reduceMul, forall_eq_or_imp, forall_eq, implies_true, Nat.reduceBEq, reduceCtorEq, false_implies, List.zip_cons_cons, List.zip_nil_left, List.zip_nil_right, Nat.reduceLeDiff, List.forall_mem_nil, rs_25, ty_3, ty_5, ty_9, ty_24, ty_25, ty_27, ty_88]
  have hS : nameS ⟨vw, ht, pa, ⟨jv, jh, jb, js⟩, txs, sig⟩ = shaS (bkT ⟨vw, ht, pa, ⟨jv, jh, jb, js⟩, txs, sig⟩) := if_pos hk
  rw [show bkS ⟨vw, ht, pa, ⟨jv, jh, jb, js⟩, txs, sig⟩ = 0 from if_pos hk] at q1
  have q2 := bkT_at vw ht pa jv jh jb js txs sig hl
  have hb := bkT_len ⟨vw, ht, pa, ⟨jv, jh, jb, js⟩, txs, sig⟩
  have q3 := sum_at (bkT ⟨vw, ht, pa, ⟨jv, jh, jb, js⟩, txs, sig⟩) (by omega)
  rw [hS]
  generalize bkT ⟨vw, ht, pa, ⟨jv, jh, jb, js⟩, txs, sig⟩ = bt at q2 q3 hb ⊢
  simp only [runA, runB, runC, runD, runE, runF, fieldE, storeE, binE, ↓reduceIte, Nat.reduceLT, Nat.reduceLeDiff, Nat.reduceEqDiff, Nat.reduceAdd, Nat.reduceMul, Nat.reduceSub, reduceCtorEq, putAt, unE, Nat.reduceBEq, convE, buildE, List.replicate, Int.reduceLT, Int.reduceLE, Int.reduceToNat, mkE, mapSetE, hN, hF, ty_3, ty_5, ty_9, ty_24, ty_25, ty_27, ty_88, notIf, isEq, h1, q1, b0, h2, q2, h3, q3, bytes_length, bytesOf_bytes]
  simp only [runB, finC, finD, Option.isSome_some, Option.isSome_none, ↓reduceIte, Nat.reduceEqDiff, Nat.reduceAdd, Nat.reduceMul, forall_eq_or_imp, forall_eq, implies_true, Nat.reduceBEq, reduceCtorEq, false_implies, List.zip_cons_cons, List.zip_nil_left, List.zip_nil_right, Nat.reduceLeDiff, List.forall_mem_nil, rs_25, ty_3, ty_5, ty_9, ty_24, ty_25, ty_27, ty_88]

end Go.Proofs.Ytenmlgalcjkdbaa.AM
