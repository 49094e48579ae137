/-
  QH: Pk4 Pk5 Bk1 Bk2 Bk3 Bk4.
-/
import Derived.Test.YtldehcnaepgamaaQP
import Derived.Test.YtldehcnaepgamaaQG
import Derived.Test.YtldehcnaepgamaaQF
import Derived.Test.YtldehcnaepgamaaQ7
set_option linter.unusedVariables false
set_option linter.unusedSimpArgs false
namespace Go.Proofs.Ytldehcnaepgamaa.AM
open Go

variable {Γ : FuncId → Contract}



variable {Γ : FuncId → Contract}


variable {Γ : FuncId → Contract}

theorem txCkA_at (fr to am no : Int) (sig : List UInt8) : txCkC [.agg [.c (.int .i64 fr), .c (.int .i64 to), .c (.int .i64 am), .c (.int .i64 no), .c (.str sig)]] [] = some ⟨[.pv (.c (.int .i64 (txS ⟨fr, to, am, no, sig⟩)))], []⟩ := txCk_at ⟨fr, to, am, no, sig⟩
def badT (t : Txn) : Bool := txS t != 0
theorem badT_iff (t : Txn) : badT t = true ↔ ¬ okT t := by
  unfold badT txS
  by_cases h : okT t
  · simp [h]
  · simp [h]
noncomputable def oddTC : Contract := mkC (α := Txn) (fun _ => True) (fun t => [t.av]) (fun _ => []) (fun t => ⟨[.pv (.c (.bool (badT t)))], []⟩)
theorem oddT_at (t : Txn) : oddTC [.agg [.c (.int .i64 t.fr), .c (.int .i64 t.to), .c (.int .i64 t.am), .c (.int .i64 t.no), .c (.str t.sig)]] [] = some ⟨[.pv (.c (.bool (badT t)))], []⟩ :=
  mkC_at (α := Txn) t trivial (by
    rintro y _ h _
    simp only [List.cons.injEq, Txn.av_iff, and_true] at h
    rw [h])
set_option maxHeartbeats 1000000 in
theorem oddT_sound (hΓ : SoundG Try.prog Γ) (h1 : Γ 90 = txCkC) : SoundC Try.prog 155 oddTC := by
  refine sound_fn Try.func155 (by kernel_rfl) rfl rfl ?_
  intro args objs r hr
  obtain ⟨t, _, rfl, rfl, rfl⟩ := mkC_inv hr
  refine ⟨rfl, by show 1 ≤ _; decide, fun E hN hns hF => ?_⟩
  refine vc_sound hΓ mixed _ _ _ ?_
  have hN := hN.trans nt_155
  unfold Txn.av badT
  simp +contextual (maxSteps := 10000000) only [runA, runB, runC, runD, runE, runF, fieldE, storeE, binE, ↓reduceIte, Nat.reduceLT, Nat.reduceLeDiff, Nat.reduceEqDiff, Nat.reduceAdd, Nat.reduceMul, Nat.reduceSub, reduceCtorEq, putAt, unE, Nat.reduceBEq, convE, buildE, List.replicate, Int.reduceLT, Int.reduceLE, Int.reduceToNat, mkE, mapSetE, hN, hF, ty_3, ty_4, ty_9, ty_27, ty_54, notIf, isEq, bytes_length, false_implies, implies_true, h1, txCkA_at]
  simp only [runB, finC, finD, Option.isSome_some, Option.isSome_none, ↓reduceIte, Nat.reduceEqDiff, Nat.reduceAdd, Nat.reduceMul, forall_eq_or_imp, forall_eq, implies_true, Nat.reduceBEq, reduceCtorEq, false_implies, List.zip_cons_cons, List.zip_nil_left, List.zip_nil_right, Nat.reduceLeDiff, List.forall_mem_nil, rs_155]
noncomputable def ckTIC : Contract := mkC (α := List Txn) (fun q => q.length ≤ 9223372036854775807) (fun q => [.c (.sl (trows q)), .clo 155 []]) (fun _ => []) (fun q => ⟨[.pv (.c (.int .i64 (idxP (badT) q)))], []⟩)
noncomputable def ckTFC : Contract := mkC (α := List Txn) (fun q => q.length ≤ 9223372036854775807) (fun q => [.c (.sl (trows q)), .clo 155 []]) (fun _ => []) (fun q => ⟨[.pv (.c (.bool (q.any (badT))))], []⟩)
theorem ckTI_at (l : List Txn) (h : l.length ≤ 9223372036854775807) : ckTIC [.c (.sl (trows l)), .clo 155 []] [] = some ⟨[.pv (.c (.int .i64 (idxP (badT) l)))], []⟩ :=
  mkC_at (α := List Txn) l h (by
    rintro y _ h _
    simp only [List.cons.injEq, AV.c.injEq, PC.sl.injEq, PC.str.injEq, PC.int.injEq, AV.clo.injEq, true_and, and_true, trows_iff] at h
    simp only [h])
theorem ckTF_at (l : List Txn) (h : l.length ≤ 9223372036854775807) : ckTFC [.c (.sl (trows l)), .clo 155 []] [] = some ⟨[.pv (.c (.bool (l.any (badT))))], []⟩ :=
  mkC_at (α := List Txn) l h (by
    rintro y _ h _
    simp only [List.cons.injEq, AV.c.injEq, PC.sl.injEq, PC.str.injEq, PC.int.injEq, AV.clo.injEq, true_and, and_true, trows_iff] at h
    simp only [h])
set_option maxHeartbeats 2000000 in
theorem ckTI_sound (hΓ : SoundG Try.prog Γ) (h1 : Γ 155 = oddTC) : SoundC Try.prog 163 ckTIC := by
  refine sound_fn Try.func163 (by kernel_rfl) rfl rfl ?_
  intro args objs r hr
  obtain ⟨l, hl, rfl, rfl, rfl⟩ := mkC_inv hr
  have hl : l.length ≤ 9223372036854775807 := hl
  refine ⟨rfl, by show 2 ≤ _; decide, fun E hN hns hF => ?_⟩
  refine vc_sound hΓ mixed _ _ _ ?_
  have hN := hN.trans nt_163
  simp only [runA, runB, runC, runD, runE, runF, fieldE, storeE, binE, ↓reduceIte, Nat.reduceLT, Nat.reduceLeDiff, Nat.reduceEqDiff, Nat.reduceAdd, Nat.reduceMul, Nat.reduceSub, reduceCtorEq, putAt, unE, Nat.reduceBEq, convE, buildE, List.replicate, Int.reduceLT, Int.reduceLE, Int.reduceToNat, mkE, mapSetE, hN, hF, ty_3, ty_9, ty_50, ty_54, notIf, isEq, trows_length, Txn.pcs]
  refine AWP.loop (fun k st => ∃ i : Nat, (i ≤ l.length ∧ ∀ k, k < i → (badT) (l.getD k zeroT) = false) ∧ k = l.length - i ∧ st = ⟨[(0, .c (.sl (trows l))), (1, .clo 155 []), (7, .c (.int .i64 (l.length : Int))), (8, .c (.int .i64 (i : Int)))], []⟩) ⟨l.length, _, ?w, 0, ⟨Nat.zero_le _, fun k hk => absurd hk (by omega)⟩, rfl, rfl⟩ ?r
  case w =>
    rw [hns]
    simp only [runB, finC, finD, AS.get, AS.mem, false_implies, implies_true, ↓reduceIte, Nat.reduceEqDiff, Option.isSome_some, Option.isSome_none, forall_eq_or_imp, forall_eq, reduceCtorEq, Nat.reduceAdd, Nat.reduceMul, List.zip_cons_cons, List.zip_nil_left, List.zip_nil_right, List.forall_mem_nil]
    first | done | simp
  case r =>
    rintro k st ⟨i, ⟨hi, h8⟩, rfl, rfl⟩
    refine vc_sound hΓ mixed _ _ _ ?_
    by_cases hlt : i < l.length
    · have k1 : decide ((i : Int) < (l.length : Int)) = true := by simpa using hlt
      have e1 : IntKind.i64.wrap ((i : Int) + 1) = (i : Int) + 1 := wrapI (by omega)
      have hg := trowsD l i hlt
      unfold Txn.pcs at hg
      have hd := oddT_at (l.getD i zeroT)
      cases hp : (badT) (l.getD i zeroT) with
      | false =>
        have h8' : ∀ k, k < i + 1 → (badT) (l.getD k zeroT) = false := fun k hk => by
          by_cases e : k = i
          · rw [e]; exact hp
          · exact h8 k (by omega)
        rw [hp] at hd
        generalize l.getD i zeroT = y at hg hd
        simp only [runA, runB, runC, runD, runE, runF, fieldE, storeE, binE, ↓reduceIte, Nat.reduceLT, Nat.reduceLeDiff, Nat.reduceEqDiff, Nat.reduceAdd, Nat.reduceMul, Nat.reduceSub, reduceCtorEq, putAt, unE, Nat.reduceBEq, convE, buildE, List.replicate, Int.reduceLT, Int.reduceLE, Int.reduceToNat, mkE, mapSetE, hN, hF, ty_3, ty_9, ty_50, ty_54, notIf, isEq, k1, e1, hg, h1, hd]
        refine ⟨l.length - (i + 1), _, by omega, ?_, i + 1, ⟨by omega, h8'⟩, rfl, rfl⟩
        rw [hns]
        simp only [runB, finC, finD, AS.get, AS.mem, false_implies, implies_true, ↓reduceIte, Nat.reduceEqDiff, Option.isSome_some, Option.isSome_none, forall_eq_or_imp, forall_eq, reduceCtorEq, Nat.reduceAdd, Nat.reduceMul, List.zip_cons_cons, List.zip_nil_left, List.zip_nil_right, List.forall_mem_nil]
        first | done | simp
      | true =>
        have hS := idxP_some hlt hp h8
        rw [hp] at hd
        generalize l.getD i zeroT = y at hg hd
        simp only [runA, runB, runC, runD, runE, runF, fieldE, storeE, binE, ↓reduceIte, Nat.reduceLT, Nat.reduceLeDiff, Nat.reduceEqDiff, Nat.reduceAdd, Nat.reduceMul, Nat.reduceSub, reduceCtorEq, putAt, unE, Nat.reduceBEq, convE, buildE, List.replicate, Int.reduceLT, Int.reduceLE, Int.reduceToNat, mkE, mapSetE, hN, hF, ty_3, ty_9, ty_50, ty_54, notIf, isEq, k1, e1, hg, h1, hd]
        simp only [runB, finC, finD, Option.isSome_some, Option.isSome_none, ↓reduceIte, Nat.reduceEqDiff, Nat.reduceAdd, Nat.reduceMul, forall_eq_or_imp, forall_eq, implies_true, Nat.reduceBEq, reduceCtorEq, false_implies, List.zip_cons_cons, List.zip_nil_left, List.zip_nil_right, Nat.reduceLeDiff, List.forall_mem_nil, rs_163, hS]
    · have k1 : decide ((i : Int) < (l.length : Int)) = false := by simpa using hlt
      obtain rfl : i = l.length := by omega
      have hS := idxP_none h8
      simp only [runA, runB, runC, runD, runE, runF, fieldE, storeE, binE, ↓reduceIte, Nat.reduceLT, Nat.reduceLeDiff, Nat.reduceEqDiff, Nat.reduceAdd, Nat.reduceMul, Nat.reduceSub, reduceCtorEq, putAt, unE, Nat.reduceBEq, convE, buildE, List.replicate, Int.reduceLT, Int.reduceLE, Int.reduceToNat, mkE, mapSetE, hN, hF, ty_3, ty_9, ty_50, ty_54, notIf, isEq, k1]
      simp only [runB, finC, finD, Option.isSome_some, Option.isSome_none, ↓reduceIte, Nat.reduceEqDiff, Nat.reduceAdd, Nat.reduceMul, forall_eq_or_imp, forall_eq, implies_true, Nat.reduceBEq, reduceCtorEq, false_implies, List.zip_cons_cons, List.zip_nil_left, List.zip_nil_right, Nat.reduceLeDiff, List.forall_mem_nil, rs_163, hS]
set_option maxHeartbeats 1000000 in
theorem ckTF_sound (hΓ : SoundG Try.prog Γ) (h1 : Γ 163 = ckTIC) : SoundC Try.prog 156 ckTFC := by
  refine sound_fn Try.func156 (by kernel_rfl) rfl rfl ?_
  intro args objs r hr
  obtain ⟨l, hl, rfl, rfl, rfl⟩ := mkC_inv hr
  have hl : l.length ≤ 9223372036854775807 := hl
  refine ⟨rfl, by show 2 ≤ _; decide, fun E hN hns hF => ?_⟩
  refine vc_sound hΓ mixed _ _ _ ?_
  have hN := hN.trans nt_156
  have h2 := ckTI_at l hl
  have h3 := idxP_ge (badT) l
  simp only [runA, runB, runC, runD, runE, runF, fieldE, storeE, binE, ↓reduceIte, Nat.reduceLT, Nat.reduceLeDiff, Nat.reduceEqDiff, Nat.reduceAdd, Nat.reduceMul, Nat.reduceSub, reduceCtorEq, putAt, unE, Nat.reduceBEq, convE, buildE, List.replicate, Int.reduceLT, Int.reduceLE, Int.reduceToNat, mkE, mapSetE, hN, hF, ty_3, ty_4, ty_50, ty_54, notIf, isEq, h1, h2, h3]
  simp only [runB, finC, finD, Option.isSome_some, Option.isSome_none, ↓reduceIte, Nat.reduceEqDiff, Nat.reduceAdd, Nat.reduceMul, forall_eq_or_imp, forall_eq, implies_true, Nat.reduceBEq, reduceCtorEq, false_implies, List.zip_cons_cons, List.zip_nil_left, List.zip_nil_right, Nat.reduceLeDiff, List.forall_mem_nil, rs_156]

def okB (b : Blk) : Prop := (0 ≤ b.vw ∧ b.vw ≤ 1048576) ∧ (1 ≤ b.ht ∧ b.ht ≤ 1048576) ∧ b.pa.length = 32 ∧ b.ju.bl = b.pa ∧ b.ju.ht = b.ht - 1 ∧ (0 ≤ b.ju.vw ∧ b.ju.vw ≤ b.vw) ∧ b.txs.length ≤ 4 ∧ (∀ t ∈ b.txs, okT t) ∧ b.sig.length ≤ 4096
instance (b : Blk) : Decidable (okB b) := inferInstanceAs (Decidable (_ ∧ _))
def bkS (b : Blk) : Int := if okB b then 0 else 9
theorem any_bad (l : List Txn) : l.any badT = false ↔ ∀ t ∈ l, okT t := by
  rw [List.any_eq_false]
  constructor
  · intro h t ht
    have := h t ht
    rw [badT_iff, Classical.not_not] at this
    exact this
  · intro h t ht
    rw [badT_iff, Classical.not_not]
    exact h t ht
noncomputable def bkCkC : Contract := mkC (α := Blk) (fun b => b.txs.length ≤ 9223372036854775807) (fun b => [b.av]) (fun _ => []) (fun b => ⟨[.pv (.c (.int .i64 (bkS b)))], []⟩)
theorem bkCk_at (b : Blk) (h : b.txs.length ≤ 9223372036854775807) : bkCkC [.agg [.c (.int .i64 b.vw), .c (.int .i64 b.ht), .c (.str b.pa), .c (.int .i64 b.ju.vw), .c (.int .i64 b.ju.ht), .c (.str b.ju.bl), .c (.sl (votes b.ju.vs)), .c (.sl (trows b.txs)), .c (.str b.sig)]] [] = some ⟨[.pv (.c (.int .i64 (bkS b)))], []⟩ :=
  mkC_at (α := Blk) b h (by
    rintro y _ h _
    have h' : [y.av] = [b.av] := h
    simp only [List.cons.injEq, Blk.av_iff, and_true] at h'
    rw [h'])
set_option maxRecDepth 100000 in
set_option maxHeartbeats 4000000 in
theorem bkCk_sound (hΓ : SoundG Try.prog Γ) (h1 : Γ 156 = ckTFC) : SoundC Try.prog 138 bkCkC := by
  refine sound_fn Try.func138 (by kernel_rfl) rfl rfl ?_
  intro args objs r hr
  obtain ⟨⟨vw, ht, pa, ⟨jv, jh, jb, js⟩, txs, sig⟩, hl, rfl, rfl, rfl⟩ := mkC_inv hr
  have hl : txs.length ≤ 9223372036854775807 := hl
  refine ⟨rfl, by show 1 ≤ _; decide, fun E hN hns hF => ?_⟩
  refine vc_sound hΓ mixed _ _ _ ?_
  have hN := hN.trans nt_138
  have q1 := ckTF_at txs hl
  unfold Blk.av
  dsimp only
  simp +contextual (maxSteps := 10000000) only [runA, runB, runC, runD, runE, runF, fieldE, storeE, binE, ↓reduceIte, Nat.reduceLT, Nat.reduceLeDiff, Nat.reduceEqDiff, Nat.reduceAdd, Nat.reduceMul, Nat.reduceSub, reduceCtorEq, putAt, unE, Nat.reduceBEq, convE, buildE, List.replicate, Int.reduceLT, Int.reduceLE, Int.reduceToNat, mkE, mapSetE, hN, hF, ty_3, ty_9, ty_27, ty_50, ty_54, ty_68, ty_70, ty_72, notIf, isEq, bytes_length, false_implies, implies_true, h1, q1, trows_length]
  refine ⟨fun b1 => ?_, fun b1 => ⟨fun b2 => ?_, fun b2 => ⟨fun b3 => ?_, fun b3 => ?_⟩⟩⟩
  · have hS : bkS ⟨vw, ht, pa, ⟨jv, jh, jb, js⟩, txs, sig⟩ = 9 := if_neg (fun ⟨⟨a1, a2⟩, ⟨a3, a4⟩, a5, a6, a7, ⟨a8, a9⟩, a10, a11, a12⟩ => by
      simp only at a1 a2 a3 a4 a5
      revert b1; simp [a5]; omega)
    simp only [runB, finC, finD, Option.isSome_some, Option.isSome_none, ↓reduceIte, Nat.reduceEqDiff, Nat.reduceAdd, Nat.reduceMul, forall_eq_or_imp, forall_eq, implies_true, Nat.reduceBEq, reduceCtorEq, false_implies, List.zip_cons_cons, List.zip_nil_left, List.zip_nil_right, Nat.reduceLeDiff, List.forall_mem_nil, rs_138, hS]
  · have hw : IntKind.i64.wrap (ht - 1) = ht - 1 := by simp at b1; exact wrapI (by omega)
    have hS : bkS ⟨vw, ht, pa, ⟨jv, jh, jb, js⟩, txs, sig⟩ = 9 := if_neg (fun ⟨⟨a1, a2⟩, ⟨a3, a4⟩, a5, a6, a7, ⟨a8, a9⟩, a10, a11, a12⟩ => by
      simp only at a6 a7 a8 a9
      revert b2; rw [hw]; simp [a6, a7]; omega)
    simp only [runB, finC, finD, Option.isSome_some, Option.isSome_none, ↓reduceIte, Nat.reduceEqDiff, Nat.reduceAdd, Nat.reduceMul, forall_eq_or_imp, forall_eq, implies_true, Nat.reduceBEq, reduceCtorEq, false_implies, List.zip_cons_cons, List.zip_nil_left, List.zip_nil_right, Nat.reduceLeDiff, List.forall_mem_nil, rs_138, hS]
  · have hS : bkS ⟨vw, ht, pa, ⟨jv, jh, jb, js⟩, txs, sig⟩ = 9 := if_neg (fun ⟨⟨a1, a2⟩, ⟨a3, a4⟩, a5, a6, a7, ⟨a8, a9⟩, a10, a11, a12⟩ => by
      simp only at a10 a11 a12
      rw [← any_bad] at a11
      revert b3; rw [a11]; simp; omega)
    simp only [runB, finC, finD, Option.isSome_some, Option.isSome_none, ↓reduceIte, Nat.reduceEqDiff, Nat.reduceAdd, Nat.reduceMul, forall_eq_or_imp, forall_eq, implies_true, Nat.reduceBEq, reduceCtorEq, false_implies, List.zip_cons_cons, List.zip_nil_left, List.zip_nil_right, Nat.reduceLeDiff, List.forall_mem_nil, rs_138, hS]
  · have hw : IntKind.i64.wrap (ht - 1) = ht - 1 := by simp at b1; exact wrapI (by omega)
    have hS : bkS ⟨vw, ht, pa, ⟨jv, jh, jb, js⟩, txs, sig⟩ = 0 := if_pos (by
      rw [hw] at b2
      cases ha : txs.any badT with
      | true => rw [ha] at b3; simp at b3
      | false =>
        rw [ha] at b3
        simp at b1 b2 b3
        refine ⟨⟨by simp only; omega, by simp only; omega⟩, ⟨by simp only; omega, by simp only; omega⟩, by simp only; omega, ?_, by simp only; omega, ⟨by simp only; omega, by simp only; omega⟩, by simp only; omega, (any_bad txs).1 ha, by simp only; omega⟩
        simp only
        exact b2.1.1.1)
    simp only [runB, finC, finD, Option.isSome_some, Option.isSome_none, ↓reduceIte, Nat.reduceEqDiff, Nat.reduceAdd, Nat.reduceMul, forall_eq_or_imp, forall_eq, implies_true, Nat.reduceBEq, reduceCtorEq, false_implies, List.zip_cons_cons, List.zip_nil_left, List.zip_nil_right, Nat.reduceLeDiff, List.forall_mem_nil, rs_138, hS]


variable {Γ : FuncId → Contract}


variable {Γ : FuncId → Contract}

theorem wNum_cap {w : WS} (n : Int) (h : w.b.length ≤ 20482) : (wNum w n).b.length ≤ 20482 := by
  unfold wNum
  split
  · exact h
  · split
    · show (w.b ++ putB n 6).length ≤ _
      rw [List.length_append, len6]; omega
    · exact h
theorem rText_cap {w : WS} (s : List UInt8) (h : w.b.length ≤ 20482) : (rText w s).b.length ≤ 20482 := by
  unfold rText
  split
  · exact h
  · split
    · show (w.b ++ putB s.length 2 ++ s).length ≤ _
      rw [List.length_append, List.length_append, len2]; omega
    · exact h
theorem txF4 (w : WS) (t : Txn) : txF w t 4 = wNum (wNum (wNum (wNum (rText w [116, 120]) t.fr) t.to) t.am) t.no := rfl
theorem txF_cap {w : WS} (t : Txn) (h : w.b.length ≤ 20482) : (txF w t 4).b.length ≤ 20482 := by
  rw [txF4]; exact wNum_cap _ (wNum_cap _ (wNum_cap _ (wNum_cap _ (rText_cap _ h))))
def txP (w : WS) (t : Txn) : WS := rText (txF w t 4) t.sig
theorem txP_cap {w : WS} (t : Txn) (h : w.b.length ≤ 20482) : (txP w t).b.length ≤ 20482 := rText_cap _ (txF_cap t h)
/-- A block's fields, ahead of its transactions. -/
def bkH (w : WS) (b : Blk) : WS := wNum (wNum (rText (wNum (wNum (rText w [98, 108, 111, 99, 107]) b.vw) b.ht) b.pa) b.ju.vw) (b.txs.length : Int)
def txsP (w : WS) (l : List Txn) : WS := l.foldl txP w
def bkF (w : WS) (b : Blk) : WS := txsP (bkH w b) b.txs
theorem bkH_cap {w : WS} (b : Blk) (h : w.b.length ≤ 20482) : (bkH w b).b.length ≤ 20482 := wNum_cap _ (wNum_cap _ (rText_cap _ (wNum_cap _ (wNum_cap _ (rText_cap _ h)))))
theorem txsP_cap : ∀ {l : List Txn} {w : WS}, w.b.length ≤ 20482 → (txsP w l).b.length ≤ 20482
  | [], w, h => h
  | t :: l, w, h => txsP_cap (l := l) (txP_cap t h)
theorem bkF_cap {w : WS} (b : Blk) (h : w.b.length ≤ 20482) : (bkF w b).b.length ≤ 20482 := txsP_cap (bkH_cap b h)
theorem txsP_take (w : WS) (l : List Txn) (i : Nat) (h : i < l.length) : txsP w (l.take (i + 1)) = txP (txsP w (l.take i)) (l.getD i zeroT) := by
  have : l.take (i + 1) = l.take i ++ [l.getD i zeroT] := by
    rw [List.take_add_one, List.getElem?_eq_getElem h]; simp [List.getD, h]
  rw [this]
  unfold txsP
  rw [List.foldl_append]
  rfl
def okS (l : List Txn) : Prop := ∀ t ∈ l, t.sig.length ≤ 9223372036854775807
theorem okS_getD {l : List Txn} (h : okS l) {i : Nat} (hi : i < l.length) : (l.getD i zeroT).sig.length ≤ 9223372036854775807 := by
  rw [List.getD, List.getElem?_eq_getElem hi]; exact h _ (List.getElem_mem hi)
noncomputable def bkTxC : Contract := mkC (α := WS × Blk) (fun p => p.1.b.length ≤ 20482 ∧ p.2.pa.length ≤ 9223372036854775807 ∧ p.2.txs.length ≤ 4294967296 ∧ okS p.2.txs) (fun p => [.ptr 6400000 0, p.2.av]) (fun p => [[.own 1 (bytes p.1.b), .c (.int .i64 p.1.e), .c (.bool true)]]) (fun p => ⟨[], [[.own 1 (bytes (bkF p.1 p.2).b), .c (.int .i64 (bkF p.1 p.2).e), .c (.bool true)]]⟩)
theorem bkTx_at (w : WS) (bvw : Int) (bht : Int) (bpa : List UInt8) (bjvw : Int) (bjht : Int) (bjbl : List UInt8) (bjvs : List Vt) (btxs : List Txn) (bsig : List UInt8) (g0 : w.b.length ≤ 20482) (g1 : bpa.length ≤ 9223372036854775807) (g2 : btxs.length ≤ 4294967296) (g3 : okS btxs) : bkTxC [.ptr 6400000 0, (.agg [.c (.int .i64 bvw), .c (.int .i64 bht), .c (.str bpa), .c (.int .i64 bjvw), .c (.int .i64 bjht), .c (.str bjbl), .c (.sl (votes bjvs)), .c (.sl (trows btxs)), .c (.str bsig)])] [[.own 1 (bytes w.b), .c (.int .i64 w.e), .c (.bool true)]] = some ⟨[], [[.own 1 (bytes (bkF w (⟨bvw, bht, bpa, ⟨bjvw, bjht, bjbl, bjvs⟩, btxs, bsig⟩ : Blk)).b), .c (.int .i64 (bkF w (⟨bvw, bht, bpa, ⟨bjvw, bjht, bjbl, bjvs⟩, btxs, bsig⟩ : Blk)).e), .c (.bool true)]]⟩ := by
  obtain ⟨wb, we⟩ := w
  exact mkC_at (α := WS × Blk) (⟨wb, we⟩, ⟨bvw, bht, bpa, ⟨bjvw, bjht, bjbl, bjvs⟩, btxs, bsig⟩) ⟨g0, g1, g2, g3⟩ (by
    rintro ⟨⟨w'b, w'e⟩, b'⟩ _ h ho
    have hh := And.intro h ho
    clear h ho
    simp only [List.cons.injEq, AV.c.injEq, AV.agg.injEq, PC.int.injEq, PC.str.injEq, PC.bool.injEq, PC.sl.injEq, OV.c.injEq, OV.own.injEq, OV.mp.injEq, bytes_iff, texts_iff, true_and, and_true, and_self, beq_self_eq_true, Blk.av_iff] at hh
    simp only [hh])


variable {Γ : FuncId → Contract}


set_option maxRecDepth 100000 in
set_option maxHeartbeats 4000000 in
theorem bkTx_sound (hΓ : SoundG Try.prog Γ) (h1 : Γ 80 = numC) (h2 : Γ 83 = textC) (h3 : Γ 44 = txPutC) : SoundC Try.prog 121 bkTxC := by
  refine sound_fn Try.func121 (by kernel_rfl) rfl rfl ?_
  intro args objs r0 hr
  obtain ⟨⟨w, ⟨vw, ht, pa, ⟨jv, jh, jb, js⟩, txs, sig⟩⟩, ⟨hl, hpa, htl, hts⟩, rfl, rfl, rfl⟩ := mkC_inv hr
  refine ⟨rfl, by show 2 ≤ _; decide, fun E hN hns hF => ?_⟩
  refine vc_sound hΓ mixed _ _ _ ?_
  have hN := hN.trans nt_121
  have hl : w.b.length ≤ 20482 := hl
  have hpa : pa.length ≤ 9223372036854775807 := hpa
  have htl : txs.length ≤ 4294967296 := htl
  have hts : okS txs := hts
  have l0 := rText_cap [98, 108, 111, 99, 107] hl
  have l1 := wNum_cap vw l0
  have l2 := wNum_cap ht l1
  have l3 := rText_cap pa l2
  have l4 := wNum_cap jv l3
  have l5 := wNum_cap (txs.length : Int) l4
  have hE : bkF w ⟨vw, ht, pa, ⟨jv, jh, jb, js⟩, txs, sig⟩ = txsP (bkH w ⟨vw, ht, pa, ⟨jv, jh, jb, js⟩, txs, sig⟩) txs := rfl
  have hH : bkH w ⟨vw, ht, pa, ⟨jv, jh, jb, js⟩, txs, sig⟩ = wNum (wNum (rText (wNum (wNum (rText w [98, 108, 111, 99, 107]) vw) ht) pa) jv) (txs.length : Int) := rfl
  rw [← hH] at l5
  unfold Blk.av
  dsimp only
  rw [hE]
  have q0 := text_atw (w) [98, 108, 111, 99, 107] (by omega) (by decide)
  have q1 := num_atw (rText w [98, 108, 111, 99, 107]) vw (by omega)
  have q2 := num_atw (wNum (rText w [98, 108, 111, 99, 107]) vw) ht (by omega)
  have q3 := text_atw (wNum (wNum (rText w [98, 108, 111, 99, 107]) vw) ht) pa (by omega) (by omega)
  have q4 := num_atw (rText (wNum (wNum (rText w [98, 108, 111, 99, 107]) vw) ht) pa) jv (by omega)
  have q5 := num_atw (wNum (rText (wNum (wNum (rText w [98, 108, 111, 99, 107]) vw) ht) pa) jv) (txs.length : Int) (by omega)
  rw [← hH] at q5
  simp only [runA, runB, runC, runD, runE, runF, fieldE, storeE, binE, ↓reduceIte, Nat.reduceLT, Nat.reduceLeDiff, Nat.reduceEqDiff, Nat.reduceAdd, Nat.reduceMul, Nat.reduceSub, reduceCtorEq, putAt, unE, Nat.reduceBEq, convE, buildE, List.replicate, Int.reduceLT, Int.reduceLE, Int.reduceToNat, mkE, mapSetE, hN, hF, ty_3, ty_9, ty_50, ty_54, ty_68, ty_70, ty_72, ty_86, notIf, isEq, h1, h2, q0, q1, q2, q3, q4, q5, trows_length, bytes_length]
  generalize bkH w ⟨vw, ht, pa, ⟨jv, jh, jb, js⟩, txs, sig⟩ = w0 at l5 ⊢
  refine AWP.loop (fun k st => ∃ i : Nat, i ≤ txs.length ∧ k = txs.length - i ∧ st = ⟨[(0, .ptr 6400000 0), (31, .c (.sl (trows txs))), (32, .c (.int .i64 (txs.length : Int))), (33, .c (.int .i64 (i : Int)))],
    [(6400000, .obj [.own 6400001 1 (bytes (txsP w0 (txs.take i)).b), .c (.int .i64 (txsP w0 (txs.take i)).e), .c (.bool true)] false), (6400001, .row 1 (txsP w0 (txs.take i)).b.length)]⟩) ⟨txs.length, _, ?w, 0, Nat.zero_le _, rfl, rfl⟩ ?r
  case w =>
    rw [hns]
    simp only [runB, finC, finD, AS.get, AS.mem, false_implies, implies_true, ↓reduceIte, Nat.reduceEqDiff, Option.isSome_some, Option.isSome_none, forall_eq_or_imp, forall_eq, reduceCtorEq, Nat.reduceAdd, Nat.reduceMul, List.zip_cons_cons, List.zip_nil_left, List.zip_nil_right, List.forall_mem_nil, List.take_zero, txsP, List.foldl_nil, bytes_length]
    first | done | simp
  case r =>
    rintro k st ⟨i, hi, rfl, rfl⟩
    refine vc_sound hΓ mixed _ _ _ ?_
    have hc := txsP_cap (l := txs.take i) l5
    by_cases hlt : i < txs.length
    · have k1 : decide ((i : Int) < (txs.length : Int)) = true := by simpa using hlt
      have e1 : IntKind.i64.wrap ((i : Int) + 1) = (i : Int) + 1 := wrapI (by omega)
      have hg := trowsD txs i hlt
      have hn := txPut_at (txsP w0 (txs.take i)) (txs.getD i zeroT) (by omega) (okS_getD hts hlt)
      rw [show rText (txF (txsP w0 (txs.take i)) (txs.getD i zeroT) 4) (txs.getD i zeroT).sig = txP (txsP w0 (txs.take i)) (txs.getD i zeroT) from rfl, ← txsP_take w0 txs i hlt] at hn
      unfold Txn.pcs at hg
      generalize txs.getD i zeroT = y at hg hn
      generalize txsP w0 (txs.take i) = wi at hn hc ⊢
      simp only [runA, runB, runC, runD, runE, runF, fieldE, storeE, binE, ↓reduceIte, Nat.reduceLT, Nat.reduceLeDiff, Nat.reduceEqDiff, Nat.reduceAdd, Nat.reduceMul, Nat.reduceSub, reduceCtorEq, putAt, unE, Nat.reduceBEq, convE, buildE, List.replicate, Int.reduceLT, Int.reduceLE, Int.reduceToNat, mkE, mapSetE, hN, hF, ty_3, ty_9, ty_50, ty_54, ty_68, ty_70, ty_72, ty_86, notIf, isEq, k1, e1, hg, h3, hn, bytes_length]
      refine ⟨txs.length - (i + 1), _, by omega, ?_, i + 1, by omega, rfl, rfl⟩
      rw [hns]
      simp only [runB, finC, finD, AS.get, AS.mem, false_implies, implies_true, ↓reduceIte, Nat.reduceEqDiff, Option.isSome_some, Option.isSome_none, forall_eq_or_imp, forall_eq, reduceCtorEq, Nat.reduceAdd, Nat.reduceMul, List.zip_cons_cons, List.zip_nil_left, List.zip_nil_right, List.forall_mem_nil, bytes_length]
      first | done | simp
    · have k1 : decide ((i : Int) < (txs.length : Int)) = false := by simpa using hlt
      have hil : i = txs.length := by omega
      have ht : txs.take i = txs := by rw [hil, List.take_length]
      rw [ht]
      generalize txsP w0 txs = w9
      simp only [runA, runB, runC, runD, runE, runF, fieldE, storeE, binE, ↓reduceIte, Nat.reduceLT, Nat.reduceLeDiff, Nat.reduceEqDiff, Nat.reduceAdd, Nat.reduceMul, Nat.reduceSub, reduceCtorEq, putAt, unE, Nat.reduceBEq, convE, buildE, List.replicate, Int.reduceLT, Int.reduceLE, Int.reduceToNat, mkE, mapSetE, hN, hF, ty_3, ty_9, ty_50, ty_54, ty_68, ty_70, ty_72, ty_86, notIf, isEq, k1]
      simp only [runB, finC, finD, Option.isSome_some, Option.isSome_none, ↓reduceIte, Nat.reduceEqDiff, Nat.reduceAdd, Nat.reduceMul, forall_eq_or_imp, forall_eq, implies_true, Nat.reduceBEq, reduceCtorEq, false_implies, List.zip_cons_cons, List.zip_nil_left, List.zip_nil_right, Nat.reduceLeDiff, List.forall_mem_nil, rs_121, bytes_length]

theorem okB_okS {b : Blk} (h : okB b) : okS b.txs := fun t ht => by
  obtain ⟨_, _, _, _, _, _, _, h8, _⟩ := h
  obtain ⟨_, _, _, _, _, _, _, h⟩ := h8 t ht
  omega
end Go.Proofs.Ytldehcnaepgamaa.AM
