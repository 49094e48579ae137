/-
  QH: Pk4 Pk5 Bk1 Bk2 Bk3 Bk4.
-/
import Derived.Test.YtldehcnaepgamaaQP
import Derived.Test.YtldehcnaepgamaaQG
import Derived.Test.YtldehcnaepgamaaQF
import Derived.Test.YtldehcnaepgamaaQ7
set_option linter.unusedVariables false
set_option linter.unusedSimpArgs false
namespace Go.Proofs.Ytldehcnaepgamaa.AM
open Go

variable {Γ : FuncId → Contract}


/-- The document's writer. -/
def rNum (w : WS) (n : Int) : WS := if n < 0 ∨ 1099511627776 < n then ⟨w.b, if w.e = 0 then 4 else w.e⟩ else if w.b.length ≤ 16384 then ⟨w.b ++ putB n 6, w.e⟩ else w
def wAgg (w : WS) : AV := .agg [.c (.sl (bytes w.b)), .c (.int .i64 w.e)]
def rNumC : Contract := fun args objs => match args, objs with
  | [.agg [.c (.sl rows), .c (.int .i64 e)], .c (.int .i64 n)], [] => match asB rows with
    | some b => if b.length ≤ 100000 then some ⟨[.pv (wAgg (rNum ⟨b, e⟩ n))], []⟩ else none
    | none => none
  | _, _ => none

set_option maxHeartbeats 4000000 in
theorem rNum_sound (hΓ : SoundG Try.prog Γ) (h54 : Γ 61 = putC) : SoundC Try.prog 114 rNumC := by
  refine sound_fn Try.func114 (by kernel_rfl) rfl rfl ?_
  intro args objs r hr
  unfold rNumC at hr
  split at hr
  · split at hr
    · rename_i rows e n _ b hb
      split at hr
      · rename_i hc
        cases hr
        obtain rfl := asB_inv hb
        refine ⟨rfl, by show 2 ≤ _; decide, fun E hN hns hF => ?_⟩
        refine vc_sound hΓ mixed _ _ _ ?_
        have hN := hN.trans nt_114
        have hz := rowsOK_bytes
        have hz0 : rowsOK 1 [] := fun _ h => by cases h
        have hpl := putB_length n 6
        rw [show (min (max (6 : Int) 0) 8).toNat = 6 from rfl] at hpl
        have hL : b.length ≤ 140737488355328 := by omega
        have hL6 : b.length ≤ 140737488355322 := by omega
        cases h1 : decide (n < 0) <;> cases h2 : decide (n > 1099511627776) <;> cases h3 : decide ((b.length : Int) ≤ 16384) <;> cases h4 : (e == 0)
        all_goals
          simp only [runA, runB, runC, runD, runE, runF, fieldE, storeE, binE, ↓reduceIte, Nat.reduceLT, Nat.reduceLeDiff, Nat.reduceEqDiff, Nat.reduceAdd, Nat.reduceMul, Nat.reduceSub, reduceCtorEq, putAt, unE, Nat.reduceBEq, convE, buildE, List.replicate, Int.reduceLT, Int.reduceLE, Int.reduceToNat, mkE, mapSetE, hN, hF, ty_3, ty_5, ty_25, ty_119, notIf, isEq, h1, h2, h3, h4, h54, putC, bytes_length, bytes_app, hz, hz0, hL, hL6, hpl]
        all_goals
          simp only [decide_eq_false_iff_not, decide_eq_true_eq, gt_iff_lt, beq_iff_eq, beq_eq_false_iff_ne, ne_eq] at h1 h2 h3 h4
          rw [show (16384 : Int) = ((16384 : Nat) : Int) from rfl, Int.ofNat_le] at h3
        all_goals
          simp only [runB, finC, finD, Option.isSome_some, Option.isSome_none, ↓reduceIte, Nat.reduceEqDiff, Nat.reduceAdd, Nat.reduceMul, forall_eq_or_imp, forall_eq, implies_true, Nat.reduceBEq, reduceCtorEq, false_implies, List.zip_cons_cons, List.zip_nil_left, List.zip_nil_right, Nat.reduceLeDiff, List.forall_mem_nil, rs_114, ty_3, ty_5, ty_25, ty_119, wAgg, bytes_length]
        all_goals simp [rNum, h1, h2, h3, h4]
      · cases hr
    · cases hr
  · cases hr


variable {Γ : FuncId → Contract}

def rTextC : Contract := fun args objs => match args, objs with
  | [.agg [.c (.sl rows), .c (.int .i64 e)], .c (.str s)], [] => match asB rows with
    | some b => if b.length ≤ 100000 ∧ s.length ≤ 9223372036854775807 then some ⟨[.pv (wAgg (rText ⟨b, e⟩ s))], []⟩ else none
    | none => none
  | _, _ => none

set_option maxHeartbeats 4000000 in
theorem rText_sound (hΓ : SoundG Try.prog Γ) (h54 : Γ 61 = putC) : SoundC Try.prog 115 rTextC := by
  refine sound_fn Try.func115 (by kernel_rfl) rfl rfl ?_
  intro args objs r hr
  unfold rTextC at hr
  split at hr
  · split at hr
    · rename_i rows e s _ b hb
      split at hr
      · rename_i hc
        obtain ⟨hc, hcs⟩ := hc
        cases hr
        obtain rfl := asB_inv hb
        refine ⟨rfl, by show 2 ≤ _; decide, fun E hN hns hF => ?_⟩
        refine vc_sound hΓ mixed _ _ _ ?_
        have hN := hN.trans nt_115
        have hz := rowsOK_bytes
        have hz0 : rowsOK 1 [] := fun _ h => by cases h
        have hpl := putB_length s.length 2
        rw [show (min (max (2 : Int) 0) 8).toNat = 2 from rfl] at hpl
        have hL : b.length ≤ 140737488355328 := by omega
        have hL6 : b.length ≤ 140737488355326 := by omega
        by_cases h1n : 4096 < s.length
        · have h1 : decide ((s.length : Int) > 4096) = true := by simp; omega
          cases h4 : (e == 0)
          all_goals
            simp only [runA, runB, runC, runD, runE, runF, fieldE, storeE, binE, ↓reduceIte, Nat.reduceLT, Nat.reduceLeDiff, Nat.reduceEqDiff, Nat.reduceAdd, Nat.reduceMul, Nat.reduceSub, reduceCtorEq, putAt, unE, Nat.reduceBEq, convE, buildE, List.replicate, Int.reduceLT, Int.reduceLE, Int.reduceToNat, mkE, mapSetE, hN, hF, ty_3, ty_5, ty_9, ty_25, ty_119, notIf, isEq, h1, h4, h54, putC, bytes_length, bytes_app, hz, hz0, hL, hL6, hpl]
          all_goals
            simp only [beq_iff_eq, beq_eq_false_iff_ne, ne_eq] at h4
          all_goals
            simp only [runB, finC, finD, Option.isSome_some, Option.isSome_none, ↓reduceIte, Nat.reduceEqDiff, Nat.reduceAdd, Nat.reduceMul, forall_eq_or_imp, forall_eq, implies_true, Nat.reduceBEq, reduceCtorEq, false_implies, List.zip_cons_cons, List.zip_nil_left, List.zip_nil_right, Nat.reduceLeDiff, List.forall_mem_nil, rs_115, ty_3, ty_5, ty_9, ty_25, ty_119, wAgg, bytes_length]
          all_goals simp [rText, h1n, h4]
        · have h1 : decide ((s.length : Int) > 4096) = false := by simp; omega
          have hL7 : b.length + 2 + s.length ≤ 140737488355328 := by omega
          cases h3 : decide ((b.length : Int) ≤ 16384)
          all_goals
            simp only [runA, runB, runC, runD, runE, runF, fieldE, storeE, binE, ↓reduceIte, Nat.reduceLT, Nat.reduceLeDiff, Nat.reduceEqDiff, Nat.reduceAdd, Nat.reduceMul, Nat.reduceSub, reduceCtorEq, putAt, unE, Nat.reduceBEq, convE, buildE, List.replicate, Int.reduceLT, Int.reduceLE, Int.reduceToNat, mkE, mapSetE, hN, hF, ty_3, ty_5, ty_9, ty_25, ty_119, notIf, isEq, h1, h3, h54, putC, bytes_length, bytes_app, hz, hz0, hL, hL6, hL7, hpl]
          all_goals
            simp only [decide_eq_false_iff_not, decide_eq_true_eq] at h3
            rw [show (16384 : Int) = ((16384 : Nat) : Int) from rfl, Int.ofNat_le] at h3
          all_goals
            simp only [runB, finC, finD, Option.isSome_some, Option.isSome_none, ↓reduceIte, Nat.reduceEqDiff, Nat.reduceAdd, Nat.reduceMul, forall_eq_or_imp, forall_eq, implies_true, Nat.reduceBEq, reduceCtorEq, false_implies, List.zip_cons_cons, List.zip_nil_left, List.zip_nil_right, Nat.reduceLeDiff, List.forall_mem_nil, rs_115, ty_3, ty_5, ty_9, ty_25, ty_119, wAgg, bytes_length]
          all_goals simp [rText, h1n, h3]
      · cases hr
    · cases hr
  · cases hr


variable {Γ : FuncId → Contract}

def okB (b : Blk) : Prop := (0 ≤ b.vw ∧ b.vw ≤ 1048576) ∧ (1 ≤ b.ht ∧ b.ht ≤ 1048576) ∧ b.pa.length = 32 ∧ b.ju.bl = b.pa ∧ b.ju.ht = b.ht - 1 ∧ (0 ≤ b.ju.vw ∧ b.ju.vw ≤ b.vw) ∧ b.txs.length ≤ 4 ∧ (∀ t ∈ b.txs, okT t) ∧ b.sig.length ≤ 4096
instance (b : Blk) : Decidable (okB b) := inferInstanceAs (Decidable (_ ∧ _))

variable {Γ : FuncId → Contract}


variable {Γ : FuncId → Contract}

theorem wNum_cap {w : WS} (n : Int) (h : w.b.length ≤ 20482) : (wNum w n).b.length ≤ 20482 := by
  unfold wNum
  split
  · exact h
  · split
    · show (w.b ++ putB n 6).length ≤ _
      rw [List.length_append, len6]; omega
    · exact h
theorem rText_cap {w : WS} (s : List UInt8) (h : w.b.length ≤ 20482) : (rText w s).b.length ≤ 20482 := by
  unfold rText
  split
  · exact h
  · split
    · show (w.b ++ putB s.length 2 ++ s).length ≤ _
      rw [List.length_append, List.length_append, len2]; omega
    · exact h
theorem rNum_at (w : WS) (n : Int) (h : w.b.length ≤ 100000) : rNumC [.agg [.c (.sl (bytes w.b)), .c (.int .i64 w.e)], .c (.int .i64 n)] [] = some ⟨[.pv (.agg [.c (.sl (bytes (wNum w n).b)), .c (.int .i64 (wNum w n).e)])], []⟩ := by
  simp [rNumC, asB_bytes, h, wAgg]; exact ⟨rfl, rfl⟩
theorem rTextR_at (w : WS) (s : List UInt8) (h : w.b.length ≤ 100000) (h2 : s.length ≤ 9223372036854775807) : rTextC [.agg [.c (.sl (bytes w.b)), .c (.int .i64 w.e)], .c (.str s)] [] = some ⟨[.pv (.agg [.c (.sl (bytes (rText w s).b)), .c (.int .i64 (rText w s).e)])], []⟩ := by
  simp [rTextC, asB_bytes, h, h2, wAgg]
theorem txF4 (w : WS) (t : Txn) : txF w t 4 = wNum (wNum (wNum (wNum (rText w [116, 120]) t.fr) t.to) t.am) t.no := rfl
noncomputable def rTxFC : Contract := mkC (α := WS × Txn) (fun p => p.1.b.length ≤ 20482) (fun p => [.agg [.c (.sl (bytes p.1.b)), .c (.int .i64 p.1.e)], p.2.av]) (fun p => []) (fun p => ⟨[.pv (.agg [.c (.sl (bytes (txF p.1 p.2 4).b)), .c (.int .i64 (txF p.1 p.2 4).e)])], []⟩)
theorem rTxF_at (w : WS) (tfr : Int) (tto : Int) (tam : Int) (tno : Int) (tsig : List UInt8) (g0 : w.b.length ≤ 20482) : rTxFC [.agg [.c (.sl (bytes w.b)), .c (.int .i64 w.e)], (.agg [.c (.int .i64 tfr), .c (.int .i64 tto), .c (.int .i64 tam), .c (.int .i64 tno), .c (.str tsig)])] [] = some ⟨[.pv (.agg [.c (.sl (bytes (txF w (⟨tfr, tto, tam, tno, tsig⟩ : Txn) 4).b)), .c (.int .i64 (txF w (⟨tfr, tto, tam, tno, tsig⟩ : Txn) 4).e)])], []⟩ := by
  obtain ⟨wb, we⟩ := w
  exact mkC_at (α := WS × Txn) (⟨wb, we⟩, ⟨tfr, tto, tam, tno, tsig⟩) g0 (by
    rintro ⟨⟨w'b, w'e⟩, t'⟩ _ h ho
    have hh := And.intro h ho
    clear h ho
    simp only [List.cons.injEq, AV.c.injEq, AV.agg.injEq, PC.int.injEq, PC.str.injEq, PC.bool.injEq, PC.sl.injEq, OV.c.injEq, OV.own.injEq, OV.mp.injEq, bytes_iff, texts_iff, true_and, and_true, and_self, beq_self_eq_true, Txn.av_iff] at hh
    simp only [hh])

set_option maxRecDepth 100000 in
set_option maxHeartbeats 4000000 in
theorem rTxF_sound (hΓ : SoundG Try.prog Γ) (h1 : Γ 114 = rNumC) (h2 : Γ 115 = rTextC) : SoundC Try.prog 75 rTxFC := by
  refine sound_fn Try.func75 (by kernel_rfl) rfl rfl ?_
  intro args objs r0 hr
  obtain ⟨⟨w, ⟨fr, to, am, no, sig⟩⟩, hl, rfl, rfl, rfl⟩ := mkC_inv hr
  refine ⟨rfl, by show 2 ≤ _; decide, fun E hN hns hF => ?_⟩
  refine vc_sound hΓ mixed _ _ _ ?_
  have hN := hN.trans nt_75
  have hl : w.b.length ≤ 20482 := hl
  have l0 := rText_cap [116, 120] hl
  have l1 := wNum_cap fr l0
  have l2 := wNum_cap to l1
  have l3 := wNum_cap am l2
  unfold Txn.av
  rw [txF4]
  dsimp only
  have q0 := rTextR_at w [116, 120] (by omega) (by decide)
  have q1 := rNum_at (rText w [116, 120]) fr (by omega)
  have q2 := rNum_at (wNum (rText w [116, 120]) fr) to (by omega)
  have q3 := rNum_at (wNum (wNum (rText w [116, 120]) fr) to) am (by omega)
  have q4 := rNum_at (wNum (wNum (wNum (rText w [116, 120]) fr) to) am) no (by omega)
  simp only [runA, runB, runC, runD, runE, runF, fieldE, storeE, binE, ↓reduceIte, Nat.reduceLT, Nat.reduceLeDiff, Nat.reduceEqDiff, Nat.reduceAdd, Nat.reduceMul, Nat.reduceSub, reduceCtorEq, putAt, unE, Nat.reduceBEq, convE, buildE, List.replicate, Int.reduceLT, Int.reduceLE, Int.reduceToNat, mkE, mapSetE, hN, hF, ty_3, ty_9, ty_25, ty_54, ty_119, notIf, isEq, h1, h2, q0, q1, q2, q3, q4]
  refine drawnP_intro (by kernel_rfl) (by kernel_rfl) ?_
  simp only [runA, runB, runC, runD, runE, runF, fieldE, storeE, binE, ↓reduceIte, Nat.reduceLT, Nat.reduceLeDiff, Nat.reduceEqDiff, Nat.reduceAdd, Nat.reduceMul, Nat.reduceSub, reduceCtorEq, putAt, unE, Nat.reduceBEq, convE, buildE, List.replicate, Int.reduceLT, Int.reduceLE, Int.reduceToNat, mkE, mapSetE, hN, hF, ty_3, ty_9, ty_25, ty_54, ty_119, notIf, isEq, h1, h2, q0, q1, q2, q3, q4]
  simp only [runB, finC, finD, Option.isSome_some, Option.isSome_none, ↓reduceIte, Nat.reduceEqDiff, Nat.reduceAdd, Nat.reduceMul, forall_eq_or_imp, forall_eq, implies_true, Nat.reduceBEq, reduceCtorEq, false_implies, List.zip_cons_cons, List.zip_nil_left, List.zip_nil_right, Nat.reduceLeDiff, List.forall_mem_nil, rs_75, ty_3, ty_9, ty_25, ty_54, ty_119]

variable {Γ : FuncId → Contract}


end Go.Proofs.Ytldehcnaepgamaa.AM
