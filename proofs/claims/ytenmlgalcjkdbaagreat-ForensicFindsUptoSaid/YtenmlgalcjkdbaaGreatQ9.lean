/-
  Q9: Bk3 Bk4 Bk5 BnT.
-/
import Derived.Test.YtenmlgalcjkdbaaGreatQ8
import Derived.Test.YtenmlgalcjkdbaaGreatQP
import Derived.Test.YtenmlgalcjkdbaaGreatQ7
import Derived.Test.YtenmlgalcjkdbaaGreatQ4
import Derived.ProofKit
import Derived.SizedLaws
import Derived.JoinedCond
set_option linter.unusedVariables false
set_option linter.unusedSimpArgs false
namespace Go.Proofs.YtenmlgalcjkdbaaGreat.AM
open Go

variable {Γ : FuncId → Contract}

theorem wNum_cap {w : WS} (n : Int) (h : w.b.length ≤ 20482) : (wNum w n).b.length ≤ 20482 := by
  unfold wNum
  split
  · exact h
  · split
    · show (w.b ++ putB n 6).length ≤ _
      rw [List.length_append, len6]; omega
    · exact h
theorem rText_cap {w : WS} (s : List UInt8) (h : w.b.length ≤ 20482) : (rText w s).b.length ≤ 20482 := by
  unfold rText
  split
  · exact h
  · split
    · show (w.b ++ putB s.length 2 ++ s).length ≤ _
      rw [List.length_append, List.length_append, len2]; omega
    · exact h
theorem rNum_at (w : WS) (n : Int) (h : w.b.length ≤ 100000) : rNumC [.agg [.c (.sl (bytes w.b)), .c (.int .i64 w.e)], .c (.int .i64 n)] [] = some ⟨[.pv (.agg [.c (.sl (bytes (wNum w n).b)), .c (.int .i64 (wNum w n).e)])], []⟩ := by
  simp [rNumC, asB_bytes, h, wAgg]; exact ⟨rfl, rfl⟩
theorem rTextR_at (w : WS) (s : List UInt8) (h : w.b.length ≤ 100000) (h2 : s.length ≤ 9223372036854775807) : rTextC [.agg [.c (.sl (bytes w.b)), .c (.int .i64 w.e)], .c (.str s)] [] = some ⟨[.pv (.agg [.c (.sl (bytes (rText w s).b)), .c (.int .i64 (rText w s).e)])], []⟩ := by
  simp [rTextC, asB_bytes, h, h2, wAgg]
theorem rDone_at (w : WS) : rDoneC [.agg [.c (.sl (bytes w.b)), .c (.int .i64 w.e)]] [] = some ⟨[.pv (.c (.sl (bytes (doneR w).1))), .pv (.c (.int .i64 (doneR w).2))], []⟩ := by
  simp [rDoneC, asB_bytes]
theorem txF4 (w : WS) (t : Txn) : txF w t 4 = wNum (wNum (wNum (wNum (rText w [116, 120]) t.fr) t.to) t.am) t.no := rfl
theorem txF_cap {w : WS} (t : Txn) (h : w.b.length ≤ 20482) : (txF w t 4).b.length ≤ 20482 := by
  rw [txF4]; exact wNum_cap _ (wNum_cap _ (wNum_cap _ (wNum_cap _ (rText_cap _ h))))
def txP (w : WS) (t : Txn) : WS := rText (txF w t 4) t.sig
theorem txP_cap {w : WS} (t : Txn) (h : w.b.length ≤ 20482) : (txP w t).b.length ≤ 20482 := rText_cap _ (txF_cap t h)
noncomputable def rTxFC : Contract := mkC (α := WS × Txn) (fun p => p.1.b.length ≤ 20482) (fun p => [.agg [.c (.sl (bytes p.1.b)), .c (.int .i64 p.1.e)], p.2.av]) (fun p => []) (fun p => ⟨[.pv (.agg [.c (.sl (bytes (txF p.1 p.2 4).b)), .c (.int .i64 (txF p.1 p.2 4).e)])], []⟩)
theorem rTxF_at (w : WS) (tfr : Int) (tto : Int) (tam : Int) (tno : Int) (tsig : List UInt8) (g0 : w.b.length ≤ 20482) : rTxFC [.agg [.c (.sl (bytes w.b)), .c (.int .i64 w.e)], (.agg [.c (.int .i64 tfr), .c (.int .i64 tto), .c (.int .i64 tam), .c (.int .i64 tno), .c (.str tsig)])] [] = some ⟨[.pv (.agg [.c (.sl (bytes (txF w (⟨tfr, tto, tam, tno, tsig⟩ : Txn) 4).b)), .c (.int .i64 (txF w (⟨tfr, tto, tam, tno, tsig⟩ : Txn) 4).e)])], []⟩ := by
  obtain ⟨wb, we⟩ := w
  exact mkC_at (α := WS × Txn) (⟨wb, we⟩, ⟨tfr, tto, tam, tno, tsig⟩) g0 (by
    rintro ⟨⟨w'b, w'e⟩, t'⟩ _ h ho
    have hh := And.intro h ho
    clear h ho
    simp only [List.cons.injEq, AV.c.injEq, AV.agg.injEq, PC.int.injEq, PC.str.injEq, PC.bool.injEq, PC.sl.injEq, OV.c.injEq, OV.own.injEq, OV.mp.injEq, bytes_iff, texts_iff, true_and, and_true, and_self, beq_self_eq_true, Txn.av_iff] at hh
    simp only [hh])

set_option maxRecDepth 100000 in
set_option maxHeartbeats 4000000 in
theorem rTxF_sound (hΓ : SoundG Tryz.prog Γ) (h1 : Γ 160 = rNumC) (h2 : Γ 161 = rTextC) : SoundC Tryz.prog 198 rTxFC := by
  refine sound_fn Tryz.func198 (by kernel_rfl) rfl rfl ?_
  intro args objs r0 hr
  obtain ⟨⟨w, ⟨fr, to, am, no, sig⟩⟩, hl, rfl, rfl, rfl⟩ := mkC_inv hr
  refine ⟨rfl, by show 2 ≤ _; decide, fun E hN hns hF => ?_⟩
  refine vc_sound hΓ mixed _ _ _ ?_
  have hN := hN.trans nt_198
  have hl : w.b.length ≤ 20482 := hl
  have l0 := rText_cap [116, 120] hl
  have l1 := wNum_cap fr l0
  have l2 := wNum_cap to l1
  have l3 := wNum_cap am l2
  unfold Txn.av
  rw [txF4]
  dsimp only
  have q0 := rTextR_at w [116, 120] (by omega) (by decide)
  have q1 := rNum_at (rText w [116, 120]) fr (by omega)
  have q2 := rNum_at (wNum (rText w [116, 120]) fr) to (by omega)
  have q3 := rNum_at (wNum (wNum (rText w [116, 120]) fr) to) am (by omega)
  have q4 := rNum_at (wNum (wNum (wNum (rText w [116, 120]) fr) to) am) no (by omega)
  simp only [runA, runB, runC, runD, runE, runF, fieldE, storeE, binE, ↓reduceIte, Nat.reduceLT, Nat.reduceLeDiff, Nat.reduceEqDiff, Nat.reduceAdd, Nat.reduceMul, Nat.reduceSub, reduceCtorEq, putAt, unE, Nat.reduceBEq, convE, buildE, List.replicate, Int.reduceLT, Int.reduceLE, Int.reduceToNat, mkE, mapSetE, hN, hF, ty_3, ty_9, ty_36, ty_47, ty_170, notIf, isEq, h1, h2, q0, q1, q2, q3, q4]
  refine drawnP_intro (by kernel_rfl) (by kernel_rfl) ?_
  simp only [runA, runB, runC, runD, runE, runF, fieldE, storeE, binE, ↓reduceIte, Nat.reduceLT, Nat.reduceLeDiff, Nat.reduceEqDiff, Nat.reduceAdd, Nat.reduceMul, Nat.reduceSub, reduceCtorEq, putAt, unE, Nat.reduceBEq, convE, buildE, List.replicate, Int.reduceLT, Int.reduceLE, Int.reduceToNat, mkE, mapSetE, hN, hF, ty_3, ty_9, ty_36, ty_47, ty_170, notIf, isEq, h1, h2, q0, q1, q2, q3, q4]
  simp only [runB, finC, finD, Option.isSome_some, Option.isSome_none, ↓reduceIte, Nat.reduceEqDiff, Nat.reduceAdd, Nat.reduceMul, forall_eq_or_imp, forall_eq, implies_true, Nat.reduceBEq, reduceCtorEq, false_implies, List.zip_cons_cons, List.zip_nil_left, List.zip_nil_right, Nat.reduceLeDiff, List.forall_mem_nil, rs_198, ty_3, ty_9, ty_36, ty_47, ty_170]
noncomputable def rTxPC : Contract := mkC (α := WS × Txn) (fun p => p.1.b.length ≤ 20482 ∧ p.2.sig.length ≤ 9223372036854775807) (fun p => [.agg [.c (.sl (bytes p.1.b)), .c (.int .i64 p.1.e)], p.2.av]) (fun p => []) (fun p => ⟨[.pv (.agg [.c (.sl (bytes (txP p.1 p.2).b)), .c (.int .i64 (txP p.1 p.2).e)])], []⟩)
theorem rTxP_at (w : WS) (tfr : Int) (tto : Int) (tam : Int) (tno : Int) (tsig : List UInt8) (g0 : w.b.length ≤ 20482) (g1 : tsig.length ≤ 9223372036854775807) : rTxPC [.agg [.c (.sl (bytes w.b)), .c (.int .i64 w.e)], (.agg [.c (.int .i64 tfr), .c (.int .i64 tto), .c (.int .i64 tam), .c (.int .i64 tno), .c (.str tsig)])] [] = some ⟨[.pv (.agg [.c (.sl (bytes (txP w (⟨tfr, tto, tam, tno, tsig⟩ : Txn)).b)), .c (.int .i64 (txP w (⟨tfr, tto, tam, tno, tsig⟩ : Txn)).e)])], []⟩ := by
  obtain ⟨wb, we⟩ := w
  exact mkC_at (α := WS × Txn) (⟨wb, we⟩, ⟨tfr, tto, tam, tno, tsig⟩) ⟨g0, g1⟩ (by
    rintro ⟨⟨w'b, w'e⟩, t'⟩ _ h ho
    have hh := And.intro h ho
    clear h ho
    simp only [List.cons.injEq, AV.c.injEq, AV.agg.injEq, PC.int.injEq, PC.str.injEq, PC.bool.injEq, PC.sl.injEq, OV.c.injEq, OV.own.injEq, OV.mp.injEq, bytes_iff, texts_iff, true_and, and_true, and_self, beq_self_eq_true, Txn.av_iff] at hh
    simp only [hh])

set_option maxRecDepth 100000 in
set_option maxHeartbeats 4000000 in
theorem rTxP_sound (hΓ : SoundG Tryz.prog Γ) (h1 : Γ 198 = rTxFC) (h2 : Γ 161 = rTextC) : SoundC Tryz.prog 162 rTxPC := by
  refine sound_fn Tryz.func162 (by kernel_rfl) rfl rfl ?_
  intro args objs r0 hr
  obtain ⟨⟨w, ⟨fr, to, am, no, sig⟩⟩, ⟨hl, hs⟩, rfl, rfl, rfl⟩ := mkC_inv hr
  refine ⟨rfl, by show 2 ≤ _; decide, fun E hN hns hF => ?_⟩
  refine vc_sound hΓ mixed _ _ _ ?_
  have hN := hN.trans nt_162
  have hl : w.b.length ≤ 20482 := hl
  have hs : sig.length ≤ 9223372036854775807 := hs
  have l0 := txF_cap ⟨fr, to, am, no, sig⟩ hl
  unfold txP Txn.av
  dsimp only
  have q0 := rTxF_at w fr to am no sig hl
  have q1 := rTextR_at (txF w ⟨fr, to, am, no, sig⟩ 4) sig (by omega) (by omega)
  simp only [runA, runB, runC, runD, runE, runF, fieldE, storeE, binE, ↓reduceIte, Nat.reduceLT, Nat.reduceLeDiff, Nat.reduceEqDiff, Nat.reduceAdd, Nat.reduceMul, Nat.reduceSub, reduceCtorEq, putAt, unE, Nat.reduceBEq, convE, buildE, List.replicate, Int.reduceLT, Int.reduceLE, Int.reduceToNat, mkE, mapSetE, hN, hF, ty_3, ty_9, ty_36, ty_47, ty_170, notIf, isEq, h1, h2, q0, q1]
  refine drawnP_intro (by kernel_rfl) (by kernel_rfl) ?_
  simp only [runA, runB, runC, runD, runE, runF, fieldE, storeE, binE, ↓reduceIte, Nat.reduceLT, Nat.reduceLeDiff, Nat.reduceEqDiff, Nat.reduceAdd, Nat.reduceMul, Nat.reduceSub, reduceCtorEq, putAt, unE, Nat.reduceBEq, convE, buildE, List.replicate, Int.reduceLT, Int.reduceLE, Int.reduceToNat, mkE, mapSetE, hN, hF, ty_3, ty_9, ty_36, ty_47, ty_170, notIf, isEq, h1, h2, q0, q1]
  simp only [runB, finC, finD, Option.isSome_some, Option.isSome_none, ↓reduceIte, Nat.reduceEqDiff, Nat.reduceAdd, Nat.reduceMul, forall_eq_or_imp, forall_eq, implies_true, Nat.reduceBEq, reduceCtorEq, false_implies, List.zip_cons_cons, List.zip_nil_left, List.zip_nil_right, Nat.reduceLeDiff, List.forall_mem_nil, rs_162, ty_3, ty_9, ty_36, ty_47, ty_170]

/-- A block's fields, ahead of its transactions. -/
def bkH (w : WS) (b : Blk) : WS := wNum (wNum (rText (wNum (wNum (rText w [98, 108, 111, 99, 107]) b.vw) b.ht) b.pa) b.ju.vw) (b.txs.length : Int)
def txsP (w : WS) (l : List Txn) : WS := l.foldl txP w
def bkF (w : WS) (b : Blk) : WS := txsP (bkH w b) b.txs
theorem bkH_cap {w : WS} (b : Blk) (h : w.b.length ≤ 20482) : (bkH w b).b.length ≤ 20482 := wNum_cap _ (wNum_cap _ (rText_cap _ (wNum_cap _ (wNum_cap _ (rText_cap _ h)))))
theorem txsP_cap : ∀ {l : List Txn} {w : WS}, w.b.length ≤ 20482 → (txsP w l).b.length ≤ 20482
  | [], w, h => h
  | t :: l, w, h => txsP_cap (l := l) (txP_cap t h)
theorem bkF_cap {w : WS} (b : Blk) (h : w.b.length ≤ 20482) : (bkF w b).b.length ≤ 20482 := txsP_cap (bkH_cap b h)
theorem txsP_take (w : WS) (l : List Txn) (i : Nat) (h : i < l.length) : txsP w (l.take (i + 1)) = txP (txsP w (l.take i)) (l.getD i zeroT) := by
  have : l.take (i + 1) = l.take i ++ [l.getD i zeroT] := by
    rw [List.take_add_one, List.getElem?_eq_getElem h]; simp [List.getD, h]
  rw [this]
  unfold txsP
  rw [List.foldl_append]
  rfl
def okS (l : List Txn) : Prop := ∀ t ∈ l, t.sig.length ≤ 9223372036854775807
theorem okS_getD {l : List Txn} (h : okS l) {i : Nat} (hi : i < l.length) : (l.getD i zeroT).sig.length ≤ 9223372036854775807 := by
  rw [List.getD, List.getElem?_eq_getElem hi]; exact h _ (List.getElem_mem hi)
noncomputable def rBkFC : Contract := mkC (α := WS × Blk) (fun p => p.1.b.length ≤ 20482 ∧ p.2.pa.length ≤ 9223372036854775807 ∧ p.2.txs.length ≤ 4294967296 ∧ okS p.2.txs) (fun p => [.agg [.c (.sl (bytes p.1.b)), .c (.int .i64 p.1.e)], p.2.av]) (fun p => []) (fun p => ⟨[.pv (.agg [.c (.sl (bytes (bkF p.1 p.2).b)), .c (.int .i64 (bkF p.1 p.2).e)])], []⟩)
theorem rBkF_at (w : WS) (bvw : Int) (bht : Int) (bpa : List UInt8) (bjvw : Int) (bjht : Int) (bjbl : List UInt8) (bjvs : List Vt) (btxs : List Txn) (bsig : List UInt8) (g0 : w.b.length ≤ 20482) (g1 : bpa.length ≤ 9223372036854775807) (g2 : btxs.length ≤ 4294967296) (g3 : okS btxs) : rBkFC [.agg [.c (.sl (bytes w.b)), .c (.int .i64 w.e)], (.agg [.c (.int .i64 bvw), .c (.int .i64 bht), .c (.str bpa), .c (.int .i64 bjvw), .c (.int .i64 bjht), .c (.str bjbl), .c (.sl (votes bjvs)), .c (.sl (trows btxs)), .c (.str bsig)])] [] = some ⟨[.pv (.agg [.c (.sl (bytes (bkF w (⟨bvw, bht, bpa, ⟨bjvw, bjht, bjbl, bjvs⟩, btxs, bsig⟩ : Blk)).b)), .c (.int .i64 (bkF w (⟨bvw, bht, bpa, ⟨bjvw, bjht, bjbl, bjvs⟩, btxs, bsig⟩ : Blk)).e)])], []⟩ := by
  obtain ⟨wb, we⟩ := w
  exact mkC_at (α := WS × Blk) (⟨wb, we⟩, ⟨bvw, bht, bpa, ⟨bjvw, bjht, bjbl, bjvs⟩, btxs, bsig⟩) ⟨g0, g1, g2, g3⟩ (by
    rintro ⟨⟨w'b, w'e⟩, b'⟩ _ h ho
    have hh := And.intro h ho
    clear h ho
    simp only [List.cons.injEq, AV.c.injEq, AV.agg.injEq, PC.int.injEq, PC.str.injEq, PC.bool.injEq, PC.sl.injEq, OV.c.injEq, OV.own.injEq, OV.mp.injEq, bytes_iff, texts_iff, true_and, and_true, and_self, beq_self_eq_true, Blk.av_iff] at hh
    simp only [hh])
noncomputable def bkTxC : Contract := mkC (α := WS × Blk) (fun p => p.1.b.length ≤ 20482 ∧ p.2.pa.length ≤ 9223372036854775807 ∧ p.2.txs.length ≤ 4294967296 ∧ okS p.2.txs) (fun p => [.ptr 6400000 0, p.2.av]) (fun p => [[.own 1 (bytes p.1.b), .c (.int .i64 p.1.e), .c (.bool true)]]) (fun p => ⟨[], [[.own 1 (bytes (bkF p.1 p.2).b), .c (.int .i64 (bkF p.1 p.2).e), .c (.bool true)]]⟩)
theorem bkTx_at (w : WS) (bvw : Int) (bht : Int) (bpa : List UInt8) (bjvw : Int) (bjht : Int) (bjbl : List UInt8) (bjvs : List Vt) (btxs : List Txn) (bsig : List UInt8) (g0 : w.b.length ≤ 20482) (g1 : bpa.length ≤ 9223372036854775807) (g2 : btxs.length ≤ 4294967296) (g3 : okS btxs) : bkTxC [.ptr 6400000 0, (.agg [.c (.int .i64 bvw), .c (.int .i64 bht), .c (.str bpa), .c (.int .i64 bjvw), .c (.int .i64 bjht), .c (.str bjbl), .c (.sl (votes bjvs)), .c (.sl (trows btxs)), .c (.str bsig)])] [[.own 1 (bytes w.b), .c (.int .i64 w.e), .c (.bool true)]] = some ⟨[], [[.own 1 (bytes (bkF w (⟨bvw, bht, bpa, ⟨bjvw, bjht, bjbl, bjvs⟩, btxs, bsig⟩ : Blk)).b), .c (.int .i64 (bkF w (⟨bvw, bht, bpa, ⟨bjvw, bjht, bjbl, bjvs⟩, btxs, bsig⟩ : Blk)).e), .c (.bool true)]]⟩ := by
  obtain ⟨wb, we⟩ := w
  exact mkC_at (α := WS × Blk) (⟨wb, we⟩, ⟨bvw, bht, bpa, ⟨bjvw, bjht, bjbl, bjvs⟩, btxs, bsig⟩) ⟨g0, g1, g2, g3⟩ (by
    rintro ⟨⟨w'b, w'e⟩, b'⟩ _ h ho
    have hh := And.intro h ho
    clear h ho
    simp only [List.cons.injEq, AV.c.injEq, AV.agg.injEq, PC.int.injEq, PC.str.injEq, PC.bool.injEq, PC.sl.injEq, OV.c.injEq, OV.own.injEq, OV.mp.injEq, bytes_iff, texts_iff, true_and, and_true, and_self, beq_self_eq_true, Blk.av_iff] at hh
    simp only [hh])


variable {Γ : FuncId → Contract}


set_option maxRecDepth 100000 in
set_option maxHeartbeats 4000000 in
theorem bkTx_sound (hΓ : SoundG Tryz.prog Γ) (h1 : Γ 101 = numC) (h2 : Γ 53 = textC) (h3 : Γ 102 = txPutC) : SoundC Tryz.prog 51 bkTxC := by
  refine sound_fn Tryz.func51 (by kernel_rfl) rfl rfl ?_
  intro args objs r0 hr
  obtain ⟨⟨w, ⟨vw, ht, pa, ⟨jv, jh, jb, js⟩, txs, sig⟩⟩, ⟨hl, hpa, htl, hts⟩, rfl, rfl, rfl⟩ := mkC_inv hr
  refine ⟨rfl, by show 2 ≤ _; decide, fun E hN hns hF => ?_⟩
  refine vc_sound hΓ mixed _ _ _ ?_
  have hN := hN.trans nt_51
  have hl : w.b.length ≤ 20482 := hl
  have hpa : pa.length ≤ 9223372036854775807 := hpa
  have htl : txs.length ≤ 4294967296 := htl
  have hts : okS txs := hts
  have l0 := rText_cap [98, 108, 111, 99, 107] hl
  have l1 := wNum_cap vw l0
  have l2 := wNum_cap ht l1
  have l3 := rText_cap pa l2
  have l4 := wNum_cap jv l3
  have l5 := wNum_cap (txs.length : Int) l4
  have hE : bkF w ⟨vw, ht, pa, ⟨jv, jh, jb, js⟩, txs, sig⟩ = txsP (bkH w ⟨vw, ht, pa, ⟨jv, jh, jb, js⟩, txs, sig⟩) txs := rfl
  have hH : bkH w ⟨vw, ht, pa, ⟨jv, jh, jb, js⟩, txs, sig⟩ = wNum (wNum (rText (wNum (wNum (rText w [98, 108, 111, 99, 107]) vw) ht) pa) jv) (txs.length : Int) := rfl
  rw [← hH] at l5
  unfold Blk.av
  dsimp only
  rw [hE]
  have q0 := text_atw (w) [98, 108, 111, 99, 107] (by omega) (by decide)
  have q1 := num_atw (rText w [98, 108, 111, 99, 107]) vw (by omega)
  have q2 := num_atw (wNum (rText w [98, 108, 111, 99, 107]) vw) ht (by omega)
  have q3 := text_atw (wNum (wNum (rText w [98, 108, 111, 99, 107]) vw) ht) pa (by omega) (by omega)
  have q4 := num_atw (rText (wNum (wNum (rText w [98, 108, 111, 99, 107]) vw) ht) pa) jv (by omega)
  have q5 := num_atw (wNum (rText (wNum (wNum (rText w [98, 108, 111, 99, 107]) vw) ht) pa) jv) (txs.length : Int) (by omega)
  rw [← hH] at q5
  simp only [runA, runB, runC, runD, runE, runF, fieldE, storeE, binE, ↓reduceIte, Nat.reduceLT, Nat.reduceLeDiff, Nat.reduceEqDiff, Nat.reduceAdd, Nat.reduceMul, Nat.reduceSub, reduceCtorEq, putAt, unE, Nat.reduceBEq, convE, buildE, List.replicate, Int.reduceLT, Int.reduceLE, Int.reduceToNat, mkE, mapSetE, hN, hF, ty_3, ty_9, ty_22, ty_29, ty_31, ty_33, ty_36, ty_44, notIf, isEq, h1, h2, q0, q1, q2, q3, q4, q5, trows_length, bytes_length]
  generalize bkH w ⟨vw, ht, pa, ⟨jv, jh, jb, js⟩, txs, sig⟩ = w0 at l5 ⊢
  refine AWP.loop (fun k st => ∃ i : Nat, i ≤ txs.length ∧ k = txs.length - i ∧ st = ⟨[(0, .ptr 6400000 0), (31, .c (.sl (trows txs))), (32, .c (.int .i64 (txs.length : Int))), (33, .c (.int .i64 (i : Int)))],
    [(6400000, .obj [.own 6400001 1 (bytes (txsP w0 (txs.take i)).b), .c (.int .i64 (txsP w0 (txs.take i)).e), .c (.bool true)] false), (6400001, .row 1 (txsP w0 (txs.take i)).b.length)]⟩) ⟨txs.length, _, ?w, 0, Nat.zero_le _, rfl, rfl⟩ ?r
  case w =>
    rw [hns]
    simp only [runB, finC, finD, AS.get, AS.mem, false_implies, implies_true, ↓reduceIte, Nat.reduceEqDiff, Option.isSome_some, Option.isSome_none, forall_eq_or_imp, forall_eq, reduceCtorEq, Nat.reduceAdd, Nat.reduceMul, List.zip_cons_cons, List.zip_nil_left, List.zip_nil_right, List.forall_mem_nil, List.take_zero, txsP, List.foldl_nil, bytes_length]
    first | done | simp
  case r =>
    rintro k st ⟨i, hi, rfl, rfl⟩
    refine vc_sound hΓ mixed _ _ _ ?_
    have hc := txsP_cap (l := txs.take i) l5
    by_cases hlt : i < txs.length
    · have k1 : decide ((i : Int) < (txs.length : Int)) = true := by simpa using hlt
      have e1 : IntKind.i64.wrap ((i : Int) + 1) = (i : Int) + 1 := wrapI (by omega)
      have hg := trowsD txs i hlt
      have hn := txPut_at (txsP w0 (txs.take i)) (txs.getD i zeroT) (by omega) (okS_getD hts hlt)
      rw [show rText (txF (txsP w0 (txs.take i)) (txs.getD i zeroT) 4) (txs.getD i zeroT).sig = txP (txsP w0 (txs.take i)) (txs.getD i zeroT) from rfl, ← txsP_take w0 txs i hlt] at hn
      unfold Txn.pcs at hg
      generalize txs.getD i zeroT = y at hg hn
      generalize txsP w0 (txs.take i) = wi at hn hc ⊢
      simp only [runA, runB, runC, runD, runE, runF, fieldE, storeE, binE, ↓reduceIte, Nat.reduceLT, Nat.reduceLeDiff, Nat.reduceEqDiff, Nat.reduceAdd, Nat.reduceMul, Nat.reduceSub, reduceCtorEq, putAt, unE, Nat.reduceBEq, convE, buildE, List.replicate, Int.reduceLT, Int.reduceLE, Int.reduceToNat, mkE, mapSetE, hN, hF, ty_3, ty_9, ty_22, ty_29, ty_31, ty_33, ty_36, ty_44, notIf, isEq, k1, e1, hg, h3, hn, bytes_length]
      refine ⟨txs.length - (i + 1), _, by omega, ?_, i + 1, by omega, rfl, rfl⟩
      rw [hns]
      simp only [runB, finC, finD, AS.get, AS.mem, false_implies, implies_true, ↓reduceIte, Nat.reduceEqDiff, Option.isSome_some, Option.isSome_none, forall_eq_or_imp, forall_eq, reduceCtorEq, Nat.reduceAdd, Nat.reduceMul, List.zip_cons_cons, List.zip_nil_left, List.zip_nil_right, List.forall_mem_nil, bytes_length]
      first | done | simp
    · have k1 : decide ((i : Int) < (txs.length : Int)) = false := by simpa using hlt
      have hil : i = txs.length := by omega
      have ht : txs.take i = txs := by rw [hil, List.take_length]
      rw [ht]
      generalize txsP w0 txs = w9
      simp only [runA, runB, runC, runD, runE, runF, fieldE, storeE, binE, ↓reduceIte, Nat.reduceLT, Nat.reduceLeDiff, Nat.reduceEqDiff, Nat.reduceAdd, Nat.reduceMul, Nat.reduceSub, reduceCtorEq, putAt, unE, Nat.reduceBEq, convE, buildE, List.replicate, Int.reduceLT, Int.reduceLE, Int.reduceToNat, mkE, mapSetE, hN, hF, ty_3, ty_9, ty_22, ty_29, ty_31, ty_33, ty_36, ty_44, notIf, isEq, k1]
      simp only [runB, finC, finD, Option.isSome_some, Option.isSome_none, ↓reduceIte, Nat.reduceEqDiff, Nat.reduceAdd, Nat.reduceMul, forall_eq_or_imp, forall_eq, implies_true, Nat.reduceBEq, reduceCtorEq, false_implies, List.zip_cons_cons, List.zip_nil_left, List.zip_nil_right, Nat.reduceLeDiff, List.forall_mem_nil, rs_51, bytes_length]

set_option maxRecDepth 100000 in
set_option maxHeartbeats 4000000 in
theorem rBkF_sound (hΓ : SoundG Tryz.prog Γ) (h1 : Γ 160 = rNumC) (h2 : Γ 161 = rTextC) (h3 : Γ 162 = rTxPC) : SoundC Tryz.prog 111 rBkFC := by
  refine sound_fn Tryz.func111 (by kernel_rfl) rfl rfl ?_
  intro args objs r0 hr
  obtain ⟨⟨w, ⟨vw, ht, pa, ⟨jv, jh, jb, js⟩, txs, sig⟩⟩, ⟨hl, hpa, htl, hts⟩, rfl, rfl, rfl⟩ := mkC_inv hr
  refine ⟨rfl, by show 2 ≤ _; decide, fun E hN hns hF => ?_⟩
  refine vc_sound hΓ mixed _ _ _ ?_
  have hN := hN.trans nt_111
  have hl : w.b.length ≤ 20482 := hl
  have hpa : pa.length ≤ 9223372036854775807 := hpa
  have htl : txs.length ≤ 4294967296 := htl
  have hts : okS txs := hts
  have l0 := rText_cap [98, 108, 111, 99, 107] hl
  have l1 := wNum_cap vw l0
  have l2 := wNum_cap ht l1
  have l3 := rText_cap pa l2
  have l4 := wNum_cap jv l3
  have l5 := wNum_cap (txs.length : Int) l4
  have hE : bkF w ⟨vw, ht, pa, ⟨jv, jh, jb, js⟩, txs, sig⟩ = txsP (bkH w ⟨vw, ht, pa, ⟨jv, jh, jb, js⟩, txs, sig⟩) txs := rfl
  have hH : bkH w ⟨vw, ht, pa, ⟨jv, jh, jb, js⟩, txs, sig⟩ = wNum (wNum (rText (wNum (wNum (rText w [98, 108, 111, 99, 107]) vw) ht) pa) jv) (txs.length : Int) := rfl
  rw [← hH] at l5
  unfold Blk.av
  dsimp only
  rw [hE]
  have q0 := rTextR_at (w) [98, 108, 111, 99, 107] (by omega) (by decide)
  have q1 := rNum_at (rText w [98, 108, 111, 99, 107]) vw (by omega)
  have q2 := rNum_at (wNum (rText w [98, 108, 111, 99, 107]) vw) ht (by omega)
  have q3 := rTextR_at (wNum (wNum (rText w [98, 108, 111, 99, 107]) vw) ht) pa (by omega) (by omega)
  have q4 := rNum_at (rText (wNum (wNum (rText w [98, 108, 111, 99, 107]) vw) ht) pa) jv (by omega)
  have q5 := rNum_at (wNum (rText (wNum (wNum (rText w [98, 108, 111, 99, 107]) vw) ht) pa) jv) (txs.length : Int) (by omega)
  rw [← hH] at q5
  simp only [runA, runB, runC, runD, runE, runF, fieldE, storeE, binE, ↓reduceIte, Nat.reduceLT, Nat.reduceLeDiff, Nat.reduceEqDiff, Nat.reduceAdd, Nat.reduceMul, Nat.reduceSub, reduceCtorEq, putAt, unE, Nat.reduceBEq, convE, buildE, List.replicate, Int.reduceLT, Int.reduceLE, Int.reduceToNat, mkE, mapSetE, hN, hF, ty_3, ty_9, ty_22, ty_29, ty_31, ty_33, ty_36, ty_47, ty_170, notIf, isEq, h1, h2, q0, q1, q2, q3, q4, q5, trows_length]
  generalize bkH w ⟨vw, ht, pa, ⟨jv, jh, jb, js⟩, txs, sig⟩ = w0 at l5 ⊢
  refine drawnP_intro (by kernel_rfl) (by kernel_rfl) ?_
  simp only [runA, runB, runC, runD, runE, runF, fieldE, storeE, binE, ↓reduceIte, Nat.reduceLT, Nat.reduceLeDiff, Nat.reduceEqDiff, Nat.reduceAdd, Nat.reduceMul, Nat.reduceSub, reduceCtorEq, putAt, unE, Nat.reduceBEq, convE, buildE, List.replicate, Int.reduceLT, Int.reduceLE, Int.reduceToNat, mkE, mapSetE, hN, hF, ty_3, ty_9, ty_22, ty_29, ty_31, ty_33, ty_36, ty_47, ty_170, notIf, isEq]
  refine AWP.loop (fun k st => ∃ i : Nat, i ≤ txs.length ∧ k = txs.length - i ∧ st = ⟨[(2, .ptr 128 0), (3, .ptr 192 0), (4, .ptr 256 0), (5, .c (.int .i64 (i : Int)))],
    [(128, .obj [.c (.sl (bytes (txsP w0 (txs.take i)).b)), .c (.int .i64 (txsP w0 (txs.take i)).e)] false), (192, .obj [.c (.int .i64 vw), .c (.int .i64 ht), .c (.str pa), .c (.int .i64 jv), .c (.int .i64 jh), .c (.str jb), .c (.sl (votes js)), .c (.sl (trows txs)), .c (.str sig)] false), (256, .obj [.c (.sl []), .c (.int .i64 0)] false)]⟩) ⟨txs.length, _, ?w, 0, Nat.zero_le _, rfl, rfl⟩ ?r
  case w =>
    rw [hns]
    simp only [runB, finC, finD, AS.get, AS.mem, false_implies, implies_true, ↓reduceIte, Nat.reduceEqDiff, Option.isSome_some, Option.isSome_none, forall_eq_or_imp, forall_eq, reduceCtorEq, Nat.reduceAdd, Nat.reduceMul, List.zip_cons_cons, List.zip_nil_left, List.zip_nil_right, List.forall_mem_nil, List.take_zero, txsP, List.foldl_nil, bytes_length]
    first | done | simp
  case r =>
    rintro k st ⟨i, hi, rfl, rfl⟩
    refine vc_sound hΓ mixed _ _ _ ?_
    have hc := txsP_cap (l := txs.take i) l5
    by_cases hlt : i < txs.length
    · have k1 : decide ((i : Int) < (txs.length : Int)) = true := by simpa using hlt
      have e1 : IntKind.i64.wrap ((i : Int) + 1) = (i : Int) + 1 := wrapI (by omega)
      have hg := trowsD txs i hlt
      have hn := rTxP_at (txsP w0 (txs.take i)) (txs.getD i zeroT).fr (txs.getD i zeroT).to (txs.getD i zeroT).am (txs.getD i zeroT).no (txs.getD i zeroT).sig (by omega) (okS_getD hts hlt)
      rw [show txP (txsP w0 (txs.take i)) ⟨(txs.getD i zeroT).fr, (txs.getD i zeroT).to, (txs.getD i zeroT).am, (txs.getD i zeroT).no, (txs.getD i zeroT).sig⟩ = txP (txsP w0 (txs.take i)) (txs.getD i zeroT) from rfl, ← txsP_take w0 txs i hlt] at hn
      unfold Txn.pcs at hg
      generalize txs.getD i zeroT = y at hg hn
      generalize txsP w0 (txs.take i) = wi at hn hc ⊢
      simp only [runA, runB, runC, runD, runE, runF, fieldE, storeE, binE, ↓reduceIte, Nat.reduceLT, Nat.reduceLeDiff, Nat.reduceEqDiff, Nat.reduceAdd, Nat.reduceMul, Nat.reduceSub, reduceCtorEq, putAt, unE, Nat.reduceBEq, convE, buildE, List.replicate, Int.reduceLT, Int.reduceLE, Int.reduceToNat, mkE, mapSetE, hN, hF, ty_3, ty_9, ty_22, ty_29, ty_31, ty_33, ty_36, ty_47, ty_170, notIf, isEq, k1, e1, hg, h3, hn, trows_length]
      refine drawnP_intro (by kernel_rfl) (by kernel_rfl) ?_
      simp only [runA, runB, runC, runD, runE, runF, fieldE, storeE, binE, ↓reduceIte, Nat.reduceLT, Nat.reduceLeDiff, Nat.reduceEqDiff, Nat.reduceAdd, Nat.reduceMul, Nat.reduceSub, reduceCtorEq, putAt, unE, Nat.reduceBEq, convE, buildE, List.replicate, Int.reduceLT, Int.reduceLE, Int.reduceToNat, mkE, mapSetE, hN, hF, ty_3, ty_9, ty_22, ty_29, ty_31, ty_33, ty_36, ty_47, ty_170, notIf, isEq, e1]
      refine ⟨txs.length - (i + 1), _, by omega, ?_, i + 1, by omega, rfl, rfl⟩
      rw [hns]
      simp only [runB, finC, finD, AS.get, AS.mem, false_implies, implies_true, ↓reduceIte, Nat.reduceEqDiff, Option.isSome_some, Option.isSome_none, forall_eq_or_imp, forall_eq, reduceCtorEq, Nat.reduceAdd, Nat.reduceMul, List.zip_cons_cons, List.zip_nil_left, List.zip_nil_right, List.forall_mem_nil, bytes_length]
      first | done | simp
    · have k1 : decide ((i : Int) < (txs.length : Int)) = false := by simpa using hlt
      have hil : i = txs.length := by omega
      have ht : txs.take i = txs := by rw [hil, List.take_length]
      rw [ht]
      generalize txsP w0 txs = w9
      simp only [runA, runB, runC, runD, runE, runF, fieldE, storeE, binE, ↓reduceIte, Nat.reduceLT, Nat.reduceLeDiff, Nat.reduceEqDiff, Nat.reduceAdd, Nat.reduceMul, Nat.reduceSub, reduceCtorEq, putAt, unE, Nat.reduceBEq, convE, buildE, List.replicate, Int.reduceLT, Int.reduceLE, Int.reduceToNat, mkE, mapSetE, hN, hF, ty_3, ty_9, ty_22, ty_29, ty_31, ty_33, ty_36, ty_47, ty_170, notIf, isEq, k1, trows_length]
      simp only [runB, finC, finD, Option.isSome_some, Option.isSome_none, ↓reduceIte, Nat.reduceEqDiff, Nat.reduceAdd, Nat.reduceMul, forall_eq_or_imp, forall_eq, implies_true, Nat.reduceBEq, reduceCtorEq, false_implies, List.zip_cons_cons, List.zip_nil_left, List.zip_nil_right, Nat.reduceLeDiff, List.forall_mem_nil, rs_111, ty_3, ty_9, ty_22, ty_29, ty_31, ty_33, ty_36, ty_47, ty_170]

/-- What a name is of. -/
def bkT (b : Blk) : List UInt8 := if okB b then (doneR (bkF ⟨[], 0⟩ b)).1 else []
theorem okB_okS {b : Blk} (h : okB b) : okS b.txs := fun t ht => by
  obtain ⟨_, _, _, _, _, _, _, h8, _⟩ := h
  obtain ⟨_, _, _, _, _, _, _, h⟩ := h8 t ht
  omega
theorem bkT_len (b : Blk) : (bkT b).length ≤ 20482 := by
  unfold bkT
  split
  · have := bkF_cap b (w := ⟨[], 0⟩) (by simp)
    unfold doneR
    split
    · split
      · simp
      · exact this
    · simp
  · simp
noncomputable def nameS (b : Blk) : List UInt8 := if okB b then shaS (bkT b) else []
theorem nameS_len {b : Blk} (h : okB b) : (nameS b).length = 32 := by unfold nameS; rw [if_pos h, shaS_length]
noncomputable def bkTC : Contract := mkC (α := Blk) (fun p => p.txs.length ≤ 9223372036854775807) (fun p => [p.av]) (fun p => []) (fun p => ⟨[.pv (.c (.sl (bytes (bkT p))))], []⟩)
theorem bkT_at (bvw : Int) (bht : Int) (bpa : List UInt8) (bjvw : Int) (bjht : Int) (bjbl : List UInt8) (bjvs : List Vt) (btxs : List Txn) (bsig : List UInt8) (g0 : btxs.length ≤ 9223372036854775807) : bkTC [.agg [.c (.int .i64 bvw), .c (.int .i64 bht), .c (.str bpa), .c (.int .i64 bjvw), .c (.int .i64 bjht), .c (.str bjbl), .c (.sl (votes bjvs)), .c (.sl (trows btxs)), .c (.str bsig)]] [] = some ⟨[.pv (.c (.sl (bytes (bkT (⟨bvw, bht, bpa, ⟨bjvw, bjht, bjbl, bjvs⟩, btxs, bsig⟩ : Blk)))))], []⟩ := by
  exact mkC_at (α := Blk) ⟨bvw, bht, bpa, ⟨bjvw, bjht, bjbl, bjvs⟩, btxs, bsig⟩ g0 (by
    rintro b' _ h ho
    have hh := And.intro h ho
    clear h ho
    simp only [List.cons.injEq, AV.c.injEq, AV.agg.injEq, PC.int.injEq, PC.str.injEq, PC.bool.injEq, PC.sl.injEq, OV.c.injEq, OV.own.injEq, OV.mp.injEq, bytes_iff, texts_iff, true_and, and_true, and_self, beq_self_eq_true, Blk.av_iff] at hh
    simp only [hh])
noncomputable def bkNC : Contract := mkC (α := Blk) (fun p => p.txs.length ≤ 9223372036854775807) (fun p => [p.av]) (fun p => []) (fun p => ⟨[.pv (.c (.str (nameS p)))], []⟩)
theorem bkN_at (bvw : Int) (bht : Int) (bpa : List UInt8) (bjvw : Int) (bjht : Int) (bjbl : List UInt8) (bjvs : List Vt) (btxs : List Txn) (bsig : List UInt8) (g0 : btxs.length ≤ 9223372036854775807) : bkNC [.agg [.c (.int .i64 bvw), .c (.int .i64 bht), .c (.str bpa), .c (.int .i64 bjvw), .c (.int .i64 bjht), .c (.str bjbl), .c (.sl (votes bjvs)), .c (.sl (trows btxs)), .c (.str bsig)]] [] = some ⟨[.pv (.c (.str (nameS (⟨bvw, bht, bpa, ⟨bjvw, bjht, bjbl, bjvs⟩, btxs, bsig⟩ : Blk))))], []⟩ := by
  exact mkC_at (α := Blk) ⟨bvw, bht, bpa, ⟨bjvw, bjht, bjbl, bjvs⟩, btxs, bsig⟩ g0 (by
    rintro b' _ h ho
    have hh := And.intro h ho
    clear h ho
    simp only [List.cons.injEq, AV.c.injEq, AV.agg.injEq, PC.int.injEq, PC.str.injEq, PC.bool.injEq, PC.sl.injEq, OV.c.injEq, OV.own.injEq, OV.mp.injEq, bytes_iff, texts_iff, true_and, and_true, and_self, beq_self_eq_true, Blk.av_iff] at hh
    simp only [hh])


variable {Γ : FuncId → Contract}


set_option maxRecDepth 100000 in
set_option maxHeartbeats 4000000 in
theorem bkT_sound (hΓ : SoundG Tryz.prog Γ) (h1 : Γ 45 = bkCkC) (h2 : Γ 13 = newC) (h3 : Γ 51 = bkTxC) (h4 : Γ 15 = doneC) : SoundC Tryz.prog 56 bkTC := by
  refine sound_fn Tryz.func56 (by kernel_rfl) rfl rfl ?_
  intro args objs r0 hr
  obtain ⟨⟨vw, ht, pa, ⟨jv, jh, jb, js⟩, txs, sig⟩, hl, rfl, rfl, rfl⟩ := mkC_inv hr
  refine ⟨rfl, by show 1 ≤ _; decide, fun E hN hns hF => ?_⟩
  refine vc_sound hΓ mixed _ _ _ ?_
  have hN := hN.trans nt_56
  have hl : txs.length ≤ 9223372036854775807 := hl
  unfold Blk.av
  dsimp only
  have q1 := bkCk_at ⟨vw, ht, pa, ⟨jv, jh, jb, js⟩, txs, sig⟩ hl
  dsimp only at q1
  have b0 : ((0 : Int) != 0) = false := rfl
  have b9 : ((9 : Int) != 0) = true := rfl
  by_cases hk : okB ⟨vw, ht, pa, ⟨jv, jh, jb, js⟩, txs, sig⟩
  case neg =>
    have hS : bkT ⟨vw, ht, pa, ⟨jv, jh, jb, js⟩, txs, sig⟩ = [] := if_neg hk
    rw [show bkS ⟨vw, ht, pa, ⟨jv, jh, jb, js⟩, txs, sig⟩ = 9 from if_neg hk] at q1
    rw [hS]
    simp only [runA, runB, runC, runD, runE, runF, fieldE, storeE, binE, ↓reduceIte, Nat.reduceLT, Nat.reduceLeDiff, Nat.reduceEqDiff, Nat.reduceAdd, Nat.reduceMul, Nat.reduceSub, reduceCtorEq, putAt, unE, Nat.reduceBEq, convE, buildE, List.replicate, Int.reduceLT, Int.reduceLE, Int.reduceToNat, mkE, mapSetE, hN, hF, ty_3, ty_5, ty_9, ty_22, ty_31, ty_33, ty_37, ty_44, ty_47, notIf, isEq, h1, q1, b9]
    simp only [runB, finC, finD, Option.isSome_some, Option.isSome_none, ↓reduceIte, Nat.reduceEqDiff, Nat.reduceAdd, Nat.reduceMul, forall_eq_or_imp, forall_eq, implies_true, Nat.reduceBEq, reduceCtorEq, false_implies, List.zip_cons_cons, List.zip_nil_left, List.zip_nil_right, Nat.reduceLeDiff, List.forall_mem_nil, rs_56, ty_3, ty_5, ty_9, ty_22, ty_31, ty_33, ty_37, ty_44, ty_47, bytes, List.map_nil]
  have hS : bkT ⟨vw, ht, pa, ⟨jv, jh, jb, js⟩, txs, sig⟩ = (doneR (bkF ⟨[], 0⟩ ⟨vw, ht, pa, ⟨jv, jh, jb, js⟩, txs, sig⟩)).1 := if_pos hk
  rw [show bkS ⟨vw, ht, pa, ⟨jv, jh, jb, js⟩, txs, sig⟩ = 0 from if_pos hk] at q1
  have hk2 := hk
  obtain ⟨_, _, a5, _, _, _, a10, _, _⟩ := hk2
  simp only at a5 a10
  have q2 := bkTx_at ⟨[], 0⟩ vw ht pa jv jh jb js txs sig (by simp) (by omega) (by omega) (okB_okS hk)
  have q3 := done_atw (bkF ⟨[], 0⟩ ⟨vw, ht, pa, ⟨jv, jh, jb, js⟩, txs, sig⟩)
  rw [hS]
  dsimp only at q2 q3
  generalize bkF ⟨[], 0⟩ ⟨vw, ht, pa, ⟨jv, jh, jb, js⟩, txs, sig⟩ = wf at q2 q3 ⊢
  simp only [runA, runB, runC, runD, runE, runF, fieldE, storeE, binE, ↓reduceIte, Nat.reduceLT, Nat.reduceLeDiff, Nat.reduceEqDiff, Nat.reduceAdd, Nat.reduceMul, Nat.reduceSub, reduceCtorEq, putAt, unE, Nat.reduceBEq, convE, buildE, List.replicate, Int.reduceLT, Int.reduceLE, Int.reduceToNat, mkE, mapSetE, hN, hF, ty_3, ty_5, ty_9, ty_22, ty_31, ty_33, ty_37, ty_44, ty_47, notIf, isEq, h1, q1, b0, h2, newC, h3, q2, h4, q3, bytes_length]
  simp only [runB, finC, finD, Option.isSome_some, Option.isSome_none, ↓reduceIte, Nat.reduceEqDiff, Nat.reduceAdd, Nat.reduceMul, forall_eq_or_imp, forall_eq, implies_true, Nat.reduceBEq, reduceCtorEq, false_implies, List.zip_cons_cons, List.zip_nil_left, List.zip_nil_right, Nat.reduceLeDiff, List.forall_mem_nil, rs_56, ty_3, ty_5, ty_9, ty_22, ty_31, ty_33, ty_37, ty_44, ty_47]

set_option maxRecDepth 100000 in
set_option maxHeartbeats 4000000 in
theorem rBkT_sound (hΓ : SoundG Tryz.prog Γ) (h1 : Γ 57 = bkCkC) (h2 : Γ 111 = rBkFC) (h3 : Γ 110 = rDoneC) : SoundC Tryz.prog 59 bkTC := by
  refine sound_fn Tryz.func59 (by kernel_rfl) rfl rfl ?_
  intro args objs r0 hr
  obtain ⟨⟨vw, ht, pa, ⟨jv, jh, jb, js⟩, txs, sig⟩, hl, rfl, rfl, rfl⟩ := mkC_inv hr
  refine ⟨rfl, by show 1 ≤ _; decide, fun E hN hns hF => ?_⟩
  refine vc_sound hΓ mixed _ _ _ ?_
  have hN := hN.trans nt_59
  have hl : txs.length ≤ 9223372036854775807 := hl
  unfold Blk.av
  dsimp only
  have q1 := bkCk_at ⟨vw, ht, pa, ⟨jv, jh, jb, js⟩, txs, sig⟩ hl
  dsimp only at q1
  have b0 : ((0 : Int) != 0) = false := rfl
  have b9 : ((9 : Int) != 0) = true := rfl
  by_cases hk : okB ⟨vw, ht, pa, ⟨jv, jh, jb, js⟩, txs, sig⟩
  case neg =>
    have hS : bkT ⟨vw, ht, pa, ⟨jv, jh, jb, js⟩, txs, sig⟩ = [] := if_neg hk
    rw [show bkS ⟨vw, ht, pa, ⟨jv, jh, jb, js⟩, txs, sig⟩ = 9 from if_neg hk] at q1
    rw [hS]
    simp only [runA, runB, runC, runD, runE, runF, fieldE, storeE, binE, ↓reduceIte, Nat.reduceLT, Nat.reduceLeDiff, Nat.reduceEqDiff, Nat.reduceAdd, Nat.reduceMul, Nat.reduceSub, reduceCtorEq, putAt, unE, Nat.reduceBEq, convE, buildE, List.replicate, Int.reduceLT, Int.reduceLE, Int.reduceToNat, mkE, mapSetE, hN, hF, ty_3, ty_5, ty_9, ty_22, ty_31, ty_33, ty_47, ty_170, notIf, isEq, h1, q1, b9]
    simp only [runB, finC, finD, Option.isSome_some, Option.isSome_none, ↓reduceIte, Nat.reduceEqDiff, Nat.reduceAdd, Nat.reduceMul, forall_eq_or_imp, forall_eq, implies_true, Nat.reduceBEq, reduceCtorEq, false_implies, List.zip_cons_cons, List.zip_nil_left, List.zip_nil_right, Nat.reduceLeDiff, List.forall_mem_nil, rs_59, ty_3, ty_5, ty_9, ty_22, ty_31, ty_33, ty_47, ty_170, bytes, List.map_nil]
  have hS : bkT ⟨vw, ht, pa, ⟨jv, jh, jb, js⟩, txs, sig⟩ = (doneR (bkF ⟨[], 0⟩ ⟨vw, ht, pa, ⟨jv, jh, jb, js⟩, txs, sig⟩)).1 := if_pos hk
  rw [show bkS ⟨vw, ht, pa, ⟨jv, jh, jb, js⟩, txs, sig⟩ = 0 from if_pos hk] at q1
  have hk2 := hk
  obtain ⟨_, _, a5, _, _, _, a10, _, _⟩ := hk2
  simp only at a5 a10
  have q2 := rBkF_at ⟨[], 0⟩ vw ht pa jv jh jb js txs sig (by simp) (by omega) (by omega) (okB_okS hk)
  have q3 := rDone_at (bkF ⟨[], 0⟩ ⟨vw, ht, pa, ⟨jv, jh, jb, js⟩, txs, sig⟩)
  rw [hS]
  dsimp only at q2 q3
  rw [show bytes [] = [] from rfl] at q2
  generalize bkF ⟨[], 0⟩ ⟨vw, ht, pa, ⟨jv, jh, jb, js⟩, txs, sig⟩ = wf at q2 q3 ⊢
  simp only [runA, runB, runC, runD, runE, runF, fieldE, storeE, binE, ↓reduceIte, Nat.reduceLT, Nat.reduceLeDiff, Nat.reduceEqDiff, Nat.reduceAdd, Nat.reduceMul, Nat.reduceSub, reduceCtorEq, putAt, unE, Nat.reduceBEq, convE, buildE, List.replicate, Int.reduceLT, Int.reduceLE, Int.reduceToNat, mkE, mapSetE, hN, hF, ty_3, ty_5, ty_9, ty_22, ty_31, ty_33, ty_47, ty_170, notIf, isEq, h1, q1, b0, h2, q2, h3, q3, bytes_length]
  simp only [runB, finC, finD, Option.isSome_some, Option.isSome_none, ↓reduceIte, Nat.reduceEqDiff, Nat.reduceAdd, Nat.reduceMul, forall_eq_or_imp, forall_eq, implies_true, Nat.reduceBEq, reduceCtorEq, false_implies, List.zip_cons_cons, List.zip_nil_left, List.zip_nil_right, Nat.reduceLeDiff, List.forall_mem_nil, rs_59, ty_3, ty_5, ty_9, ty_22, ty_31, ty_33, ty_47, ty_170]

set_option maxRecDepth 100000 in
set_option maxHeartbeats 4000000 in
theorem bkN_sound (hΓ : SoundG Tryz.prog Γ) (h1 : Γ 45 = bkCkC) (h2 : Γ 56 = bkTC) (h3 : Γ 55 = longC) : SoundC Tryz.prog 16 bkNC := by
  refine sound_fn Tryz.func16 (by kernel_rfl) rfl rfl ?_
  intro args objs r0 hr
  obtain ⟨⟨vw, ht, pa, ⟨jv, jh, jb, js⟩, txs, sig⟩, hl, rfl, rfl, rfl⟩ := mkC_inv hr
  refine ⟨rfl, by show 1 ≤ _; decide, fun E hN hns hF => ?_⟩
  refine vc_sound hΓ mixed _ _ _ ?_
  have hN := hN.trans nt_16
  have hl : txs.length ≤ 9223372036854775807 := hl
  unfold Blk.av
  dsimp only
  have q1 := bkCk_at ⟨vw, ht, pa, ⟨jv, jh, jb, js⟩, txs, sig⟩ hl
  dsimp only at q1
  have b0 : ((0 : Int) != 0) = false := rfl
  have b9 : ((9 : Int) != 0) = true := rfl
  by_cases hk : okB ⟨vw, ht, pa, ⟨jv, jh, jb, js⟩, txs, sig⟩
  case neg =>
    have hS : nameS ⟨vw, ht, pa, ⟨jv, jh, jb, js⟩, txs, sig⟩ = [] := if_neg hk
    rw [show bkS ⟨vw, ht, pa, ⟨jv, jh, jb, js⟩, txs, sig⟩ = 9 from if_neg hk] at q1
    rw [hS]
    simp only [runA, runB, runC, runD, runE, runF, fieldE, storeE, binE, ↓reduceIte, Nat.reduceLT, Nat.reduceLeDiff, Nat.reduceEqDiff, Nat.reduceAdd, Nat.reduceMul, Nat.reduceSub, reduceCtorEq, putAt, unE, Nat.reduceBEq, convE, buildE, List.replicate, Int.reduceLT, Int.reduceLE, Int.reduceToNat, mkE, mapSetE, hN, hF, ty_3, ty_9, ty_22, ty_31, ty_33, ty_37, ty_47, ty_159, notIf, isEq, h1, q1, b9]
    simp only [runB, finC, finD, Option.isSome_some, Option.isSome_none, ↓reduceIte, Nat.reduceEqDiff, Nat.reduceAdd, Nat.reduceMul, forall_eq_or_imp, forall_eq, implies_true, Nat.reduceBEq, reduceCtorEq, false_implies, List.zip_cons_cons, List.zip_nil_left, List.zip_nil_right, Nat.reduceLeDiff, List.forall_mem_nil, rs_16, ty_3, ty_9, ty_22, ty_31, ty_33, ty_37, ty_47, ty_159]
  have hS : nameS ⟨vw, ht, pa, ⟨jv, jh, jb, js⟩, txs, sig⟩ = shaS (bkT ⟨vw, ht, pa, ⟨jv, jh, jb, js⟩, txs, sig⟩) := if_pos hk
  rw [show bkS ⟨vw, ht, pa, ⟨jv, jh, jb, js⟩, txs, sig⟩ = 0 from if_pos hk] at q1
  have q2 := bkT_at vw ht pa jv jh jb js txs sig hl
  have hb := bkT_len ⟨vw, ht, pa, ⟨jv, jh, jb, js⟩, txs, sig⟩
  have q3 := long_at [bkT ⟨vw, ht, pa, ⟨jv, jh, jb, js⟩, txs, sig⟩] (by refine ⟨?_, ?_⟩ <;> simp <;> omega)
  rw [hS]
  generalize bkT ⟨vw, ht, pa, ⟨jv, jh, jb, js⟩, txs, sig⟩ = bt at q2 q3 hb ⊢
  simp only [slices, List.map_cons, List.map_nil, List.flatten_cons, List.flatten_nil, List.append_nil] at q3
  simp only [runA, runB, runC, runD, runE, runF, fieldE, storeE, binE, ↓reduceIte, Nat.reduceLT, Nat.reduceLeDiff, Nat.reduceEqDiff, Nat.reduceAdd, Nat.reduceMul, Nat.reduceSub, reduceCtorEq, putAt, unE, Nat.reduceBEq, convE, buildE, List.replicate, Int.reduceLT, Int.reduceLE, Int.reduceToNat, mkE, mapSetE, hN, hF, ty_3, ty_9, ty_22, ty_31, ty_33, ty_37, ty_47, ty_159, notIf, isEq, h1, q1, b0, h2, q2, h3, q3, bytes_length]
  simp only [runB, finC, finD, Option.isSome_some, Option.isSome_none, ↓reduceIte, Nat.reduceEqDiff, Nat.reduceAdd, Nat.reduceMul, forall_eq_or_imp, forall_eq, implies_true, Nat.reduceBEq, reduceCtorEq, false_implies, List.zip_cons_cons, List.zip_nil_left, List.zip_nil_right, Nat.reduceLeDiff, List.forall_mem_nil, rs_16, ty_3, ty_9, ty_22, ty_31, ty_33, ty_37, ty_47, ty_159]

set_option maxRecDepth 100000 in
set_option maxHeartbeats 4000000 in
theorem rBkN_sound (hΓ : SoundG Tryz.prog Γ) (h1 : Γ 57 = bkCkC) (h2 : Γ 59 = bkTC) (h3 : Γ 58 = sumC) : SoundC Tryz.prog 17 bkNC := by
  refine sound_fn Tryz.func17 (by kernel_rfl) rfl rfl ?_
  intro args objs r0 hr
  obtain ⟨⟨vw, ht, pa, ⟨jv, jh, jb, js⟩, txs, sig⟩, hl, rfl, rfl, rfl⟩ := mkC_inv hr
  refine ⟨rfl, by show 1 ≤ _; decide, fun E hN hns hF => ?_⟩
  refine vc_sound hΓ mixed _ _ _ ?_
  have hN := hN.trans nt_17
  have hl : txs.length ≤ 9223372036854775807 := hl
  unfold Blk.av
  dsimp only
  have q1 := bkCk_at ⟨vw, ht, pa, ⟨jv, jh, jb, js⟩, txs, sig⟩ hl
  dsimp only at q1
  have b0 : ((0 : Int) != 0) = false := rfl
  have b9 : ((9 : Int) != 0) = true := rfl
  by_cases hk : okB ⟨vw, ht, pa, ⟨jv, jh, jb, js⟩, txs, sig⟩
  case neg =>
    have hS : nameS ⟨vw, ht, pa, ⟨jv, jh, jb, js⟩, txs, sig⟩ = [] := if_neg hk
    rw [show bkS ⟨vw, ht, pa, ⟨jv, jh, jb, js⟩, txs, sig⟩ = 9 from if_neg hk] at q1
    rw [hS]
    simp only [runA, runB, runC, runD, runE, runF, fieldE, storeE, binE, ↓reduceIte, Nat.reduceLT, Nat.reduceLeDiff, Nat.reduceEqDiff, Nat.reduceAdd, Nat.reduceMul, Nat.reduceSub, reduceCtorEq, putAt, unE, Nat.reduceBEq, convE, buildE, List.replicate, Int.reduceLT, Int.reduceLE, Int.reduceToNat, mkE, mapSetE, hN, hF, ty_3, ty_5, ty_9, ty_22, ty_31, ty_33, ty_47, notIf, isEq, h1, q1, b9]
    simp only [runB, finC, finD, Option.isSome_some, Option.isSome_none, ↓reduceIte, Nat.reduceEqDiff, Nat.reduceAdd, Nat.reduceMul, forall_eq_or_imp, forall_eq, implies_true, Nat.reduceBEq, reduceCtorEq, false_implies, List.zip_cons_cons, List.zip_nil_left, List.zip_nil_right, Nat.reduceLeDiff, List.forall_mem_nil, rs_17, ty_3, ty_5, ty_9, ty_22, ty_31, ty_33, ty_47]
  have hS : nameS ⟨vw, ht, pa, ⟨jv, jh, jb, js⟩, txs, sig⟩ = shaS (bkT ⟨vw, ht, pa, ⟨jv, jh, jb, js⟩, txs, sig⟩) := if_pos hk
  rw [show bkS ⟨vw, ht, pa, ⟨jv, jh, jb, js⟩, txs, sig⟩ = 0 from if_pos hk] at q1
  have q2 := bkT_at vw ht pa jv jh jb js txs sig hl
  have hb := bkT_len ⟨vw, ht, pa, ⟨jv, jh, jb, js⟩, txs, sig⟩
  have q3 := sum_at (bkT ⟨vw, ht, pa, ⟨jv, jh, jb, js⟩, txs, sig⟩) (by omega)
  rw [hS]
  generalize bkT ⟨vw, ht, pa, ⟨jv, jh, jb, js⟩, txs, sig⟩ = bt at q2 q3 hb ⊢
  simp only [runA, runB, runC, runD, runE, runF, fieldE, storeE, binE, ↓reduceIte, Nat.reduceLT, Nat.reduceLeDiff, Nat.reduceEqDiff, Nat.reduceAdd, Nat.reduceMul, Nat.reduceSub, reduceCtorEq, putAt, unE, Nat.reduceBEq, convE, buildE, List.replicate, Int.reduceLT, Int.reduceLE, Int.reduceToNat, mkE, mapSetE, hN, hF, ty_3, ty_5, ty_9, ty_22, ty_31, ty_33, ty_47, notIf, isEq, h1, q1, b0, h2, q2, h3, q3, bytes_length, bytesOf_bytes]
  simp only [runB, finC, finD, Option.isSome_some, Option.isSome_none, ↓reduceIte, Nat.reduceEqDiff, Nat.reduceAdd, Nat.reduceMul, forall_eq_or_imp, forall_eq, implies_true, Nat.reduceBEq, reduceCtorEq, false_implies, List.zip_cons_cons, List.zip_nil_left, List.zip_nil_right, Nat.reduceLeDiff, List.forall_mem_nil, rs_17, ty_3, ty_5, ty_9, ty_22, ty_31, ty_33, ty_47]


theorem laid : laidOutB Tryz.prog = true := by kernel_rfl
theorem ownK : ownKnob Tryz.prog.godebug = none := by kernel_rfl

noncomputable def M1 : FuncId → Contract := ext (ext (ext (ext (ext (ext none0 95 putC) 205 growC) 218 rotC) 202 wordC) 157 wordsC) 154 kC
noncomputable def M2 : FuncId → Contract := ext (ext (ext M1 153 hC) 158 concatC) 204 rightC
set_option maxRecDepth 100000 in
theorem int_cellN {N n : Nat} {c : PC} (h : PTn Tryz.prog N n 3 [c]) : ∃ v : Int, c = .int .i64 v := by
  have u3 : Tryz.prog.underlying 3 = some (.int .i64) := by kernel_rfl
  cases n with
  | zero => exact h.elim
  | succ n =>
    simp only [PTn, u3] at h
    obtain ⟨v, hv, _⟩ := h
    cases hv
    exact ⟨v, rfl⟩
set_option maxRecDepth 100000 in
theorem str_cellN {N n : Nat} {c : PC} (h : PTn Tryz.prog N n 9 [c]) : ∃ s : List UInt8, c = .str s ∧ s.length ≤ N := by
  have u3 : Tryz.prog.underlying 9 = some .string := by kernel_rfl
  cases n with
  | zero => exact h.elim
  | succ n =>
    simp only [PTn, u3] at h
    obtain ⟨v, hv, hl⟩ := h
    cases hv
    exact ⟨v, rfl, hl⟩
set_option maxRecDepth 100000 in
theorem tx_cells {N n : Nat} {cs : List PC} (hp : PTn Tryz.prog N n 36 cs) : ∃ t : Txn, cs = t.pcs ∧ t.sig.length ≤ N := by
  obtain ⟨fs0, f0, h01, h02, h03, h04, h05⟩ := tyField_run fd_36_0
  obtain ⟨fs1, f1, h11, h12, h13, h14, h15⟩ := tyField_run fd_36_1
  obtain ⟨fs2, f2, h21, h22, h23, h24, h25⟩ := tyField_run fd_36_2
  obtain ⟨fs3, f3, h31, h32, h33, h34, h35⟩ := tyField_run fd_36_3
  obtain ⟨fs4, f4, h41, h42, h43, h44, h45⟩ := tyField_run fd_36_4
  rw [h01] at h11 h21 h31 h41
  cases h11
  cases h21
  cases h31
  cases h41
  have hct : Tryz.prog.cellsOf 36 = 5 := by kernel_rfl
  have hk0 : Tryz.prog.cellsOf 3 = 1 := by kernel_rfl
  have hk1 : Tryz.prog.cellsOf 9 = 1 := by kernel_rfl
  cases n with
  | zero => exact hp.elim
  | succ n =>
    simp only [PTn, h01, hct] at hp
    obtain ⟨hl, hf⟩ := hp
    have q0 := hf f0 (List.mem_of_getElem? (i := 0) (by simpa using h02))
    rw [h03, h04, hk0] at q0
    have q1 := hf f1 (List.mem_of_getElem? (i := 1) (by simpa using h12))
    rw [h13, h14, hk0] at q1
    have q2 := hf f2 (List.mem_of_getElem? (i := 2) (by simpa using h22))
    rw [h23, h24, hk0] at q2
    have q3 := hf f3 (List.mem_of_getElem? (i := 3) (by simpa using h32))
    rw [h33, h34, hk0] at q3
    have q4 := hf f4 (List.mem_of_getElem? (i := 4) (by simpa using h42))
    rw [h43, h44, hk1] at q4
    match cs, hl with
    | [c0, c1, c2, c3, c4], _ =>
      obtain ⟨a, rfl⟩ := int_cellN (c := c0) q0
      obtain ⟨b, rfl⟩ := int_cellN (c := c1) q1
      obtain ⟨c, rfl⟩ := int_cellN (c := c2) q2
      obtain ⟨d, rfl⟩ := int_cellN (c := c3) q3
      obtain ⟨s, rfl, hs⟩ := str_cellN (c := c4) q4
      exact ⟨⟨a, b, c, d, s⟩, rfl, hs⟩
set_option maxRecDepth 100000 in
theorem vo_cells {N n : Nat} {cs : List PC} (hp : PTn Tryz.prog N n 97 cs) : ∃ t : Vt, cs = t.pcs ∧ t.sig.length ≤ N := by
  obtain ⟨fs0, f0, h01, h02, h03, h04, h05⟩ := tyField_run fd_97_0
  obtain ⟨fs1, f1, h11, h12, h13, h14, h15⟩ := tyField_run fd_97_1
  obtain ⟨fs2, f2, h21, h22, h23, h24, h25⟩ := tyField_run fd_97_2
  obtain ⟨fs3, f3, h31, h32, h33, h34, h35⟩ := tyField_run fd_97_3
  obtain ⟨fs4, f4, h41, h42, h43, h44, h45⟩ := tyField_run fd_97_4
  obtain ⟨fs5, f5, h51, h52, h53, h54, h55⟩ := tyField_run fd_97_5
  obtain ⟨fs6, f6, h61, h62, h63, h64, h65⟩ := tyField_run fd_97_6
  rw [h01] at h11 h21 h31 h41 h51 h61
  cases h11
  cases h21
  cases h31
  cases h41
  cases h51
  cases h61
  have hct : Tryz.prog.cellsOf 97 = 7 := by kernel_rfl
  have hk0 : Tryz.prog.cellsOf 3 = 1 := by kernel_rfl
  have hk1 : Tryz.prog.cellsOf 9 = 1 := by kernel_rfl
  cases n with
  | zero => exact hp.elim
  | succ n =>
    simp only [PTn, h01, hct] at hp
    obtain ⟨hl, hf⟩ := hp
    have q0 := hf f0 (List.mem_of_getElem? (i := 0) (by simpa using h02))
    rw [h03, h04, hk0] at q0
    have q1 := hf f1 (List.mem_of_getElem? (i := 1) (by simpa using h12))
    rw [h13, h14, hk0] at q1
    have q2 := hf f2 (List.mem_of_getElem? (i := 2) (by simpa using h22))
    rw [h23, h24, hk0] at q2
    have q3 := hf f3 (List.mem_of_getElem? (i := 3) (by simpa using h32))
    rw [h33, h34, hk1] at q3
    have q4 := hf f4 (List.mem_of_getElem? (i := 4) (by simpa using h42))
    rw [h43, h44, hk0] at q4
    have q5 := hf f5 (List.mem_of_getElem? (i := 5) (by simpa using h52))
    rw [h53, h54, hk0] at q5
    have q6 := hf f6 (List.mem_of_getElem? (i := 6) (by simpa using h62))
    rw [h63, h64, hk1] at q6
    match cs, hl with
    | [c0, c1, c2, c3, c4, c5, c6], _ =>
      obtain ⟨a, rfl⟩ := int_cellN (c := c0) q0
      obtain ⟨b, rfl⟩ := int_cellN (c := c1) q1
      obtain ⟨c, rfl⟩ := int_cellN (c := c2) q2
      obtain ⟨s, rfl, hs⟩ := str_cellN (c := c3) q3
      obtain ⟨d, rfl⟩ := int_cellN (c := c4) q4
      obtain ⟨e, rfl⟩ := int_cellN (c := c5) q5
      obtain ⟨u, rfl, hu⟩ := str_cellN (c := c6) q6
      exact ⟨⟨a, b, c, s, d, e, u⟩, rfl, hu⟩
set_option maxRecDepth 100000 in
theorem txs_cellN {N n : Nat} {c : PC} (hp : PTn Tryz.prog N n 22 [c]) : ∃ l : List Txn, c = .sl (trows l) ∧ l.length ≤ N ∧ ∀ t ∈ l, t.sig.length ≤ N := by
  have u3 : Tryz.prog.underlying 22 = some (.slice 36) := by kernel_rfl
  cases n with
  | zero => exact hp.elim
  | succ n =>
    simp only [PTn, u3] at hp
    obtain ⟨rows, hv, hl, hr⟩ := hp
    cases hv
    have key : ∀ rows : List (List PC), (∀ r ∈ rows, PTn Tryz.prog N n 36 r) → ∃ l : List Txn, rows = trows l ∧ ∀ t ∈ l, t.sig.length ≤ N := by
      intro rows
      induction rows with
      | nil => intro _; exact ⟨[], rfl, by simp⟩
      | cons r rows ih =>
        intro h
        obtain ⟨l, hl1, hl2⟩ := ih fun r hr => h r (by simp [hr])
        obtain ⟨t, rfl, ht⟩ := tx_cells (h r (by simp))
        refine ⟨t :: l, by rw [hl1]; rfl, fun x hx => ?_⟩
        rcases List.mem_cons.1 hx with rfl | hx
        · exact ht
        · exact hl2 x hx
    obtain ⟨l, rfl, h2⟩ := key rows hr
    exact ⟨l, rfl, by rw [trows_length] at hl; exact hl, h2⟩
set_option maxRecDepth 100000 in
theorem vos_cellN {N n : Nat} {c : PC} (hp : PTn Tryz.prog N n 29 [c]) : ∃ l : List Vt, c = .sl (votes l) ∧ l.length ≤ N ∧ ∀ t ∈ l, t.sig.length ≤ N := by
  have u3 : Tryz.prog.underlying 29 = some (.slice 97) := by kernel_rfl
  cases n with
  | zero => exact hp.elim
  | succ n =>
    simp only [PTn, u3] at hp
    obtain ⟨rows, hv, hl, hr⟩ := hp
    cases hv
    have key : ∀ rows : List (List PC), (∀ r ∈ rows, PTn Tryz.prog N n 97 r) → ∃ l : List Vt, rows = votes l ∧ ∀ t ∈ l, t.sig.length ≤ N := by
      intro rows
      induction rows with
      | nil => intro _; exact ⟨[], rfl, by simp⟩
      | cons r rows ih =>
        intro h
        obtain ⟨l, hl1, hl2⟩ := ih fun r hr => h r (by simp [hr])
        obtain ⟨t, rfl, ht⟩ := vo_cells (h r (by simp))
        refine ⟨t :: l, by rw [hl1]; rfl, fun x hx => ?_⟩
        rcases List.mem_cons.1 hx with rfl | hx
        · exact ht
        · exact hl2 x hx
    obtain ⟨l, rfl, h2⟩ := key rows hr
    exact ⟨l, rfl, by rw [votes_length] at hl; exact hl, h2⟩
set_option maxRecDepth 100000 in
theorem ct_cells {N n : Nat} {cs : List PC} (hp : PTn Tryz.prog N n 31 cs) : ∃ t : Ct, cs = t.pcs ∧ t.vs.length ≤ N ∧ ∀ x ∈ t.vs, x.sig.length ≤ N := by
  obtain ⟨fs0, f0, h01, h02, h03, h04, h05⟩ := tyField_run fd_31_0
  obtain ⟨fs1, f1, h11, h12, h13, h14, h15⟩ := tyField_run fd_31_1
  obtain ⟨fs2, f2, h21, h22, h23, h24, h25⟩ := tyField_run fd_31_2
  obtain ⟨fs3, f3, h31, h32, h33, h34, h35⟩ := tyField_run fd_31_3
  rw [h01] at h11 h21 h31
  cases h11
  cases h21
  cases h31
  have hct : Tryz.prog.cellsOf 31 = 4 := by kernel_rfl
  have hk0 : Tryz.prog.cellsOf 3 = 1 := by kernel_rfl
  have hk1 : Tryz.prog.cellsOf 9 = 1 := by kernel_rfl
  have hk2 : Tryz.prog.cellsOf 29 = 1 := by kernel_rfl
  cases n with
  | zero => exact hp.elim
  | succ n =>
    simp only [PTn, h01, hct] at hp
    obtain ⟨hl, hf⟩ := hp
    have q0 := hf f0 (List.mem_of_getElem? (i := 0) (by simpa using h02))
    rw [h03, h04, hk0] at q0
    have q1 := hf f1 (List.mem_of_getElem? (i := 1) (by simpa using h12))
    rw [h13, h14, hk0] at q1
    have q2 := hf f2 (List.mem_of_getElem? (i := 2) (by simpa using h22))
    rw [h23, h24, hk1] at q2
    have q3 := hf f3 (List.mem_of_getElem? (i := 3) (by simpa using h32))
    rw [h33, h34, hk2] at q3
    match cs, hl with
    | [c0, c1, c2, c3], _ =>
      obtain ⟨a, rfl⟩ := int_cellN (c := c0) q0
      obtain ⟨b, rfl⟩ := int_cellN (c := c1) q1
      obtain ⟨s, rfl, hs⟩ := str_cellN (c := c2) q2
      obtain ⟨l, rfl, hl, hm⟩ := vos_cellN (c := c3) q3
      exact ⟨⟨a, b, s, l⟩, rfl, hl, hm⟩
set_option maxRecDepth 100000 in
theorem bk_cells {N n : Nat} {cs : List PC} (hp : PTn Tryz.prog N n 33 cs) : ∃ t : Blk, cs = t.pcs ∧ t.txs.length ≤ N ∧ t.ju.vs.length ≤ N ∧ t.sig.length ≤ N ∧ ∀ x ∈ t.txs, x.sig.length ≤ N := by
  obtain ⟨fs0, f0, h01, h02, h03, h04, h05⟩ := tyField_run fd_33_0
  obtain ⟨fs1, f1, h11, h12, h13, h14, h15⟩ := tyField_run fd_33_1
  obtain ⟨fs2, f2, h21, h22, h23, h24, h25⟩ := tyField_run fd_33_2
  obtain ⟨fs3, f3, h31, h32, h33, h34, h35⟩ := tyField_run fd_33_3
  obtain ⟨fs4, f4, h41, h42, h43, h44, h45⟩ := tyField_run fd_33_4
  obtain ⟨fs5, f5, h51, h52, h53, h54, h55⟩ := tyField_run fd_33_5
  rw [h01] at h11 h21 h31 h41 h51
  cases h11
  cases h21
  cases h31
  cases h41
  cases h51
  have hct : Tryz.prog.cellsOf 33 = 9 := by kernel_rfl
  have hk0 : Tryz.prog.cellsOf 3 = 1 := by kernel_rfl
  have hk1 : Tryz.prog.cellsOf 9 = 1 := by kernel_rfl
  have hk2 : Tryz.prog.cellsOf 31 = 4 := by kernel_rfl
  have hk3 : Tryz.prog.cellsOf 22 = 1 := by kernel_rfl
  cases n with
  | zero => exact hp.elim
  | succ n =>
    simp only [PTn, h01, hct] at hp
    obtain ⟨hl, hf⟩ := hp
    have q0 := hf f0 (List.mem_of_getElem? (i := 0) (by simpa using h02))
    rw [h03, h04, hk0] at q0
    have q1 := hf f1 (List.mem_of_getElem? (i := 1) (by simpa using h12))
    rw [h13, h14, hk0] at q1
    have q2 := hf f2 (List.mem_of_getElem? (i := 2) (by simpa using h22))
    rw [h23, h24, hk1] at q2
    have q3 := hf f3 (List.mem_of_getElem? (i := 3) (by simpa using h32))
    rw [h33, h34, hk2] at q3
    have q4 := hf f4 (List.mem_of_getElem? (i := 4) (by simpa using h42))
    rw [h43, h44, hk3] at q4
    have q5 := hf f5 (List.mem_of_getElem? (i := 5) (by simpa using h52))
    rw [h53, h54, hk1] at q5
    match cs, hl with
    | [c0, c1, c2, c3, c4, c5, c6, c7, c8], _ =>
      obtain ⟨a, rfl⟩ := int_cellN (c := c0) q0
      obtain ⟨b, rfl⟩ := int_cellN (c := c1) q1
      obtain ⟨p, rfl, hp1⟩ := str_cellN (c := c2) q2
      obtain ⟨j, hj, hj1, hj2⟩ := ct_cells (cs := [c3, c4, c5, c6]) q3
      obtain ⟨l, rfl, hl2, hm⟩ := txs_cellN (c := c7) q4
      obtain ⟨u, rfl, hu⟩ := str_cellN (c := c8) q5
      exact ⟨⟨a, b, p, j, l, u⟩, by obtain ⟨j1, j2, j3, j4⟩ := j; simp only [Ct.pcs, List.cons.injEq, and_true] at hj; obtain ⟨rfl, rfl, rfl, rfl⟩ := hj; rfl, hl2, hj1, hu, hm⟩
end Go.Proofs.YtenmlgalcjkdbaaGreat.AM
