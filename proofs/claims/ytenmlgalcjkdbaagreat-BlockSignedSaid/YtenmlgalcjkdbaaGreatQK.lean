/-
  QK: Mg1 Mg2 Mg3.
-/
import Derived.Test.YtenmlgalcjkdbaaGreatQ9
import Derived.Test.YtenmlgalcjkdbaaGreatQG
set_option linter.unusedVariables false
set_option linter.unusedSimpArgs false
namespace Go.Proofs.YtenmlgalcjkdbaaGreat.AM
open Go

variable {Γ : FuncId → Contract}

theorem voF_cap {w : WS} (t : Vt) (h : w.b.length ≤ 20482) : (voF w t).b.length ≤ 20482 := wNum_cap _ (wNum_cap _ (rText_cap _ (wNum_cap _ (wNum_cap _ (wNum_cap _ (rText_cap _ h))))))
def voP (w : WS) (t : Vt) : WS := rText (voF w t) t.sig
theorem voP_cap {w : WS} (t : Vt) (h : w.b.length ≤ 20482) : (voP w t).b.length ≤ 20482 := rText_cap _ (voF_cap t h)
def vosP (w : WS) (l : List Vt) : WS := l.foldl voP w
theorem vosP_cap : ∀ {l : List Vt} {w : WS}, w.b.length ≤ 20482 → (vosP w l).b.length ≤ 20482
  | [], w, h => h
  | t :: l, w, h => vosP_cap (l := l) (voP_cap t h)
theorem vosP_take (w : WS) (l : List Vt) (i : Nat) (h : i < l.length) : vosP w (l.take (i + 1)) = voP (vosP w (l.take i)) (l.getD i zeroV) := by
  have : l.take (i + 1) = l.take i ++ [l.getD i zeroV] := by
    rw [List.take_add_one, List.getElem?_eq_getElem h]; simp [List.getD, h]
  rw [this]
  unfold vosP
  rw [List.foldl_append]
  rfl
/-- Votes' texts are texts. -/
def okW (l : List Vt) : Prop := ∀ t ∈ l, t.bl.length ≤ 9223372036854775807 ∧ t.sig.length ≤ 9223372036854775807
theorem okW_getD {l : List Vt} (h : okW l) {i : Nat} (hi : i < l.length) : (l.getD i zeroV).bl.length ≤ 9223372036854775807 ∧ (l.getD i zeroV).sig.length ≤ 9223372036854775807 := by
  rw [List.getD, List.getElem?_eq_getElem hi]; exact h _ (List.getElem_mem hi)
def ctH (w : WS) (c : Ct) : WS := wNum (rText (wNum (wNum w c.vw) c.ht) c.bl) (c.vs.length : Int)
def ctP (w : WS) (c : Ct) : WS := vosP (ctH w c) c.vs
theorem ctH_cap {w : WS} (c : Ct) (h : w.b.length ≤ 20482) : (ctH w c).b.length ≤ 20482 := wNum_cap _ (rText_cap _ (wNum_cap _ (wNum_cap _ h)))
theorem ctP_cap {w : WS} (c : Ct) (h : w.b.length ≤ 20482) : (ctP w c).b.length ≤ 20482 := vosP_cap (ctH_cap c h)
def bkP (w : WS) (b : Blk) : WS := rText (ctP (bkF w b) b.ju) b.sig
noncomputable def ctPutC : Contract := mkC (α := WS × Ct) (fun p => p.1.b.length ≤ 20482 ∧ p.2.bl.length ≤ 9223372036854775807 ∧ p.2.vs.length ≤ 4294967296 ∧ okW p.2.vs) (fun p => [.ptr 6400000 0, p.2.av]) (fun p => [[.own 1 (bytes p.1.b), .c (.int .i64 p.1.e), .c (.bool true)]]) (fun p => ⟨[], [[.own 1 (bytes (ctP p.1 p.2).b), .c (.int .i64 (ctP p.1 p.2).e), .c (.bool true)]]⟩)
theorem ctPut_at (w : WS) (cvw : Int) (cht : Int) (cbl : List UInt8) (cvs : List Vt) (g0 : w.b.length ≤ 20482) (g1 : cbl.length ≤ 9223372036854775807) (g2 : cvs.length ≤ 4294967296) (g3 : okW cvs) : ctPutC [.ptr 6400000 0, (.agg [.c (.int .i64 cvw), .c (.int .i64 cht), .c (.str cbl), .c (.sl (votes cvs))])] [[.own 1 (bytes w.b), .c (.int .i64 w.e), .c (.bool true)]] = some ⟨[], [[.own 1 (bytes (ctP w (⟨cvw, cht, cbl, cvs⟩ : Ct)).b), .c (.int .i64 (ctP w (⟨cvw, cht, cbl, cvs⟩ : Ct)).e), .c (.bool true)]]⟩ := by
  obtain ⟨wb, we⟩ := w
  exact mkC_at (α := WS × Ct) (⟨wb, we⟩, ⟨cvw, cht, cbl, cvs⟩) ⟨g0, g1, g2, g3⟩ (by
    rintro ⟨⟨w'b, w'e⟩, c'⟩ _ h ho
    have hh := And.intro h ho
    clear h ho
    simp only [List.cons.injEq, AV.c.injEq, AV.agg.injEq, PC.int.injEq, PC.str.injEq, PC.bool.injEq, PC.sl.injEq, OV.c.injEq, OV.own.injEq, OV.mp.injEq, bytes_iff, texts_iff, true_and, and_true, and_self, beq_self_eq_true, Ct.av_iff] at hh
    simp only [hh])

set_option maxRecDepth 100000 in
set_option maxHeartbeats 4000000 in
theorem ctPut_sound (hΓ : SoundG Tryz.prog Γ) (h1 : Γ 101 = numC) (h2 : Γ 53 = textC) (h3 : Γ 103 = voPutC) : SoundC Tryz.prog 52 ctPutC := by
  refine sound_fn Tryz.func52 (by kernel_rfl) rfl rfl ?_
  intro args objs r0 hr
  obtain ⟨⟨w, ⟨cvw, cht, cbl, cvs⟩⟩, ⟨hl, hbl, hvl, hvs⟩, rfl, rfl, rfl⟩ := mkC_inv hr
  refine ⟨rfl, by show 2 ≤ _; decide, fun E hN hns hF => ?_⟩
  refine vc_sound hΓ mixed _ _ _ ?_
  have hN := hN.trans nt_52
  have hl : w.b.length ≤ 20482 := hl
  have hbl : cbl.length ≤ 9223372036854775807 := hbl
  have hvl : cvs.length ≤ 4294967296 := hvl
  have hvs : okW cvs := hvs
  have l1 := wNum_cap cvw hl
  have l2 := wNum_cap cht l1
  have l3 := rText_cap cbl l2
  have l4 := wNum_cap (cvs.length : Int) l3
  have hE : ctP w ⟨cvw, cht, cbl, cvs⟩ = vosP (ctH w ⟨cvw, cht, cbl, cvs⟩) cvs := rfl
  have hH : ctH w ⟨cvw, cht, cbl, cvs⟩ = wNum (rText (wNum (wNum w cvw) cht) cbl) (cvs.length : Int) := rfl
  rw [← hH] at l4
  unfold Ct.av
  dsimp only
  rw [hE]
  have q1 := num_atw w cvw (by omega)
  have q2 := num_atw (wNum w cvw) cht (by omega)
  have q3 := text_atw (wNum (wNum w cvw) cht) cbl (by omega) (by omega)
  have q4 := num_atw (rText (wNum (wNum w cvw) cht) cbl) (cvs.length : Int) (by omega)
  rw [← hH] at q4
  simp only [runA, runB, runC, runD, runE, runF, fieldE, storeE, binE, ↓reduceIte, Nat.reduceLT, Nat.reduceLeDiff, Nat.reduceEqDiff, Nat.reduceAdd, Nat.reduceMul, Nat.reduceSub, reduceCtorEq, putAt, unE, Nat.reduceBEq, convE, buildE, List.replicate, Int.reduceLT, Int.reduceLE, Int.reduceToNat, mkE, mapSetE, hN, hF, ty_3, ty_9, ty_29, ty_31, ty_44, ty_97, notIf, isEq, h1, h2, q1, q2, q3, q4, votes_length, bytes_length]
  generalize ctH w ⟨cvw, cht, cbl, cvs⟩ = w0 at l4 ⊢
  refine AWP.loop (fun k st => ∃ i : Nat, i ≤ cvs.length ∧ k = cvs.length - i ∧ st = ⟨[(0, .ptr 6400000 0), (24, .c (.sl (votes cvs))), (25, .c (.int .i64 (cvs.length : Int))), (26, .c (.int .i64 (i : Int)))],
    [(6400000, .obj [.own 6400001 1 (bytes (vosP w0 (cvs.take i)).b), .c (.int .i64 (vosP w0 (cvs.take i)).e), .c (.bool true)] false), (6400001, .row 1 (vosP w0 (cvs.take i)).b.length)]⟩) ⟨cvs.length, _, ?w, 0, Nat.zero_le _, rfl, rfl⟩ ?r
  case w =>
    rw [hns]
    simp only [runB, finC, finD, AS.get, AS.mem, false_implies, implies_true, ↓reduceIte, Nat.reduceEqDiff, Option.isSome_some, Option.isSome_none, forall_eq_or_imp, forall_eq, reduceCtorEq, Nat.reduceAdd, Nat.reduceMul, List.zip_cons_cons, List.zip_nil_left, List.zip_nil_right, List.forall_mem_nil, List.take_zero, vosP, List.foldl_nil, bytes_length]
    first | done | simp
  case r =>
    rintro k st ⟨i, hi, rfl, rfl⟩
    refine vc_sound hΓ mixed _ _ _ ?_
    have hc := vosP_cap (l := cvs.take i) l4
    by_cases hlt : i < cvs.length
    · have k1 : decide ((i : Int) < (cvs.length : Int)) = true := by simpa using hlt
      have e1 : IntKind.i64.wrap ((i : Int) + 1) = (i : Int) + 1 := wrapI (by omega)
      have hg := votesD cvs i hlt
      obtain ⟨y1, y2⟩ := okW_getD hvs hlt
      have hn : voPutC [.ptr 6400000 0, (cvs.getD i zeroV).av] [[.own 1 (bytes (vosP w0 (cvs.take i)).b), .c (.int .i64 (vosP w0 (cvs.take i)).e), .c (.bool true)]] = _ := voPut_at (vosP w0 (cvs.take i)) (cvs.getD i zeroV).kd (cvs.getD i zeroV).vw (cvs.getD i zeroV).ht (cvs.getD i zeroV).bl (cvs.getD i zeroV).tk (cvs.getD i zeroV).sg (cvs.getD i zeroV).sig (by omega) y1 y2
      rw [show rText (voF (vosP w0 (cvs.take i)) (⟨(cvs.getD i zeroV).kd, (cvs.getD i zeroV).vw, (cvs.getD i zeroV).ht, (cvs.getD i zeroV).bl, (cvs.getD i zeroV).tk, (cvs.getD i zeroV).sg, (cvs.getD i zeroV).sig⟩ : Vt)) (cvs.getD i zeroV).sig = voP (vosP w0 (cvs.take i)) (cvs.getD i zeroV) from rfl, ← vosP_take w0 cvs i hlt] at hn
      unfold Vt.pcs at hg
      unfold Vt.av at hn
      generalize cvs.getD i zeroV = y at hg hn
      generalize vosP w0 (cvs.take i) = wi at hn hc ⊢
      simp only [runA, runB, runC, runD, runE, runF, fieldE, storeE, binE, ↓reduceIte, Nat.reduceLT, Nat.reduceLeDiff, Nat.reduceEqDiff, Nat.reduceAdd, Nat.reduceMul, Nat.reduceSub, reduceCtorEq, putAt, unE, Nat.reduceBEq, convE, buildE, List.replicate, Int.reduceLT, Int.reduceLE, Int.reduceToNat, mkE, mapSetE, hN, hF, ty_3, ty_9, ty_29, ty_31, ty_44, ty_97, notIf, isEq, k1, e1, hg, h3, hn, bytes_length]
      refine ⟨cvs.length - (i + 1), _, by omega, ?_, i + 1, by omega, rfl, rfl⟩
      rw [hns]
      simp only [runB, finC, finD, AS.get, AS.mem, false_implies, implies_true, ↓reduceIte, Nat.reduceEqDiff, Option.isSome_some, Option.isSome_none, forall_eq_or_imp, forall_eq, reduceCtorEq, Nat.reduceAdd, Nat.reduceMul, List.zip_cons_cons, List.zip_nil_left, List.zip_nil_right, List.forall_mem_nil, bytes_length]
      first | done | simp
    · have k1 : decide ((i : Int) < (cvs.length : Int)) = false := by simpa using hlt
      have hil : i = cvs.length := by omega
      have ht : cvs.take i = cvs := by rw [hil, List.take_length]
      rw [ht]
      generalize vosP w0 cvs = w9
      simp only [runA, runB, runC, runD, runE, runF, fieldE, storeE, binE, ↓reduceIte, Nat.reduceLT, Nat.reduceLeDiff, Nat.reduceEqDiff, Nat.reduceAdd, Nat.reduceMul, Nat.reduceSub, reduceCtorEq, putAt, unE, Nat.reduceBEq, convE, buildE, List.replicate, Int.reduceLT, Int.reduceLE, Int.reduceToNat, mkE, mapSetE, hN, hF, ty_3, ty_9, ty_29, ty_31, ty_44, ty_97, notIf, isEq, k1]
      simp only [runB, finC, finD, Option.isSome_some, Option.isSome_none, ↓reduceIte, Nat.reduceEqDiff, Nat.reduceAdd, Nat.reduceMul, forall_eq_or_imp, forall_eq, implies_true, Nat.reduceBEq, reduceCtorEq, false_implies, List.zip_cons_cons, List.zip_nil_left, List.zip_nil_right, Nat.reduceLeDiff, List.forall_mem_nil, rs_52, bytes_length]
noncomputable def bkPutC : Contract := mkC (α := WS × Blk) (fun p => p.1.b.length ≤ 20482 ∧ p.2.pa.length ≤ 9223372036854775807 ∧ p.2.txs.length ≤ 4294967296 ∧ okS p.2.txs ∧ p.2.ju.bl.length ≤ 9223372036854775807 ∧ p.2.ju.vs.length ≤ 4294967296 ∧ okW p.2.ju.vs ∧ p.2.sig.length ≤ 9223372036854775807) (fun p => [.ptr 6400000 0, p.2.av]) (fun p => [[.own 1 (bytes p.1.b), .c (.int .i64 p.1.e), .c (.bool true)]]) (fun p => ⟨[], [[.own 1 (bytes (bkP p.1 p.2).b), .c (.int .i64 (bkP p.1 p.2).e), .c (.bool true)]]⟩)
theorem bkPut_at (w : WS) (bvw : Int) (bht : Int) (bpa : List UInt8) (bjvw : Int) (bjht : Int) (bjbl : List UInt8) (bjvs : List Vt) (btxs : List Txn) (bsig : List UInt8) (g0 : w.b.length ≤ 20482) (g1 : bpa.length ≤ 9223372036854775807) (g2 : btxs.length ≤ 4294967296) (g3 : okS btxs) (g4 : bjbl.length ≤ 9223372036854775807) (g5 : bjvs.length ≤ 4294967296) (g6 : okW bjvs) (g7 : bsig.length ≤ 9223372036854775807) : bkPutC [.ptr 6400000 0, (.agg [.c (.int .i64 bvw), .c (.int .i64 bht), .c (.str bpa), .c (.int .i64 bjvw), .c (.int .i64 bjht), .c (.str bjbl), .c (.sl (votes bjvs)), .c (.sl (trows btxs)), .c (.str bsig)])] [[.own 1 (bytes w.b), .c (.int .i64 w.e), .c (.bool true)]] = some ⟨[], [[.own 1 (bytes (bkP w (⟨bvw, bht, bpa, ⟨bjvw, bjht, bjbl, bjvs⟩, btxs, bsig⟩ : Blk)).b), .c (.int .i64 (bkP w (⟨bvw, bht, bpa, ⟨bjvw, bjht, bjbl, bjvs⟩, btxs, bsig⟩ : Blk)).e), .c (.bool true)]]⟩ := by
  obtain ⟨wb, we⟩ := w
  exact mkC_at (α := WS × Blk) (⟨wb, we⟩, ⟨bvw, bht, bpa, ⟨bjvw, bjht, bjbl, bjvs⟩, btxs, bsig⟩) ⟨g0, g1, g2, g3, g4, g5, g6, g7⟩ (by
    rintro ⟨⟨w'b, w'e⟩, b'⟩ _ h ho
    have hh := And.intro h ho
    clear h ho
    simp only [List.cons.injEq, AV.c.injEq, AV.agg.injEq, PC.int.injEq, PC.str.injEq, PC.bool.injEq, PC.sl.injEq, OV.c.injEq, OV.own.injEq, OV.mp.injEq, bytes_iff, texts_iff, true_and, and_true, and_self, beq_self_eq_true, Blk.av_iff] at hh
    simp only [hh])

set_option maxRecDepth 100000 in
set_option maxHeartbeats 4000000 in
theorem bkPut_sound (hΓ : SoundG Tryz.prog Γ) (h1 : Γ 51 = bkTxC) (h2 : Γ 52 = ctPutC) (h3 : Γ 53 = textC) : SoundC Tryz.prog 14 bkPutC := by
  refine sound_fn Tryz.func14 (by kernel_rfl) rfl rfl ?_
  intro args objs r0 hr
  obtain ⟨⟨w, ⟨vw, ht, pa, ⟨jv, jh, jb, js⟩, txs, sig⟩⟩, ⟨hl, hpa, htl, hts, hjb, hjl, hjs, hsg⟩, rfl, rfl, rfl⟩ := mkC_inv hr
  refine ⟨rfl, by show 2 ≤ _; decide, fun E hN hns hF => ?_⟩
  refine vc_sound hΓ mixed _ _ _ ?_
  have hN := hN.trans nt_14
  have hl : w.b.length ≤ 20482 := hl
  have hpa : pa.length ≤ 9223372036854775807 := hpa
  have htl : txs.length ≤ 4294967296 := htl
  have hts : okS txs := hts
  have hjb : jb.length ≤ 9223372036854775807 := hjb
  have hjl : js.length ≤ 4294967296 := hjl
  have hjs : okW js := hjs
  have hsg : sig.length ≤ 9223372036854775807 := hsg
  have l1 := bkF_cap ⟨vw, ht, pa, ⟨jv, jh, jb, js⟩, txs, sig⟩ hl
  have l2 := ctP_cap ⟨jv, jh, jb, js⟩ l1
  have hE : bkP w ⟨vw, ht, pa, ⟨jv, jh, jb, js⟩, txs, sig⟩ = rText (ctP (bkF w ⟨vw, ht, pa, ⟨jv, jh, jb, js⟩, txs, sig⟩) ⟨jv, jh, jb, js⟩) sig := rfl
  rw [hE]
  unfold Blk.av
  dsimp only
  have q1 := bkTx_at w vw ht pa jv jh jb js txs sig hl hpa htl hts
  have q2 := ctPut_at (bkF w ⟨vw, ht, pa, ⟨jv, jh, jb, js⟩, txs, sig⟩) jv jh jb js l1 hjb hjl hjs
  have q3 := text_atw (ctP (bkF w ⟨vw, ht, pa, ⟨jv, jh, jb, js⟩, txs, sig⟩) ⟨jv, jh, jb, js⟩) sig (by omega) hsg
  generalize bkF w ⟨vw, ht, pa, ⟨jv, jh, jb, js⟩, txs, sig⟩ = w1 at q1 q2 q3 ⊢
  generalize ctP w1 ⟨jv, jh, jb, js⟩ = w2 at q2 q3 ⊢
  generalize rText w2 sig = w3 at q3 ⊢
  simp only [runA, runB, runC, runD, runE, runF, fieldE, storeE, binE, ↓reduceIte, Nat.reduceLT, Nat.reduceLeDiff, Nat.reduceEqDiff, Nat.reduceAdd, Nat.reduceMul, Nat.reduceSub, reduceCtorEq, putAt, unE, Nat.reduceBEq, convE, buildE, List.replicate, Int.reduceLT, Int.reduceLE, Int.reduceToNat, mkE, mapSetE, hN, hF, ty_3, ty_9, ty_22, ty_29, ty_31, ty_33, ty_44, notIf, isEq, h1, h2, h3, q1, q2, q3, bytes_length]
  simp only [runB, finC, finD, Option.isSome_some, Option.isSome_none, ↓reduceIte, Nat.reduceEqDiff, Nat.reduceAdd, Nat.reduceMul, forall_eq_or_imp, forall_eq, implies_true, Nat.reduceBEq, reduceCtorEq, false_implies, List.zip_cons_cons, List.zip_nil_left, List.zip_nil_right, Nat.reduceLeDiff, List.forall_mem_nil, rs_14, ty_3, ty_9, ty_22, ty_29, ty_31, ty_33, ty_44, bytes_length]


variable {Γ : FuncId → Contract}

def cA (r : RS) := rd r 1048576
def cB (r : RS) := rd (cA r).2 1048576
def cC (r : RS) := rdT (cB r).2 32
def cD (r : RS) := rd (cC r).2 7
def vosR : Nat → RS → List Vt × RS
  | 0, r => ([], r)
  | n + 1, r => ((vosR n r).1 ++ [(readV (vosR n r).2).1], (readV (vosR n r).2).2)
theorem vosR_len : ∀ (n : Nat) (r : RS), (vosR n r).2.b.length ≤ r.b.length ∧ (vosR n r).1.length = n
  | 0, r => ⟨Nat.le_refl _, rfl⟩
  | n + 1, r => by
    obtain ⟨h1, h2⟩ := vosR_len n r
    refine ⟨Nat.le_trans (readV_len _) h1, ?_⟩
    show ((vosR n r).1 ++ [_]).length = _
    rw [List.length_append, h2]; rfl
def cE (r : RS) := vosR (cD r).1.toNat (cD r).2
def zeroCt : Ct := ⟨0, 0, [], []⟩
def gotC (r : RS) : Ct := ⟨(cA r).1, (cB r).1, (cC r).1, (cE r).1⟩
def readC (r : RS) : Ct × RS := if (cE r).2.e ≠ 0 then (zeroCt, (cE r).2) else (gotC r, (cE r).2)
theorem rd_range (r : RS) {m : Int} (h : 0 ≤ m) : 0 ≤ (rd r m).1 ∧ (rd r m).1 ≤ m := by
  unfold rd
  split
  · unfold nextN
    split
    · exact ⟨by simp, h⟩
    · split
      · exact ⟨by simp, h⟩
      · rename_i h1 h2
        exact ⟨getB_nonneg _, by dsimp only at h2 ⊢; omega⟩
  · exact ⟨by simp, h⟩
theorem cE_len (r : RS) : (cE r).2.b.length ≤ r.b.length := by
  have h1 : (cA r).2.b.length ≤ _ := rd_len _ _
  have h2 : (cB r).2.b.length ≤ _ := rd_len _ _
  have h3 : (cC r).2.b.length ≤ _ := rdT_len _ _
  have h4 : (cD r).2.b.length ≤ _ := rd_len _ _
  have h5 : (cE r).2.b.length ≤ _ := (vosR_len _ _).1
  omega
theorem readC_len (r : RS) : (readC r).2.b.length ≤ r.b.length := by
  unfold readC; split <;> exact cE_len r
noncomputable def ctRdC : Contract := mkC (α := RS) (fun p => p.b.length ≤ 140737488355328) (fun p => [.ptr 6400000 0]) (fun p => [[.c (.sl (bytes p.b)), .c (.int .i64 p.e), .c (.bool true)]]) (fun p => ⟨[.pv (readC p).1.av], [[.c (.sl (bytes ((readC p).2).b)), .c (.int .i64 ((readC p).2).e), .c (.bool true)]]⟩)
theorem ctRd_at (r : RS) (g0 : r.b.length ≤ 140737488355328) : ctRdC [.ptr 6400000 0] [[.c (.sl (bytes r.b)), .c (.int .i64 r.e), .c (.bool true)]] = some ⟨[.pv (readC r).1.av], [[.c (.sl (bytes ((readC r).2).b)), .c (.int .i64 ((readC r).2).e), .c (.bool true)]]⟩ := by
  obtain ⟨rb, re⟩ := r
  exact mkC_at (α := RS) ⟨rb, re⟩ g0 (by
    rintro ⟨r'b, r'e⟩ _ h ho
    have hh := And.intro h ho
    clear h ho
    simp only [List.cons.injEq, AV.c.injEq, AV.agg.injEq, PC.int.injEq, PC.str.injEq, PC.bool.injEq, PC.sl.injEq, OV.c.injEq, OV.own.injEq, OV.mp.injEq, bytes_iff, texts_iff, true_and, and_true, and_self, beq_self_eq_true] at hh
    simp only [hh])

set_option maxRecDepth 100000 in
set_option maxHeartbeats 4000000 in
theorem ctRd_sound (hΓ : SoundG Tryz.prog Γ) (h1 : Γ 116 = rdNumC) (h2 : Γ 61 = rdTextC) (h3 : Γ 163 = voRdC) (h4 : Γ 63 = errC) : SoundC Tryz.prog 118 ctRdC := by
  refine sound_fn Tryz.func118 (by kernel_rfl) rfl rfl ?_
  intro args objs r0 hr
  obtain ⟨r, hl, rfl, rfl, rfl⟩ := mkC_inv hr
  refine ⟨rfl, by show 1 ≤ _; decide, fun E hN hns hF => ?_⟩
  refine vc_sound hΓ mixed _ _ _ ?_
  have hN := hN.trans nt_118
  have hl : r.b.length ≤ 140737488355328 := hl
  have l1 : (cA r).2.b.length ≤ _ := rd_len _ _
  have l2 : (cB r).2.b.length ≤ _ := rd_len _ _
  have l3 : (cC r).2.b.length ≤ _ := rdT_len _ _
  have l4 : (cD r).2.b.length ≤ _ := rd_len _ _
  have l5 := cE_len r
  have q1 := num_atr r 1048576 hl
  rw [show rd r 1048576 = cA r from rfl] at q1
  have q2 := num_atr (cA r).2 1048576 (by omega)
  rw [show rd (cA r).2 1048576 = cB r from rfl] at q2
  have q3 := text_atr (cB r).2 32 (by omega)
  rw [show rdT (cB r).2 32 = cC r from rfl] at q3
  have q4 := num_atr (cC r).2 7 (by omega)
  rw [show rd (cC r).2 7 = cD r from rfl] at q4
  have hn := rd_range (cC r).2 (m := 7) (by decide)
  rw [show rd (cC r).2 7 = cD r from rfl] at hn
  have hR : readC r = if (vosR (cD r).1.toNat (cD r).2).2.e ≠ 0 then (zeroCt, (vosR (cD r).1.toNat (cD r).2).2) else (⟨(cA r).1, (cB r).1, (cC r).1, (vosR (cD r).1.toNat (cD r).2).1⟩, (vosR (cD r).1.toNat (cD r).2).2) := rfl
  rw [hR]
  generalize cA r = z1 at *
  generalize cB r = z2 at *
  generalize cC r = z3 at *
  generalize cD r = z4 at *
  clear hR l5
  obtain ⟨n, r4⟩ := z4
  obtain ⟨N, rfl⟩ : ∃ N : Nat, n = (N : Int) := ⟨n.toNat, by dsimp only at hn; omega⟩
  dsimp only at q4 hn l4 ⊢
  rw [Int.toNat_natCast]
  simp only [runA, runB, runC, runD, runE, runF, fieldE, storeE, binE, ↓reduceIte, Nat.reduceLT, Nat.reduceLeDiff, Nat.reduceEqDiff, Nat.reduceAdd, Nat.reduceMul, Nat.reduceSub, reduceCtorEq, putAt, unE, Nat.reduceBEq, convE, buildE, List.replicate, Int.reduceLT, Int.reduceLE, Int.reduceToNat, mkE, mapSetE, hN, hF, ty_3, ty_9, ty_29, ty_31, ty_37, ty_53, ty_97, notIf, isEq, h1, h2, q1, q2, q3, q4]
  refine AWP.loop (fun k st => ∃ i : Nat, i ≤ N ∧ k = N - i ∧ st = ⟨[(0, .ptr 6400000 0), (2, .ptr 128 0), (3, .ptr 192 0), (12, .c (.int .i64 (N : Int))), (13, .c (.int .i64 (i : Int)))],
    [(6400000, .obj [.c (.sl (bytes (vosR i r4).2.b)), .c (.int .i64 (vosR i r4).2.e), .c (.bool true)] false), (128, .obj [.c (.int .i64 0), .c (.int .i64 0), .c (.str []), .nilsl] false),
     (192, .obj [.c (.int .i64 z1.1), .c (.int .i64 z2.1), .c (.str z3.1), .own 1281 7 (votes (vosR i r4).1)] false), (1281, .row 7 i)]⟩) ⟨N, _, ?w, 0, Nat.zero_le _, rfl, rfl⟩ ?r
  case w =>
    rw [hns]
    simp only [runB, finC, finD, AS.get, AS.mem, false_implies, implies_true, ↓reduceIte, Nat.reduceEqDiff, Option.isSome_some, Option.isSome_none, forall_eq_or_imp, forall_eq, reduceCtorEq, Nat.reduceAdd, Nat.reduceMul, List.zip_cons_cons, List.zip_nil_left, List.zip_nil_right, List.forall_mem_nil, vosR, votes_nil]
    first | done | simp
  case r =>
    rintro k st ⟨i, hi, rfl, rfl⟩
    refine vc_sound hΓ mixed _ _ _ ?_
    obtain ⟨m1, m2⟩ := vosR_len i r4
    have hvl := votes_length (vosR i r4).1
    rw [m2] at hvl
    by_cases hlt : i < N
    · have k1 : decide ((i : Int) < (N : Int)) = true := by simpa using hlt
      have e1 : IntKind.i64.wrap ((i : Int) + 1) = (i : Int) + 1 := wrapI (by omega)
      have q5 := voRd_at (vosR i r4).2 (by omega)
      have hL : ((i + 1) * 72 ≤ 140737488355328) = True := eq_true (by omega)
      have hS1 : vosR (i + 1) r4 = ((vosR i r4).1 ++ [(readV (vosR i r4).2).1], (readV (vosR i r4).2).2) := rfl
      rw [show vosR i r4 = ((vosR i r4).1, (vosR i r4).2) from rfl] at hS1
      generalize (vosR i r4).2 = ri at q5 hS1 ⊢
      generalize (vosR i r4).1 = vi at hvl m2 hS1 ⊢
      generalize readV ri = RV at q5 hS1 ⊢
      obtain ⟨y, r'⟩ := RV
      dsimp only at q5 hS1 ⊢
      have happ : votes vi ++ [Vt.pcs y] = votes (vi ++ [y]) := by rw [votes_one, votes_app]
      unfold Vt.av at q5
      unfold Vt.pcs at happ
      have hz : rowsOK 7 [[PC.int .i64 y.kd, .int .i64 y.vw, .int .i64 y.ht, .str y.bl, .int .i64 y.tk, .int .i64 y.sg, .str y.sig]] := by
        intro r hr
        rw [List.mem_singleton] at hr
        rw [hr]; rfl
      simp only [runA, runB, runC, runD, runE, runF, fieldE, storeE, binE, ↓reduceIte, Nat.reduceLT, Nat.reduceLeDiff, Nat.reduceEqDiff, Nat.reduceAdd, Nat.reduceMul, Nat.reduceSub, reduceCtorEq, putAt, unE, Nat.reduceBEq, convE, buildE, List.replicate, Int.reduceLT, Int.reduceLE, Int.reduceToNat, mkE, mapSetE, hN, hF, ty_3, ty_9, ty_29, ty_31, ty_37, ty_53, ty_97, notIf, isEq, k1, h3, q5, e1, hz, hL, hvl, happ]
      iterate 2 (try (refine drawnP_intro (by kernel_rfl) (by kernel_rfl) ?_; simp only [runA, runB, runC, runD, runE, runF, fieldE, storeE, binE, ↓reduceIte, Nat.reduceLT, Nat.reduceLeDiff, Nat.reduceEqDiff, Nat.reduceAdd, Nat.reduceMul, Nat.reduceSub, reduceCtorEq, putAt, unE, Nat.reduceBEq, convE, buildE, List.replicate, Int.reduceLT, Int.reduceLE, Int.reduceToNat, mkE, mapSetE, hN, hF, ty_3, ty_9, ty_29, ty_31, ty_37, ty_53, ty_97, notIf, isEq, h3, q5, e1, hz, hL, hvl, happ]))
      refine ⟨N - (i + 1), _, by omega, ?_, i + 1, by omega, rfl, rfl⟩
      rw [hns, hS1]
      simp only [runB, finC, finD, AS.get, AS.mem, false_implies, implies_true, ↓reduceIte, Nat.reduceEqDiff, Option.isSome_some, Option.isSome_none, forall_eq_or_imp, forall_eq, reduceCtorEq, Nat.reduceAdd, Nat.reduceMul, List.zip_cons_cons, List.zip_nil_left, List.zip_nil_right, List.forall_mem_nil, bytes_length]
      first | done | simp
    · have k1 : decide ((i : Int) < (N : Int)) = false := by simpa using hlt
      obtain rfl : i = N := by omega
      have q6 := err_atr (vosR i r4).2
      generalize vosR i r4 = VR at *
      obtain ⟨vi, ri⟩ := VR
      dsimp only at q6 hvl m2 m1 ⊢
      by_cases he : ri.e = 0
      · have g1 : (ri.e != 0) = false := by simp [he]
        rw [if_neg (by simpa using he)]
        simp only [runA, runB, runC, runD, runE, runF, fieldE, storeE, binE, ↓reduceIte, Nat.reduceLT, Nat.reduceLeDiff, Nat.reduceEqDiff, Nat.reduceAdd, Nat.reduceMul, Nat.reduceSub, reduceCtorEq, putAt, unE, Nat.reduceBEq, convE, buildE, List.replicate, Int.reduceLT, Int.reduceLE, Int.reduceToNat, mkE, mapSetE, hN, hF, ty_3, ty_9, ty_29, ty_31, ty_37, ty_53, ty_97, notIf, isEq, k1, h4, q6, g1]
        simp only [runB, finC, finD, Option.isSome_some, Option.isSome_none, ↓reduceIte, Nat.reduceEqDiff, Nat.reduceAdd, Nat.reduceMul, forall_eq_or_imp, forall_eq, implies_true, Nat.reduceBEq, reduceCtorEq, false_implies, List.zip_cons_cons, List.zip_nil_left, List.zip_nil_right, Nat.reduceLeDiff, List.forall_mem_nil, rs_118, ty_3, ty_9, ty_29, ty_31, ty_37, ty_53, ty_97, Ct.av]
      · have g1 : (ri.e != 0) = true := by simpa using he
        rw [if_pos he]
        simp only [runA, runB, runC, runD, runE, runF, fieldE, storeE, binE, ↓reduceIte, Nat.reduceLT, Nat.reduceLeDiff, Nat.reduceEqDiff, Nat.reduceAdd, Nat.reduceMul, Nat.reduceSub, reduceCtorEq, putAt, unE, Nat.reduceBEq, convE, buildE, List.replicate, Int.reduceLT, Int.reduceLE, Int.reduceToNat, mkE, mapSetE, hN, hF, ty_3, ty_9, ty_29, ty_31, ty_37, ty_53, ty_97, notIf, isEq, k1, h4, q6, g1]
        simp only [runB, finC, finD, Option.isSome_some, Option.isSome_none, ↓reduceIte, Nat.reduceEqDiff, Nat.reduceAdd, Nat.reduceMul, forall_eq_or_imp, forall_eq, implies_true, Nat.reduceBEq, reduceCtorEq, false_implies, List.zip_cons_cons, List.zip_nil_left, List.zip_nil_right, Nat.reduceLeDiff, List.forall_mem_nil, rs_118, ty_3, ty_9, ty_29, ty_31, ty_37, ty_53, ty_97, Ct.av, zeroCt, votes_nil]


variable {Γ : FuncId → Contract}

def txsR : Nat → RS → List Txn × RS
  | 0, r => ([], r)
  | n + 1, r => ((txsR n r).1 ++ [(readT (txsR n r).2).1], (readT (txsR n r).2).2)
theorem txsR_len : ∀ (n : Nat) (r : RS), (txsR n r).2.b.length ≤ r.b.length ∧ (txsR n r).1.length = n
  | 0, r => ⟨Nat.le_refl _, rfl⟩
  | n + 1, r => by
    obtain ⟨h1, h2⟩ := txsR_len n r
    refine ⟨Nat.le_trans (readT_len _) h1, ?_⟩
    show ((txsR n r).1 ++ [_]).length = _
    rw [List.length_append, h2]; rfl
def fA (r : RS) := rd r 1048576
def fB (r : RS) := rd (fA r).2 1048576
def fC (r : RS) := rdT (fB r).2 32
def fD (r : RS) := rd (fC r).2 1048576
def fE (r : RS) := rd (fD r).2 4
def fF (r : RS) := txsR (fE r).1.toNat (fE r).2
def fG (r : RS) := readC (fF r).2
def fH (r : RS) := rdT (fG r).2 4096
def gotB (r : RS) : Blk := ⟨(fA r).1, (fB r).1, (fC r).1, (fG r).1, (fF r).1, (fH r).1⟩
theorem fH_len (r : RS) : (fH r).2.b.length ≤ r.b.length := by
  have h1 : (fA r).2.b.length ≤ _ := rd_len _ _
  have h2 : (fB r).2.b.length ≤ _ := rd_len _ _
  have h3 : (fC r).2.b.length ≤ _ := rdT_len _ _
  have h4 : (fD r).2.b.length ≤ _ := rd_len _ _
  have h5 : (fE r).2.b.length ≤ _ := rd_len _ _
  have h6 : (fF r).2.b.length ≤ _ := (txsR_len _ _).1
  have h7 : (fG r).2.b.length ≤ _ := readC_len _
  have h8 : (fH r).2.b.length ≤ _ := rdT_len _ _
  omega
theorem gotB_txs (r : RS) : (gotB r).txs.length ≤ 4 := by
  show (fF r).1.length ≤ 4
  have h := rd_range (fD r).2 (m := 4) (by decide)
  have h2 : (fF r).1.length = (fE r).1.toNat := (txsR_len _ _).2
  rw [h2]
  show (rd (fD r).2 4).1.toNat ≤ 4
  omega
noncomputable def fldsC : Contract := mkC (α := RS) (fun p => p.b.length ≤ 140737488355328) (fun p => [.ptr 6400000 0]) (fun p => [[.c (.sl (bytes p.b)), .c (.int .i64 p.e), .c (.bool true)]]) (fun p => ⟨[.pv (gotB p).av, .pv (.c (.int .i64 (fD p).1))], [[.c (.sl (bytes ((fH p).2).b)), .c (.int .i64 ((fH p).2).e), .c (.bool true)]]⟩)
theorem flds_at (r : RS) (g0 : r.b.length ≤ 140737488355328) : fldsC [.ptr 6400000 0] [[.c (.sl (bytes r.b)), .c (.int .i64 r.e), .c (.bool true)]] = some ⟨[.pv (gotB r).av, .pv (.c (.int .i64 (fD r).1))], [[.c (.sl (bytes ((fH r).2).b)), .c (.int .i64 ((fH r).2).e), .c (.bool true)]]⟩ := by
  obtain ⟨rb, re⟩ := r
  exact mkC_at (α := RS) ⟨rb, re⟩ g0 (by
    rintro ⟨r'b, r'e⟩ _ h ho
    have hh := And.intro h ho
    clear h ho
    simp only [List.cons.injEq, AV.c.injEq, AV.agg.injEq, PC.int.injEq, PC.str.injEq, PC.bool.injEq, PC.sl.injEq, OV.c.injEq, OV.own.injEq, OV.mp.injEq, bytes_iff, texts_iff, true_and, and_true, and_self, beq_self_eq_true] at hh
    simp only [hh])

set_option maxRecDepth 100000 in
set_option maxHeartbeats 4000000 in
theorem flds_sound (hΓ : SoundG Tryz.prog Γ) (h1 : Γ 116 = rdNumC) (h2 : Γ 61 = rdTextC) (h3 : Γ 117 = txRdC) (h4 : Γ 118 = ctRdC) : SoundC Tryz.prog 62 fldsC := by
  refine sound_fn Tryz.func62 (by kernel_rfl) rfl rfl ?_
  intro args objs r0 hr
  obtain ⟨r, hl, rfl, rfl, rfl⟩ := mkC_inv hr
  refine ⟨rfl, by show 1 ≤ _; decide, fun E hN hns hF => ?_⟩
  refine vc_sound hΓ mixed _ _ _ ?_
  have hN := hN.trans nt_62
  have hl : r.b.length ≤ 140737488355328 := hl
  have l1 : (fA r).2.b.length ≤ _ := rd_len _ _
  have l2 : (fB r).2.b.length ≤ _ := rd_len _ _
  have l3 : (fC r).2.b.length ≤ _ := rdT_len _ _
  have l4 : (fD r).2.b.length ≤ _ := rd_len _ _
  have l5 : (fE r).2.b.length ≤ _ := rd_len _ _
  have l6 : (fF r).2.b.length ≤ _ := (txsR_len _ _).1
  have l7 : (fG r).2.b.length ≤ _ := readC_len _
  have l8 := fH_len r
  have q1 := num_atr r 1048576 hl
  rw [show rd r 1048576 = fA r from rfl] at q1
  have q2 := num_atr (fA r).2 1048576 (by omega)
  rw [show rd (fA r).2 1048576 = fB r from rfl] at q2
  have q3 := text_atr (fB r).2 32 (by omega)
  rw [show rdT (fB r).2 32 = fC r from rfl] at q3
  have q4 := num_atr (fC r).2 1048576 (by omega)
  rw [show rd (fC r).2 1048576 = fD r from rfl] at q4
  have q5 := num_atr (fD r).2 4 (by omega)
  rw [show rd (fD r).2 4 = fE r from rfl] at q5
  have hn := rd_range (fD r).2 (m := 4) (by decide)
  rw [show rd (fD r).2 4 = fE r from rfl] at hn
  have q7 := ctRd_at (fF r).2 (by omega)
  rw [show readC (fF r).2 = fG r from rfl] at q7
  have q8 := text_atr (fG r).2 4096 (by omega)
  rw [show rdT (fG r).2 4096 = fH r from rfl] at q8
  have hG : gotB r = ⟨(fA r).1, (fB r).1, (fC r).1, (fG r).1, (fF r).1, (fH r).1⟩ := rfl
  have hFX : fF r = txsR (fE r).1.toNat (fE r).2 := rfl
  rw [hG]
  generalize fF r = z6 at *
  generalize fG r = z7 at *
  generalize fH r = z8 at *
  generalize fE r = z5 at *
  generalize fD r = z4 at *
  generalize fC r = z3 at *
  generalize fB r = z2 at *
  generalize fA r = z1 at *
  clear hG l8
  obtain ⟨n, r5⟩ := z5
  obtain ⟨N, rfl⟩ : ∃ N : Nat, n = (N : Int) := ⟨n.toNat, by dsimp only at hn; omega⟩
  dsimp only at q5 hn l5 l6 hFX ⊢
  rw [Int.toNat_natCast] at hFX
  unfold Blk.av
  unfold Ct.av at q7
  simp only [runA, runB, runC, runD, runE, runF, fieldE, storeE, binE, ↓reduceIte, Nat.reduceLT, Nat.reduceLeDiff, Nat.reduceEqDiff, Nat.reduceAdd, Nat.reduceMul, Nat.reduceSub, reduceCtorEq, putAt, unE, Nat.reduceBEq, convE, buildE, List.replicate, Int.reduceLT, Int.reduceLE, Int.reduceToNat, mkE, mapSetE, hN, hF, ty_3, ty_9, ty_22, ty_29, ty_31, ty_33, ty_36, ty_53, notIf, isEq, h1, h2, q1, q2, q3, q4, q5]
  refine AWP.loop (fun k st => ∃ i : Nat, i ≤ N ∧ k = N - i ∧ st = ⟨[(0, .ptr 6400000 0), (2, .ptr 128 0), (4, .ptr 256 0), (5, .c (.int .i64 z4.1)), (16, .c (.int .i64 (N : Int))), (17, .c (.int .i64 (i : Int)))],
    [(6400000, .obj [.c (.sl (bytes (txsR i r5).2.b)), .c (.int .i64 (txsR i r5).2.e), .c (.bool true)] false), (128, .obj [.c (.int .i64 0), .c (.int .i64 0), .c (.str []), .c (.int .i64 0), .c (.int .i64 0), .c (.str []), .nilsl, .nilsl, .c (.str [])] false),
     (256, .obj [.c (.int .i64 z1.1), .c (.int .i64 z2.1), .c (.str z3.1), .c (.int .i64 0), .c (.int .i64 0), .c (.str []), .nilsl, .own 1537 5 (trows (txsR i r5).1), .c (.str [])] false), (1537, .row 5 i)]⟩) ⟨N, _, ?w, 0, Nat.zero_le _, rfl, rfl⟩ ?r
  case w =>
    rw [hns]
    simp only [runB, finC, finD, AS.get, AS.mem, false_implies, implies_true, ↓reduceIte, Nat.reduceEqDiff, Option.isSome_some, Option.isSome_none, forall_eq_or_imp, forall_eq, reduceCtorEq, Nat.reduceAdd, Nat.reduceMul, List.zip_cons_cons, List.zip_nil_left, List.zip_nil_right, List.forall_mem_nil, txsR, show trows [] = [] from rfl]
    first | done | simp
  case r =>
    rintro k st ⟨i, hi, rfl, rfl⟩
    refine vc_sound hΓ mixed _ _ _ ?_
    obtain ⟨m1, m2⟩ := txsR_len i r5
    have hvl := trows_length (txsR i r5).1
    rw [m2] at hvl
    by_cases hlt : i < N
    · have k1 : decide ((i : Int) < (N : Int)) = true := by simpa using hlt
      have e1 : IntKind.i64.wrap ((i : Int) + 1) = (i : Int) + 1 := wrapI (by omega)
      have q6 := txRd_at (txsR i r5).2 (by omega)
      have hL : ((i + 1) * 48 ≤ 140737488355328) = True := eq_true (by omega)
      have hS1 : txsR (i + 1) r5 = ((txsR i r5).1 ++ [(readT (txsR i r5).2).1], (readT (txsR i r5).2).2) := rfl
      rw [show txsR i r5 = ((txsR i r5).1, (txsR i r5).2) from rfl] at hS1
      generalize (txsR i r5).2 = ri at q6 hS1 ⊢
      generalize (txsR i r5).1 = vi at hvl m2 hS1 ⊢
      generalize readT ri = RV at q6 hS1 ⊢
      obtain ⟨y, r'⟩ := RV
      dsimp only at q6 hS1 ⊢
      have happ : trows vi ++ [Txn.pcs y] = trows (vi ++ [y]) := by simp [trows]
      unfold Txn.av at q6
      unfold Txn.pcs at happ
      have hz : rowsOK 5 [[PC.int .i64 y.fr, .int .i64 y.to, .int .i64 y.am, .int .i64 y.no, .str y.sig]] := by
        intro r hr
        rw [List.mem_singleton] at hr
        rw [hr]; rfl
      simp only [runA, runB, runC, runD, runE, runF, fieldE, storeE, binE, ↓reduceIte, Nat.reduceLT, Nat.reduceLeDiff, Nat.reduceEqDiff, Nat.reduceAdd, Nat.reduceMul, Nat.reduceSub, reduceCtorEq, putAt, unE, Nat.reduceBEq, convE, buildE, List.replicate, Int.reduceLT, Int.reduceLE, Int.reduceToNat, mkE, mapSetE, hN, hF, ty_3, ty_9, ty_22, ty_29, ty_31, ty_33, ty_36, ty_53, notIf, isEq, k1, h3, q6, e1, hz, hL, hvl, happ]
      iterate 2 (try (refine drawnP_intro (by kernel_rfl) (by kernel_rfl) ?_; simp only [runA, runB, runC, runD, runE, runF, fieldE, storeE, binE, ↓reduceIte, Nat.reduceLT, Nat.reduceLeDiff, Nat.reduceEqDiff, Nat.reduceAdd, Nat.reduceMul, Nat.reduceSub, reduceCtorEq, putAt, unE, Nat.reduceBEq, convE, buildE, List.replicate, Int.reduceLT, Int.reduceLE, Int.reduceToNat, mkE, mapSetE, hN, hF, ty_3, ty_9, ty_22, ty_29, ty_31, ty_33, ty_36, ty_53, notIf, isEq, h3, q6, e1, hz, hL, hvl, happ]))
      refine ⟨N - (i + 1), _, by omega, ?_, i + 1, by omega, rfl, rfl⟩
      rw [hns, hS1]
      simp only [runB, finC, finD, AS.get, AS.mem, false_implies, implies_true, ↓reduceIte, Nat.reduceEqDiff, Option.isSome_some, Option.isSome_none, forall_eq_or_imp, forall_eq, reduceCtorEq, Nat.reduceAdd, Nat.reduceMul, List.zip_cons_cons, List.zip_nil_left, List.zip_nil_right, List.forall_mem_nil, bytes_length]
      first | done | simp
    · have k1 : decide ((i : Int) < (N : Int)) = false := by simpa using hlt
      obtain rfl : i = N := by omega
      rw [hFX] at q7 ⊢
      generalize txsR i r5 = VR at *
      obtain ⟨vi, ri⟩ := VR
      dsimp only at q7 hvl m2 m1 ⊢
      simp only [runA, runB, runC, runD, runE, runF, fieldE, storeE, binE, ↓reduceIte, Nat.reduceLT, Nat.reduceLeDiff, Nat.reduceEqDiff, Nat.reduceAdd, Nat.reduceMul, Nat.reduceSub, reduceCtorEq, putAt, unE, Nat.reduceBEq, convE, buildE, List.replicate, Int.reduceLT, Int.reduceLE, Int.reduceToNat, mkE, mapSetE, hN, hF, ty_3, ty_9, ty_22, ty_29, ty_31, ty_33, ty_36, ty_53, notIf, isEq, k1, h2, h4, q7, q8]
      iterate 2 (try (refine drawnP_intro (by kernel_rfl) (by kernel_rfl) ?_; simp only [runA, runB, runC, runD, runE, runF, fieldE, storeE, binE, ↓reduceIte, Nat.reduceLT, Nat.reduceLeDiff, Nat.reduceEqDiff, Nat.reduceAdd, Nat.reduceMul, Nat.reduceSub, reduceCtorEq, putAt, unE, Nat.reduceBEq, convE, buildE, List.replicate, Int.reduceLT, Int.reduceLE, Int.reduceToNat, mkE, mapSetE, hN, hF, ty_3, ty_9, ty_22, ty_29, ty_31, ty_33, ty_36, ty_53, notIf, isEq, k1, h2, h4, q7, q8]))
      simp only [runB, finC, finD, Option.isSome_some, Option.isSome_none, ↓reduceIte, Nat.reduceEqDiff, Nat.reduceAdd, Nat.reduceMul, forall_eq_or_imp, forall_eq, implies_true, Nat.reduceBEq, reduceCtorEq, false_implies, List.zip_cons_cons, List.zip_nil_left, List.zip_nil_right, Nat.reduceLeDiff, List.forall_mem_nil, rs_62, ty_3, ty_9, ty_22, ty_29, ty_31, ty_33, ty_36, ty_53, Ct.av]

def readB (r : RS) : Blk × RS := if (rdT r 5).1 ≠ [98, 108, 111, 99, 107] then (zeroBk, (rdT r 5).2) else
  if (fH (rdT r 5).2).2.e ≠ 0 ∨ (gotB (rdT r 5).2).ju.vw ≠ (fD (rdT r 5).2).1 ∨ ¬ okB (gotB (rdT r 5).2) then (zeroBk, (fH (rdT r 5).2).2) else (gotB (rdT r 5).2, (fH (rdT r 5).2).2)
noncomputable def bkRdC : Contract := mkC (α := RS) (fun p => p.b.length ≤ 140737488355328) (fun p => [.ptr 6400000 0]) (fun p => [[.c (.sl (bytes p.b)), .c (.int .i64 p.e), .c (.bool true)]]) (fun p => ⟨[.pv (readB p).1.av], [[.c (.sl (bytes ((readB p).2).b)), .c (.int .i64 ((readB p).2).e), .c (.bool true)]]⟩)
theorem bkRd_at (r : RS) (g0 : r.b.length ≤ 140737488355328) : bkRdC [.ptr 6400000 0] [[.c (.sl (bytes r.b)), .c (.int .i64 r.e), .c (.bool true)]] = some ⟨[.pv (readB r).1.av], [[.c (.sl (bytes ((readB r).2).b)), .c (.int .i64 ((readB r).2).e), .c (.bool true)]]⟩ := by
  obtain ⟨rb, re⟩ := r
  exact mkC_at (α := RS) ⟨rb, re⟩ g0 (by
    rintro ⟨r'b, r'e⟩ _ h ho
    have hh := And.intro h ho
    clear h ho
    simp only [List.cons.injEq, AV.c.injEq, AV.agg.injEq, PC.int.injEq, PC.str.injEq, PC.bool.injEq, PC.sl.injEq, OV.c.injEq, OV.own.injEq, OV.mp.injEq, bytes_iff, texts_iff, true_and, and_true, and_self, beq_self_eq_true] at hh
    simp only [hh])

set_option maxRecDepth 100000 in
set_option maxHeartbeats 4000000 in
theorem bkRd_sound (hΓ : SoundG Tryz.prog Γ) (h1 : Γ 61 = rdTextC) (h2 : Γ 62 = fldsC) (h3 : Γ 63 = errC) (h4 : Γ 45 = bkCkC) : SoundC Tryz.prog 19 bkRdC := by
  refine sound_fn Tryz.func19 (by kernel_rfl) rfl rfl ?_
  intro args objs r0 hr
  obtain ⟨r, hl, rfl, rfl, rfl⟩ := mkC_inv hr
  refine ⟨rfl, by show 1 ≤ _; decide, fun E hN hns hF => ?_⟩
  refine vc_sound hΓ mixed _ _ _ ?_
  have hN := hN.trans nt_19
  have hl : r.b.length ≤ 140737488355328 := hl
  have l0 := rdT_len r 5
  have q0 := text_atr r 5 hl
  have hR : readB r = if (rdT r 5).1 ≠ [98, 108, 111, 99, 107] then (zeroBk, (rdT r 5).2) else
    if (fH (rdT r 5).2).2.e ≠ 0 ∨ (gotB (rdT r 5).2).ju.vw ≠ (fD (rdT r 5).2).1 ∨ ¬ okB (gotB (rdT r 5).2) then (zeroBk, (fH (rdT r 5).2).2) else (gotB (rdT r 5).2, (fH (rdT r 5).2).2) := rfl
  rw [hR]
  have vn : votes [] = [] := rfl
  have tn : trows [] = [] := rfl
  generalize rdT r 5 = z0 at *
  obtain ⟨wd, r1⟩ := z0
  dsimp only at q0 l0 ⊢
  clear hR
  by_cases c0 : wd = [98, 108, 111, 99, 107]
  case neg =>
    have g0 : (wd == [98, 108, 111, 99, 107]) = false := by simpa using c0
    rw [if_pos c0]
    simp only [runA, runB, runC, runD, runE, runF, fieldE, storeE, binE, ↓reduceIte, Nat.reduceLT, Nat.reduceLeDiff, Nat.reduceEqDiff, Nat.reduceAdd, Nat.reduceMul, Nat.reduceSub, reduceCtorEq, putAt, unE, Nat.reduceBEq, convE, buildE, List.replicate, Int.reduceLT, Int.reduceLE, Int.reduceToNat, mkE, mapSetE, hN, hF, ty_3, ty_9, ty_22, ty_29, ty_31, ty_33, ty_37, ty_53, notIf, isEq, h1, q0, g0]
    simp only [runB, finC, finD, Option.isSome_some, Option.isSome_none, ↓reduceIte, Nat.reduceEqDiff, Nat.reduceAdd, Nat.reduceMul, forall_eq_or_imp, forall_eq, implies_true, Nat.reduceBEq, reduceCtorEq, false_implies, List.zip_cons_cons, List.zip_nil_left, List.zip_nil_right, Nat.reduceLeDiff, List.forall_mem_nil, rs_19, ty_3, ty_9, ty_22, ty_29, ty_31, ty_33, ty_37, ty_53, zeroBk, Blk.av, vn, tn]
  have g0 : (wd == [98, 108, 111, 99, 107]) = true := by rw [c0]; decide
  rw [if_neg (by simp [c0])]
  have q1 := flds_at r1 (by omega)
  have q2 := err_atr (fH r1).2
  have hbt := gotB_txs r1
  have q3 := bkCk_at (gotB r1) (by omega)
  generalize gotB r1 = gb at *
  generalize fH r1 = z8 at *
  generalize fD r1 = z4 at *
  obtain ⟨vw, ht, pa, ⟨jv, jh, jb, js⟩, txs, sig⟩ := gb
  unfold Blk.av at q1
  dsimp only at q1 q3 ⊢
  by_cases c1 : z8.2.e = 0
  case neg =>
    have g1 : (z8.2.e != 0) = true := by simpa using c1
    rw [if_pos (.inl c1)]
    simp only [runA, runB, runC, runD, runE, runF, fieldE, storeE, binE, ↓reduceIte, Nat.reduceLT, Nat.reduceLeDiff, Nat.reduceEqDiff, Nat.reduceAdd, Nat.reduceMul, Nat.reduceSub, reduceCtorEq, putAt, unE, Nat.reduceBEq, convE, buildE, List.replicate, Int.reduceLT, Int.reduceLE, Int.reduceToNat, mkE, mapSetE, hN, hF, ty_3, ty_9, ty_22, ty_29, ty_31, ty_33, ty_37, ty_53, notIf, isEq, h1, h2, h3, q0, q1, q2, g0, g1]
    iterate 2 (try (refine drawnP_intro (by kernel_rfl) (by kernel_rfl) ?_; simp only [runA, runB, runC, runD, runE, runF, fieldE, storeE, binE, ↓reduceIte, Nat.reduceLT, Nat.reduceLeDiff, Nat.reduceEqDiff, Nat.reduceAdd, Nat.reduceMul, Nat.reduceSub, reduceCtorEq, putAt, unE, Nat.reduceBEq, convE, buildE, List.replicate, Int.reduceLT, Int.reduceLE, Int.reduceToNat, mkE, mapSetE, hN, hF, ty_3, ty_9, ty_22, ty_29, ty_31, ty_33, ty_37, ty_53, notIf, isEq, h1, h2, h3, q0, q1, q2, g0, g1]))
    simp only [runB, finC, finD, Option.isSome_some, Option.isSome_none, ↓reduceIte, Nat.reduceEqDiff, Nat.reduceAdd, Nat.reduceMul, forall_eq_or_imp, forall_eq, implies_true, Nat.reduceBEq, reduceCtorEq, false_implies, List.zip_cons_cons, List.zip_nil_left, List.zip_nil_right, Nat.reduceLeDiff, List.forall_mem_nil, rs_19, ty_3, ty_9, ty_22, ty_29, ty_31, ty_33, ty_37, ty_53, zeroBk, Blk.av, vn, tn]
  have g1 : (z8.2.e != 0) = false := by simp [c1]
  by_cases c2 : jv = z4.1
  case neg =>
    have g2 : (jv != z4.1) = true := by simpa using c2
    rw [if_pos (.inr (.inl c2))]
    simp only [runA, runB, runC, runD, runE, runF, fieldE, storeE, binE, ↓reduceIte, Nat.reduceLT, Nat.reduceLeDiff, Nat.reduceEqDiff, Nat.reduceAdd, Nat.reduceMul, Nat.reduceSub, reduceCtorEq, putAt, unE, Nat.reduceBEq, convE, buildE, List.replicate, Int.reduceLT, Int.reduceLE, Int.reduceToNat, mkE, mapSetE, hN, hF, ty_3, ty_9, ty_22, ty_29, ty_31, ty_33, ty_37, ty_53, notIf, isEq, h1, h2, h3, q0, q1, q2, g0, g1, g2]
    iterate 2 (try (refine drawnP_intro (by kernel_rfl) (by kernel_rfl) ?_; simp only [runA, runB, runC, runD, runE, runF, fieldE, storeE, binE, ↓reduceIte, Nat.reduceLT, Nat.reduceLeDiff, Nat.reduceEqDiff, Nat.reduceAdd, Nat.reduceMul, Nat.reduceSub, reduceCtorEq, putAt, unE, Nat.reduceBEq, convE, buildE, List.replicate, Int.reduceLT, Int.reduceLE, Int.reduceToNat, mkE, mapSetE, hN, hF, ty_3, ty_9, ty_22, ty_29, ty_31, ty_33, ty_37, ty_53, notIf, isEq, h1, h2, h3, q0, q1, q2, g0, g1, g2]))
    simp only [runB, finC, finD, Option.isSome_some, Option.isSome_none, ↓reduceIte, Nat.reduceEqDiff, Nat.reduceAdd, Nat.reduceMul, forall_eq_or_imp, forall_eq, implies_true, Nat.reduceBEq, reduceCtorEq, false_implies, List.zip_cons_cons, List.zip_nil_left, List.zip_nil_right, Nat.reduceLeDiff, List.forall_mem_nil, rs_19, ty_3, ty_9, ty_22, ty_29, ty_31, ty_33, ty_37, ty_53, zeroBk, Blk.av, vn, tn]
  have g2 : (jv != z4.1) = false := by simp [c2]
  by_cases c3 : okB (⟨vw, ht, pa, ⟨jv, jh, jb, js⟩, txs, sig⟩ : Blk)
  · rw [show bkS (⟨vw, ht, pa, ⟨jv, jh, jb, js⟩, txs, sig⟩ : Blk) = 0 from if_pos c3] at q3
    rw [if_neg (fun h => h.elim (fun h => h c1) (fun h => h.elim (fun h => h c2) (fun h => h c3)))]
    have g3 : ((0 : Int) != 0) = false := rfl
    simp only [runA, runB, runC, runD, runE, runF, fieldE, storeE, binE, ↓reduceIte, Nat.reduceLT, Nat.reduceLeDiff, Nat.reduceEqDiff, Nat.reduceAdd, Nat.reduceMul, Nat.reduceSub, reduceCtorEq, putAt, unE, Nat.reduceBEq, convE, buildE, List.replicate, Int.reduceLT, Int.reduceLE, Int.reduceToNat, mkE, mapSetE, hN, hF, ty_3, ty_9, ty_22, ty_29, ty_31, ty_33, ty_37, ty_53, notIf, isEq, h1, h2, h3, h4, q0, q1, q2, q3, g0, g1, g2, g3]
    iterate 2 (try (refine drawnP_intro (by kernel_rfl) (by kernel_rfl) ?_; simp only [runA, runB, runC, runD, runE, runF, fieldE, storeE, binE, ↓reduceIte, Nat.reduceLT, Nat.reduceLeDiff, Nat.reduceEqDiff, Nat.reduceAdd, Nat.reduceMul, Nat.reduceSub, reduceCtorEq, putAt, unE, Nat.reduceBEq, convE, buildE, List.replicate, Int.reduceLT, Int.reduceLE, Int.reduceToNat, mkE, mapSetE, hN, hF, ty_3, ty_9, ty_22, ty_29, ty_31, ty_33, ty_37, ty_53, notIf, isEq, h1, h2, h3, h4, q0, q1, q2, q3, g0, g1, g2, g3]))
    simp only [runB, finC, finD, Option.isSome_some, Option.isSome_none, ↓reduceIte, Nat.reduceEqDiff, Nat.reduceAdd, Nat.reduceMul, forall_eq_or_imp, forall_eq, implies_true, Nat.reduceBEq, reduceCtorEq, false_implies, List.zip_cons_cons, List.zip_nil_left, List.zip_nil_right, Nat.reduceLeDiff, List.forall_mem_nil, rs_19, ty_3, ty_9, ty_22, ty_29, ty_31, ty_33, ty_37, ty_53, Blk.av]
  · rw [show bkS (⟨vw, ht, pa, ⟨jv, jh, jb, js⟩, txs, sig⟩ : Blk) = 9 from if_neg c3] at q3
    rw [if_pos (.inr (.inr c3))]
    have g3 : ((9 : Int) != 0) = true := rfl
    simp only [runA, runB, runC, runD, runE, runF, fieldE, storeE, binE, ↓reduceIte, Nat.reduceLT, Nat.reduceLeDiff, Nat.reduceEqDiff, Nat.reduceAdd, Nat.reduceMul, Nat.reduceSub, reduceCtorEq, putAt, unE, Nat.reduceBEq, convE, buildE, List.replicate, Int.reduceLT, Int.reduceLE, Int.reduceToNat, mkE, mapSetE, hN, hF, ty_3, ty_9, ty_22, ty_29, ty_31, ty_33, ty_37, ty_53, notIf, isEq, h1, h2, h3, h4, q0, q1, q2, q3, g0, g1, g2, g3]
    iterate 2 (try (refine drawnP_intro (by kernel_rfl) (by kernel_rfl) ?_; simp only [runA, runB, runC, runD, runE, runF, fieldE, storeE, binE, ↓reduceIte, Nat.reduceLT, Nat.reduceLeDiff, Nat.reduceEqDiff, Nat.reduceAdd, Nat.reduceMul, Nat.reduceSub, reduceCtorEq, putAt, unE, Nat.reduceBEq, convE, buildE, List.replicate, Int.reduceLT, Int.reduceLE, Int.reduceToNat, mkE, mapSetE, hN, hF, ty_3, ty_9, ty_22, ty_29, ty_31, ty_33, ty_37, ty_53, notIf, isEq, h1, h2, h3, h4, q0, q1, q2, q3, g0, g1, g2, g3]))
    simp only [runB, finC, finD, Option.isSome_some, Option.isSome_none, ↓reduceIte, Nat.reduceEqDiff, Nat.reduceAdd, Nat.reduceMul, forall_eq_or_imp, forall_eq, implies_true, Nat.reduceBEq, reduceCtorEq, false_implies, List.zip_cons_cons, List.zip_nil_left, List.zip_nil_right, Nat.reduceLeDiff, List.forall_mem_nil, rs_19, ty_3, ty_9, ty_22, ty_29, ty_31, ty_33, ty_37, ty_53, zeroBk, Blk.av, vn, tn]

end Go.Proofs.YtenmlgalcjkdbaaGreat.AM
