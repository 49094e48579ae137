/-
  QL: Mg9.
-/
import Derived.Test.YtldehcnaepgamaaQK
set_option linter.unusedVariables false
set_option linter.unusedSimpArgs false
namespace Go.Proofs.Ytldehcnaepgamaa.AM
open Go

variable {Γ : FuncId → Contract}

/-- A message's fields in a writer. -/
def msP (m : Msg) : WS :=
  if m.kd = 1 then bkP (wNum ⟨[], 0⟩ m.kd) m.bk
  else if m.kd = 2 then voP (wNum ⟨[], 0⟩ m.kd) m.vo
  else if m.kd = 3 then ctP (wNum ⟨[], 0⟩ m.kd) m.ct
  else if m.kd = 4 then vosP (wNum (wNum ⟨[], 0⟩ m.kd) (m.bs.length : Int)) m.bs
  else if m.kd = 5 then rText (wNum ⟨[], 0⟩ m.kd) m.ak
  else txP (wNum ⟨[], 0⟩ m.kd) m.tx
def putM (m : Msg) : List UInt8 × Int := if okMsg m then doneR (msP m) else ([], 9)
noncomputable def msPutC : Contract := mkC (α := Msg) lnM (fun m => [m.av]) (fun _ => []) (fun m => ⟨[.pv (.c (.sl (bytes (putM m).1))), .pv (.c (.int .i64 (putM m).2))], []⟩)
theorem msPut_at (m : Msg) (h : lnM m) : msPutC [.agg [.c (.int .i64 m.kd), .c (.int .i64 m.bk.vw), .c (.int .i64 m.bk.ht), .c (.str m.bk.pa), .c (.int .i64 m.bk.ju.vw), .c (.int .i64 m.bk.ju.ht), .c (.str m.bk.ju.bl), .c (.sl (votes m.bk.ju.vs)), .c (.sl (trows m.bk.txs)), .c (.str m.bk.sig), .c (.int .i64 m.vo.kd), .c (.int .i64 m.vo.vw), .c (.int .i64 m.vo.ht), .c (.str m.vo.bl), .c (.int .i64 m.vo.tk), .c (.int .i64 m.vo.sg), .c (.str m.vo.sig), .c (.int .i64 m.ct.vw), .c (.int .i64 m.ct.ht), .c (.str m.ct.bl), .c (.sl (votes m.ct.vs)), .c (.sl (votes m.bs)), .c (.str m.ak), .c (.int .i64 m.tx.fr), .c (.int .i64 m.tx.to), .c (.int .i64 m.tx.am), .c (.int .i64 m.tx.no), .c (.str m.tx.sig)]] [] = some ⟨[.pv (.c (.sl (bytes (putM m).1))), .pv (.c (.int .i64 (putM m).2))], []⟩ :=
  mkC_at (α := Msg) m h (by
    rintro y _ h _
    have h : [y.av] = [m.av] := h
    simp only [List.cons.injEq, and_true, Msg.av_iff] at h
    rw [h])
theorem okV_okW {l : List Vt} (h : ∀ v ∈ l, okV v) : okW l := fun v hv => by
  have h1 := okV_bl (h v hv)
  obtain ⟨_, _, _, _, _, _, _, h8⟩ := h v hv
  exact ⟨by omega, by omega⟩

set_option maxRecDepth 100000 in
set_option maxHeartbeats 4000000 in
theorem msPut_sound (hΓ : SoundG Try.prog Γ) (h1 : Γ 79 = msCkC) (h2 : Γ 43 = newC) (h3 : Γ 80 = numC) (h4 : Γ 81 = bkPutC) (h5 : Γ 53 = voPutC) (h6 : Γ 82 = ctPutC) (h7 : Γ 83 = textC) (h8 : Γ 44 = txPutC) (h9 : Γ 45 = doneC) : SoundC Try.prog 38 msPutC := by
  refine sound_fn Try.func38 (by kernel_rfl) rfl rfl ?_
  intro args objs r0 hr
  obtain ⟨⟨kd, bk, vo, ct, bs, ak, tx⟩, hl, rfl, rfl, rfl⟩ := mkC_inv hr
  refine ⟨rfl, by show 1 ≤ _; decide, fun E hN hns hF => ?_⟩
  refine vc_sound hΓ mixed _ _ _ ?_
  have hN := hN.trans nt_38
  have hl : lnM (⟨kd, bk, vo, ct, bs, ak, tx⟩ : Msg) := hl
  have q1 := msCk_at ⟨kd, bk, vo, ct, bs, ak, tx⟩ hl
  dsimp only at q1
  have b0 : ((0 : Int) != 0) = false := rfl
  have b9 : ((9 : Int) != 0) = true := rfl
  have bn : bytes [] = [] := rfl
  have hP1 : okMsg ⟨kd, bk, vo, ct, bs, ak, tx⟩ → putM ⟨kd, bk, vo, ct, bs, ak, tx⟩ = doneR (msP ⟨kd, bk, vo, ct, bs, ak, tx⟩) := fun h => if_pos h
  have hP2 : ¬ okMsg ⟨kd, bk, vo, ct, bs, ak, tx⟩ → putM ⟨kd, bk, vo, ct, bs, ak, tx⟩ = ([], 9) := fun h => if_neg h
  by_cases hk : okMsg ⟨kd, bk, vo, ct, bs, ak, tx⟩
  case neg =>
    rw [hP2 hk]
    rw [show msS ⟨kd, bk, vo, ct, bs, ak, tx⟩ = 9 from if_neg hk] at q1
    clear hP1 hP2
    unfold Msg.av
    simp only [runA, runB, runC, runD, runE, runF, fieldE, storeE, binE, ↓reduceIte, Nat.reduceLT, Nat.reduceLeDiff, Nat.reduceEqDiff, Nat.reduceAdd, Nat.reduceMul, Nat.reduceSub, reduceCtorEq, putAt, unE, Nat.reduceBEq, convE, buildE, List.replicate, Int.reduceLT, Int.reduceLE, Int.reduceToNat, mkE, mapSetE, hN, hF, ty_3, ty_5, ty_9, ty_25, ty_27, ty_50, ty_54, ty_68, ty_70, ty_72, ty_74, ty_76, ty_86, notIf, isEq, h1, q1, b9]
    simp only [runB, finC, finD, Option.isSome_some, Option.isSome_none, ↓reduceIte, Nat.reduceEqDiff, Nat.reduceAdd, Nat.reduceMul, forall_eq_or_imp, forall_eq, implies_true, Nat.reduceBEq, reduceCtorEq, false_implies, List.zip_cons_cons, List.zip_nil_left, List.zip_nil_right, Nat.reduceLeDiff, List.forall_mem_nil, rs_38, ty_3, ty_5, ty_9, ty_25, ty_27, ty_50, ty_54, ty_68, ty_70, ty_72, ty_74, ty_76, ty_86, bn]
  rw [hP1 hk]
  rw [show msS ⟨kd, bk, vo, ct, bs, ak, tx⟩ = 0 from if_pos hk] at q1
  clear hP1 hP2
  obtain ⟨hk2, _⟩ := hk
  have q2 := num_atw ⟨[], 0⟩ kd (by simp)
  have l1 : (wNum ⟨[], 0⟩ kd).b.length ≤ 20482 := wNum_cap kd (by simp)
  unfold Msg.av
  dsimp only at q2 ⊢
  by_cases k1 : kd = 1
  case pos =>
      subst k1
      have c1 : ((1 : Int) == 1) = true := rfl
      have hS : msP ⟨1, bk, vo, ct, bs, ak, tx⟩ = bkP (wNum ⟨[], 0⟩ 1) bk := rfl
      rw [hS]
      have hC : (decide (okB bk) && votedP bk.ju.vs) = true := hk2
      rw [Bool.and_eq_true, decide_eq_true_iff, votedP_iff] at hC
      obtain ⟨hb, hv1, hv2⟩ := hC
      have hbS := okB_okS hb
      obtain ⟨_, _, a5, a6, _, _, a10, _, a12⟩ := hb
      obtain ⟨vw, ht, pa, ⟨jv, jh, jb, js⟩, txs, sig⟩ := bk
      dsimp only at a5 a6 a10 a12 hv1 hv2 hbS
      have hjb : jb.length = 32 := by rw [a6]; exact a5
      have q4 := bkPut_at (wNum ⟨[], 0⟩ 1) vw ht pa jv jh jb js txs sig l1 (by omega) (by omega) hbS (by omega) (by omega) (okV_okW hv2) (by omega)
      have q5 := done_atw (bkP (wNum ⟨[], 0⟩ 1) (⟨vw, ht, pa, ⟨jv, jh, jb, js⟩, txs, sig⟩ : Blk))
      generalize bkP (wNum ⟨[], 0⟩ 1) (⟨vw, ht, pa, ⟨jv, jh, jb, js⟩, txs, sig⟩ : Blk) = w9 at q4 q5 ⊢
      generalize wNum ⟨[], 0⟩ 1 = w1 at q2 q4 ⊢
      simp only [runA, runB, runC, runD, runE, runF, fieldE, storeE, binE, ↓reduceIte, Nat.reduceLT, Nat.reduceLeDiff, Nat.reduceEqDiff, Nat.reduceAdd, Nat.reduceMul, Nat.reduceSub, reduceCtorEq, putAt, unE, Nat.reduceBEq, convE, buildE, List.replicate, Int.reduceLT, Int.reduceLE, Int.reduceToNat, mkE, mapSetE, hN, hF, ty_3, ty_5, ty_9, ty_25, ty_27, ty_50, ty_54, ty_68, ty_70, ty_72, ty_74, ty_76, ty_86, notIf, isEq, h1, h2, h3, h4, h5, h6, h7, h8, h9, q1, q2, q4, q5, b0, newC, c1, bytes_length]
      simp only [runB, finC, finD, Option.isSome_some, Option.isSome_none, ↓reduceIte, Nat.reduceEqDiff, Nat.reduceAdd, Nat.reduceMul, forall_eq_or_imp, forall_eq, implies_true, Nat.reduceBEq, reduceCtorEq, false_implies, List.zip_cons_cons, List.zip_nil_left, List.zip_nil_right, Nat.reduceLeDiff, List.forall_mem_nil, rs_38, ty_3, ty_5, ty_9, ty_25, ty_27, ty_50, ty_54, ty_68, ty_70, ty_72, ty_74, ty_76, ty_86, bytes_length]
  by_cases k2 : kd = 2
  case pos =>
      subst k2
      have c1 : ((2 : Int) == 1) = false := rfl
      have c2 : ((2 : Int) == 2) = true := rfl
      have hS : msP ⟨2, bk, vo, ct, bs, ak, tx⟩ = voP (wNum ⟨[], 0⟩ 2) vo := rfl
      rw [hS]
      have hC : (!odmP vo) = true := hk2
      have hv : okV vo := by simpa [odmP] using hC
      have hw := okV_okW (l := [vo]) (fun v h => by rw [List.mem_singleton] at h; rw [h]; exact hv) vo (by simp)
      have q4 : voPutC [.ptr 6400000 0, vo.av] [[.own 1 (bytes (wNum ⟨[], 0⟩ 2).b), .c (.int .i64 (wNum ⟨[], 0⟩ 2).e), .c (.bool true)]] = some ⟨[], [[.own 1 (bytes (voP (wNum ⟨[], 0⟩ 2) vo).b), .c (.int .i64 (voP (wNum ⟨[], 0⟩ 2) vo).e), .c (.bool true)]]⟩ := voPut_at (wNum ⟨[], 0⟩ 2) vo.kd vo.vw vo.ht vo.bl vo.tk vo.sg vo.sig (by omega) hw.1 hw.2
      unfold Vt.av at q4
      have q5 := done_atw (voP (wNum ⟨[], 0⟩ 2) vo)
      generalize voP (wNum ⟨[], 0⟩ 2) vo = w9 at q4 q5 ⊢
      generalize wNum ⟨[], 0⟩ 2 = w1 at q2 q4 ⊢
      simp only [runA, runB, runC, runD, runE, runF, fieldE, storeE, binE, ↓reduceIte, Nat.reduceLT, Nat.reduceLeDiff, Nat.reduceEqDiff, Nat.reduceAdd, Nat.reduceMul, Nat.reduceSub, reduceCtorEq, putAt, unE, Nat.reduceBEq, convE, buildE, List.replicate, Int.reduceLT, Int.reduceLE, Int.reduceToNat, mkE, mapSetE, hN, hF, ty_3, ty_5, ty_9, ty_25, ty_27, ty_50, ty_54, ty_68, ty_70, ty_72, ty_74, ty_76, ty_86, notIf, isEq, h1, h2, h3, h4, h5, h6, h7, h8, h9, q1, q2, q4, q5, b0, newC, c1, c2, bytes_length]
      simp only [runB, finC, finD, Option.isSome_some, Option.isSome_none, ↓reduceIte, Nat.reduceEqDiff, Nat.reduceAdd, Nat.reduceMul, forall_eq_or_imp, forall_eq, implies_true, Nat.reduceBEq, reduceCtorEq, false_implies, List.zip_cons_cons, List.zip_nil_left, List.zip_nil_right, Nat.reduceLeDiff, List.forall_mem_nil, rs_38, ty_3, ty_5, ty_9, ty_25, ty_27, ty_50, ty_54, ty_68, ty_70, ty_72, ty_74, ty_76, ty_86, bytes_length]
  by_cases k3 : kd = 3
  case pos =>
      subst k3
      have c1 : ((3 : Int) == 1) = false := rfl
      have c2 : ((3 : Int) == 2) = false := rfl
      have c3 : ((3 : Int) == 3) = true := rfl
      have hS : msP ⟨3, bk, vo, ct, bs, ak, tx⟩ = ctP (wNum ⟨[], 0⟩ 3) ct := rfl
      rw [hS]
      have hC : certP ct = true := hk2
      rw [certP_iff] at hC
      obtain ⟨_, _, h32, hv1, hv2⟩ := hC
      obtain ⟨cvw, cht, cbl, cvs⟩ := ct
      dsimp only at h32 hv1 hv2
      have q4 := ctPut_at (wNum ⟨[], 0⟩ 3) cvw cht cbl cvs l1 (by omega) (by omega) (okV_okW hv2)
      have q5 := done_atw (ctP (wNum ⟨[], 0⟩ 3) (⟨cvw, cht, cbl, cvs⟩ : Ct))
      generalize ctP (wNum ⟨[], 0⟩ 3) (⟨cvw, cht, cbl, cvs⟩ : Ct) = w9 at q4 q5 ⊢
      generalize wNum ⟨[], 0⟩ 3 = w1 at q2 q4 ⊢
      simp only [runA, runB, runC, runD, runE, runF, fieldE, storeE, binE, ↓reduceIte, Nat.reduceLT, Nat.reduceLeDiff, Nat.reduceEqDiff, Nat.reduceAdd, Nat.reduceMul, Nat.reduceSub, reduceCtorEq, putAt, unE, Nat.reduceBEq, convE, buildE, List.replicate, Int.reduceLT, Int.reduceLE, Int.reduceToNat, mkE, mapSetE, hN, hF, ty_3, ty_5, ty_9, ty_25, ty_27, ty_50, ty_54, ty_68, ty_70, ty_72, ty_74, ty_76, ty_86, notIf, isEq, h1, h2, h3, h4, h5, h6, h7, h8, h9, q1, q2, q4, q5, b0, newC, c1, c2, c3, bytes_length]
      simp only [runB, finC, finD, Option.isSome_some, Option.isSome_none, ↓reduceIte, Nat.reduceEqDiff, Nat.reduceAdd, Nat.reduceMul, forall_eq_or_imp, forall_eq, implies_true, Nat.reduceBEq, reduceCtorEq, false_implies, List.zip_cons_cons, List.zip_nil_left, List.zip_nil_right, Nat.reduceLeDiff, List.forall_mem_nil, rs_38, ty_3, ty_5, ty_9, ty_25, ty_27, ty_50, ty_54, ty_68, ty_70, ty_72, ty_74, ty_76, ty_86, bytes_length]
  by_cases k4 : kd = 4
  case pos =>
      subst k4
      have c1 : ((4 : Int) == 1) = false := rfl
      have c2 : ((4 : Int) == 2) = false := rfl
      have c3 : ((4 : Int) == 3) = false := rfl
      have c4 : ((4 : Int) == 4) = true := rfl
      have hS : msP ⟨4, bk, vo, ct, bs, ak, tx⟩ = vosP (wNum (wNum ⟨[], 0⟩ 4) (bs.length : Int)) bs := rfl
      rw [hS]
      have hC : votedP bs = true := hk2
      rw [votedP_iff] at hC
      obtain ⟨hv1, hv2⟩ := hC
      have hvs := okV_okW hv2
      have q4 := num_atw (wNum ⟨[], 0⟩ 4) (bs.length : Int) (by omega)
      have l4 := wNum_cap (bs.length : Int) l1
      generalize wNum (wNum ⟨[], 0⟩ 4) (bs.length : Int) = w0 at q4 l4 ⊢
      generalize wNum ⟨[], 0⟩ 4 = w1 at q2 q4
      simp only [runA, runB, runC, runD, runE, runF, fieldE, storeE, binE, ↓reduceIte, Nat.reduceLT, Nat.reduceLeDiff, Nat.reduceEqDiff, Nat.reduceAdd, Nat.reduceMul, Nat.reduceSub, reduceCtorEq, putAt, unE, Nat.reduceBEq, convE, buildE, List.replicate, Int.reduceLT, Int.reduceLE, Int.reduceToNat, mkE, mapSetE, hN, hF, ty_3, ty_5, ty_9, ty_25, ty_27, ty_50, ty_54, ty_68, ty_70, ty_72, ty_74, ty_76, ty_86, notIf, isEq, h1, h2, h3, q1, q2, q4, b0, newC, c1, c2, c3, c4, votes_length, bytes_length]
      refine AWP.loop (fun k st => ∃ i : Nat, i ≤ bs.length ∧ k = bs.length - i ∧ st = ⟨[(5, .ptr 834 0), (46, .c (.sl (votes bs))), (47, .c (.int .i64 (bs.length : Int))), (48, .c (.int .i64 (i : Int)))],
        [(834, .obj [.own 842 1 (bytes (vosP w0 (bs.take i)).b), .c (.int .i64 (vosP w0 (bs.take i)).e), .c (.bool true)] false), (842, .row 1 (vosP w0 (bs.take i)).b.length)]⟩) ⟨bs.length, _, ?w, 0, Nat.zero_le _, rfl, rfl⟩ ?r
      case w =>
        rw [hns]
        simp only [runB, finC, finD, AS.get, AS.mem, false_implies, implies_true, ↓reduceIte, Nat.reduceEqDiff, Option.isSome_some, Option.isSome_none, forall_eq_or_imp, forall_eq, reduceCtorEq, Nat.reduceAdd, Nat.reduceMul, List.zip_cons_cons, List.zip_nil_left, List.zip_nil_right, List.forall_mem_nil, List.take_zero, vosP, List.foldl_nil, bytes_length]
        first | done | simp
      case r =>
        rintro k st ⟨i, hi, rfl, rfl⟩
        refine vc_sound hΓ mixed _ _ _ ?_
        have hc := vosP_cap (l := bs.take i) l4
        by_cases hlt : i < bs.length
        · have k1 : decide ((i : Int) < (bs.length : Int)) = true := by simpa using hlt
          have e1 : IntKind.i64.wrap ((i : Int) + 1) = (i : Int) + 1 := wrapI (by omega)
          have hg := votesD bs i hlt
          obtain ⟨y1, y2⟩ := okW_getD hvs hlt
          have hn : voPutC [.ptr 6400000 0, (bs.getD i zeroV).av] [[.own 1 (bytes (vosP w0 (bs.take i)).b), .c (.int .i64 (vosP w0 (bs.take i)).e), .c (.bool true)]] = some ⟨[], [[.own 1 (bytes (voP (vosP w0 (bs.take i)) (bs.getD i zeroV)).b), .c (.int .i64 (voP (vosP w0 (bs.take i)) (bs.getD i zeroV)).e), .c (.bool true)]]⟩ := voPut_at (vosP w0 (bs.take i)) (bs.getD i zeroV).kd (bs.getD i zeroV).vw (bs.getD i zeroV).ht (bs.getD i zeroV).bl (bs.getD i zeroV).tk (bs.getD i zeroV).sg (bs.getD i zeroV).sig (by omega) y1 y2
          rw [← vosP_take w0 bs i hlt] at hn
          unfold Vt.pcs at hg
          unfold Vt.av at hn
          generalize bs.getD i zeroV = y at hg hn
          generalize vosP w0 (bs.take i) = wi at hn hc ⊢
          simp only [runA, runB, runC, runD, runE, runF, fieldE, storeE, binE, ↓reduceIte, Nat.reduceLT, Nat.reduceLeDiff, Nat.reduceEqDiff, Nat.reduceAdd, Nat.reduceMul, Nat.reduceSub, reduceCtorEq, putAt, unE, Nat.reduceBEq, convE, buildE, List.replicate, Int.reduceLT, Int.reduceLE, Int.reduceToNat, mkE, mapSetE, hN, hF, ty_3, ty_5, ty_9, ty_25, ty_27, ty_50, ty_54, ty_68, ty_70, ty_72, ty_74, ty_76, ty_86, notIf, isEq, k1, e1, hg, h5, hn, bytes_length]
          refine ⟨bs.length - (i + 1), _, by omega, ?_, i + 1, by omega, rfl, rfl⟩
          rw [hns]
          simp only [runB, finC, finD, AS.get, AS.mem, false_implies, implies_true, ↓reduceIte, Nat.reduceEqDiff, Option.isSome_some, Option.isSome_none, forall_eq_or_imp, forall_eq, reduceCtorEq, Nat.reduceAdd, Nat.reduceMul, List.zip_cons_cons, List.zip_nil_left, List.zip_nil_right, List.forall_mem_nil, bytes_length]
          first | done | simp
        · have k1 : decide ((i : Int) < (bs.length : Int)) = false := by simpa using hlt
          have hil : i = bs.length := by omega
          have ht : bs.take i = bs := by rw [hil, List.take_length]
          rw [ht]
          have q5 := done_atw (vosP w0 bs)
          generalize vosP w0 bs = w9 at q5 ⊢
          have hx : ∀ Q s, inBlockA 1 Q (.exit 0) s = Q (.exit 0) s := by simp [inBlockA]
          simp only [runA, runB, runC, runD, runE, runF, fieldE, storeE, binE, ↓reduceIte, Nat.reduceLT, Nat.reduceLeDiff, Nat.reduceEqDiff, Nat.reduceAdd, Nat.reduceMul, Nat.reduceSub, reduceCtorEq, putAt, unE, Nat.reduceBEq, convE, buildE, List.replicate, Int.reduceLT, Int.reduceLE, Int.reduceToNat, mkE, mapSetE, hN, hF, ty_3, ty_5, ty_9, ty_25, ty_27, ty_50, ty_54, ty_68, ty_70, ty_72, ty_74, ty_76, ty_86, notIf, isEq, k1, h9, q5, hx, bytes_length]
          simp only [runB, finC, finD, Option.isSome_some, Option.isSome_none, ↓reduceIte, Nat.reduceEqDiff, Nat.reduceAdd, Nat.reduceMul, forall_eq_or_imp, forall_eq, implies_true, Nat.reduceBEq, reduceCtorEq, false_implies, List.zip_cons_cons, List.zip_nil_left, List.zip_nil_right, Nat.reduceLeDiff, List.forall_mem_nil, rs_38, ty_3, ty_5, ty_9, ty_25, ty_27, ty_50, ty_54, ty_68, ty_70, ty_72, ty_74, ty_76, ty_86, bytes_length]
  by_cases k5 : kd = 5
  case pos =>
      subst k5
      have c1 : ((5 : Int) == 1) = false := rfl
      have c2 : ((5 : Int) == 2) = false := rfl
      have c3 : ((5 : Int) == 3) = false := rfl
      have c4 : ((5 : Int) == 4) = false := rfl
      have c5 : ((5 : Int) == 5) = true := rfl
      have hS : msP ⟨5, bk, vo, ct, bs, ak, tx⟩ = rText (wNum ⟨[], 0⟩ 5) ak := rfl
      rw [hS]
      have hC : ((ak.length : Int) == 32) = true := hk2
      have h32 : (ak.length : Int) = 32 := by simpa using hC
      have q4 := text_atw (wNum ⟨[], 0⟩ 5) ak (by omega) (by omega)
      have q5 := done_atw (rText (wNum ⟨[], 0⟩ 5) ak)
      generalize rText (wNum ⟨[], 0⟩ 5) ak = w9 at q4 q5 ⊢
      generalize wNum ⟨[], 0⟩ 5 = w1 at q2 q4 ⊢
      simp only [runA, runB, runC, runD, runE, runF, fieldE, storeE, binE, ↓reduceIte, Nat.reduceLT, Nat.reduceLeDiff, Nat.reduceEqDiff, Nat.reduceAdd, Nat.reduceMul, Nat.reduceSub, reduceCtorEq, putAt, unE, Nat.reduceBEq, convE, buildE, List.replicate, Int.reduceLT, Int.reduceLE, Int.reduceToNat, mkE, mapSetE, hN, hF, ty_3, ty_5, ty_9, ty_25, ty_27, ty_50, ty_54, ty_68, ty_70, ty_72, ty_74, ty_76, ty_86, notIf, isEq, h1, h2, h3, h4, h5, h6, h7, h8, h9, q1, q2, q4, q5, b0, newC, c1, c2, c3, c4, c5, bytes_length]
      simp only [runB, finC, finD, Option.isSome_some, Option.isSome_none, ↓reduceIte, Nat.reduceEqDiff, Nat.reduceAdd, Nat.reduceMul, forall_eq_or_imp, forall_eq, implies_true, Nat.reduceBEq, reduceCtorEq, false_implies, List.zip_cons_cons, List.zip_nil_left, List.zip_nil_right, Nat.reduceLeDiff, List.forall_mem_nil, rs_38, ty_3, ty_5, ty_9, ty_25, ty_27, ty_50, ty_54, ty_68, ty_70, ty_72, ty_74, ty_76, ty_86, bytes_length]
  have k6 : kd = 6 := by
    rcases Classical.em (kd = 6) with h | h
    · exact h
    · exfalso
      have : canM ⟨kd, bk, vo, ct, bs, ak, tx⟩ = (zeroMsg, false) := by
        unfold canM; dsimp only
        rw [if_neg k1, if_neg k2, if_neg k3, if_neg k4, if_neg k5, if_neg h]
      rw [this] at hk2
      cases hk2
  subst k6
  have c1 : ((6 : Int) == 1) = false := rfl
  have c2 : ((6 : Int) == 2) = false := rfl
  have c3 : ((6 : Int) == 3) = false := rfl
  have c4 : ((6 : Int) == 4) = false := rfl
  have c5 : ((6 : Int) == 5) = false := rfl
  have c6 : ((6 : Int) == 6) = true := rfl
  have hS : msP ⟨6, bk, vo, ct, bs, ak, tx⟩ = txP (wNum ⟨[], 0⟩ 6) tx := rfl
  rw [hS]
  have hC : decide (okT tx) = true := hk2
  have hT : okT tx := of_decide_eq_true hC
  have hsig : tx.sig.length ≤ 9223372036854775807 := by have := hT.2.2.2.2.2; unfold okT at hT; omega
  have q4 := txPut_at (wNum ⟨[], 0⟩ 6) tx (by omega) hsig
  rw [show rText (txF (wNum ⟨[], 0⟩ 6) tx 4) tx.sig = txP (wNum ⟨[], 0⟩ 6) tx from rfl] at q4
  have q5 := done_atw (txP (wNum ⟨[], 0⟩ 6) tx)
  generalize txP (wNum ⟨[], 0⟩ 6) tx = w9 at q4 q5 ⊢
  generalize wNum ⟨[], 0⟩ 6 = w1 at q2 q4 ⊢
  simp only [runA, runB, runC, runD, runE, runF, fieldE, storeE, binE, ↓reduceIte, Nat.reduceLT, Nat.reduceLeDiff, Nat.reduceEqDiff, Nat.reduceAdd, Nat.reduceMul, Nat.reduceSub, reduceCtorEq, putAt, unE, Nat.reduceBEq, convE, buildE, List.replicate, Int.reduceLT, Int.reduceLE, Int.reduceToNat, mkE, mapSetE, hN, hF, ty_3, ty_5, ty_9, ty_25, ty_27, ty_50, ty_54, ty_68, ty_70, ty_72, ty_74, ty_76, ty_86, notIf, isEq, h1, h2, h3, h4, h5, h6, h7, h8, h9, q1, q2, q4, q5, b0, newC, c1, c2, c3, c4, c5, c6, bytes_length]
  simp only [runB, finC, finD, Option.isSome_some, Option.isSome_none, ↓reduceIte, Nat.reduceEqDiff, Nat.reduceAdd, Nat.reduceMul, forall_eq_or_imp, forall_eq, implies_true, Nat.reduceBEq, reduceCtorEq, false_implies, List.zip_cons_cons, List.zip_nil_left, List.zip_nil_right, Nat.reduceLeDiff, List.forall_mem_nil, rs_38, ty_3, ty_5, ty_9, ty_25, ty_27, ty_50, ty_54, ty_68, ty_70, ty_72, ty_74, ty_76, ty_86, bytes_length]

end Go.Proofs.Ytldehcnaepgamaa.AM
