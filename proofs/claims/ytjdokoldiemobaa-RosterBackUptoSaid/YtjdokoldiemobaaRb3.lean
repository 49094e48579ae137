/-
  Setups as octets: roster.Read.
-/
import Derived.Test.YtjdokoldiemobaaRb2
set_option linter.unusedVariables false
set_option linter.unusedSimpArgs false
namespace Go.Proofs.Ytjdokoldiemobaa.AM
open Go

variable {Γ : FuncId → Contract}

noncomputable def readSC : Contract := mkC (α := List UInt8) (fun b => b.length ≤ 140737488355328) (fun b => [.c (.sl (bytes b))]) (fun _ => []) (fun b => ⟨[.pv (.agg [.c (.int .i64 (readS b).1.r), .c (.int .i64 (readS b).1.q), .c (.int .i64 (readS b).1.c), .c (.sl (ruls (readS b).1.l))]), .pv (.c (.int .i64 (readS b).2))], []⟩)
theorem readS_at (b : List UInt8) (h : b.length ≤ 140737488355328) : readSC [.c (.sl (bytes b))] [] = some ⟨[.pv (.agg [.c (.int .i64 (readS b).1.r), .c (.int .i64 (readS b).1.q), .c (.int .i64 (readS b).1.c), .c (.sl (ruls (readS b).1.l))]), .pv (.c (.int .i64 (readS b).2))], []⟩ :=
  mkC_at (α := List UInt8) b h (fun y _ h1 _ => by
    simp at h1
    rw [bytes_inj h1])

theorem open_atr (b : List UInt8) (h : b.length ≤ 140737488355328) : openC [.c (.sl (bytes b))] [] = some ⟨[.newobj [.c (.sl (bytes b)), .c (.int .i64 0), .c (.bool true)]], []⟩ := by
  simp [openC, asB_bytes, h]
theorem text_atr (b : List UInt8) (h : b.length ≤ 140737488355328) : rdTextC [.ptr 6400000 0, .c (.int .i64 5)] [[.c (.sl (bytes b)), .c (.int .i64 0), .c (.bool true)]] = some ⟨[.pv (.c (.str (nextT ⟨b, 0⟩ 5).1))], [[.c (.sl (bytes (nextT ⟨b, 0⟩ 5).2.b)), .c (.int .i64 (nextT ⟨b, 0⟩ 5).2.e), .c (.bool true)]]⟩ := by
  have h2 : b.length ≤ 9223372036854775807 := by omega
  simp [rdTextC, asB_bytes, inObj, h2]
theorem num_atr (r : RS) (most : Int) (h : r.b.length ≤ 140737488355328) : rdNumC [.ptr 6400000 0, .c (.int .i64 most)] [[.c (.sl (bytes r.b)), .c (.int .i64 r.e), .c (.bool true)]] = some ⟨[.pv (.c (.int .i64 (rd r most).1))], [[.c (.sl (bytes (rd r most).2.b)), .c (.int .i64 (rd r most).2.e), .c (.bool true)]]⟩ := by
  have h2 : r.b.length ≤ 9223372036854775807 := by omega
  unfold rd
  by_cases he : r.e = 0
  · simp [rdNumC, asB_bytes, inObj, h2, he]
  · simp [rdNumC, asB_bytes, inObj, h2, he]
theorem err_atr (r : RS) : errC [.ptr 6400000 0] [[.c (.sl (bytes r.b)), .c (.int .i64 r.e), .c (.bool true)]] = some ⟨[.pv (.c (.int .i64 r.e))], [[.c (.sl (bytes r.b)), .c (.int .i64 r.e), .c (.bool true)]]⟩ := by
  simp [errC, inObj]
theorem left_atr (r : RS) (h : r.e = 0) : leftC [.ptr 6400000 0] [[.c (.sl (bytes r.b)), .c (.int .i64 r.e), .c (.bool true)]] = some ⟨[.pv (.c (.int .i64 (r.b.length : Int)))], [[.c (.sl (bytes r.b)), .c (.int .i64 r.e), .c (.bool true)]]⟩ := by
  simp [leftC, inObj, h, bytes_length]
theorem nextN_len {b : List UInt8} {most : Int} : (nextN ⟨b, 0⟩ most).2.b.length ≤ b.length ∧ 0 ≤ (nextN ⟨b, 0⟩ most).1 ∧ (0 ≤ most → (nextN ⟨b, 0⟩ most).1 ≤ most) := by
  unfold nextN
  split
  · simp
  · split
    · simp
    · rename_i h
      dsimp only at h ⊢
      exact ⟨by simp, by unfold getB; omega, fun _ => by omega⟩
theorem rd_len (r : RS) (most : Int) : (rd r most).2.b.length ≤ r.b.length ∧ 0 ≤ (rd r most).1 ∧ (0 ≤ most → (rd r most).1 ≤ most) := by
  unfold rd
  split
  · exact nextN_len
  · exact ⟨Nat.le_refl _, Int.le_refl _, fun h => h⟩
theorem nextT_len {b : List UInt8} : (nextT ⟨b, 0⟩ 5).2.b.length ≤ b.length := by
  unfold nextT
  split
  · simp
  · split
    · simp
    · unfold tookR
      split
      · simp
      · simp
theorem rr_len (r : RS) : ∀ i, (rr r i).2.b.length ≤ r.b.length
  | 0 => Nat.le_refl _
  | i + 1 => by
    have h1 := rr_len r i
    have h2 := (rd_len (rr r i).2 1099511627776).1
    have h3 := (rd_len (rd (rr r i).2 1099511627776).2 1099511627776).1
    rw [rr]; dsimp only; omega
theorem ruls1 (x y : Int) : [[PC.int .i64 x, PC.int .i64 y]] = ruls [(x, y)] := rfl
theorem ruls_app (a b : List Rul) : ruls a ++ ruls b = ruls (a ++ b) := by simp [ruls]
theorem rowsOK_ruls (l : List Rul) : rowsOK 2 (ruls l) := by
  intro r hr
  simp only [ruls, List.mem_map] at hr
  obtain ⟨b, _, rfl⟩ := hr
  rfl

set_option maxRecDepth 100000 in
set_option maxHeartbeats 4000000 in
theorem readS_sound (hΓ : SoundG Try.prog Γ) (h1 : Γ 86 = openC) (h2 : Γ 88 = rdNumC) (h3 : Γ 87 = rdTextC) (h4 : Γ 89 = errC) (h5 : Γ 90 = leftC) (h6 : Γ 40 = ckC) : SoundC Try.prog 41 readSC := by
  refine sound_fn Try.func41 (by kernel_rfl) rfl rfl ?_
  intro args objs r0 hr
  obtain ⟨b, hl, rfl, rfl, rfl⟩ := mkC_inv hr
  refine ⟨rfl, by show 1 ≤ _; decide, fun E hN hns hF => ?_⟩
  refine vc_sound hΓ mixed _ _ _ ?_
  have hN := hN.trans nt_41
  have q1 := open_atr b hl
  have q2 := text_atr b hl
  have hnl := nextT_len (b := b)
  by_cases ht : (nextT ⟨b, 0⟩ 5).1 = setupB
  case neg =>
    have hS : readS b = (zeroS, 33) := by unfold readS; rw [if_pos ht]
    have g1 : ((nextT ⟨b, 0⟩ 5).1 == [115, 101, 116, 117, 112]) = false := by simpa [setupB] using ht
    rw [hS]
    generalize nextT ⟨b, 0⟩ 5 = tt at q2 g1
    simp only [runA, ncE, faE, fieldE, extE, cloE, bsE, idxE, okE, okM, entryT, entryMem, cellsAt, List.append_nil, List.nil_append, List.cons_append, loadE, storeE, binE, isSh, intOp, AV.flat, Option.map_some, Option.map_none, ↓reduceIte, Nat.reduceLT, Nat.reduceLeDiff, Nat.reduceEqDiff, Nat.reduceAdd, Nat.reduceMul, Nat.reduceSub, decide_true, decide_false, Option.getD_some, Option.getD_none, objName, rowName, resName, resCell, inObj, inRow, outName, outCell, EP.bind, List.getElem?_cons_zero, List.getElem?_cons_succ, List.length_cons, List.length_nil, List.map_cons, List.map_nil, cndE, reduceCtorEq, and_self, and_true, true_and, List.all_cons, List.all_nil, AV.scal, Bool.and_self, Bool.and_true, putAt, List.take, List.drop, Option.bind_some, Option.bind_none, Bool.false_eq_true, callE, argsE, AV.pure?, AV.toPC, toPCs, objsE, cellsE, resAt, backObjs, backCells, freeE, keys, exitMem, shapeOf, oneE, List.nodup_cons, List.mem_cons, List.not_mem_nil, or_false, not_false_eq_true, List.nodup_nil, ext, unE, Nat.reduceBEq, builtinE, lenE, AV.rows, appendE, addedE, newRowE, newObjE, strz, mm, convE, buildE, fillE, chunks, List.replicate, List.flatten, guardE, cndQ, List.getElem?_toArray, List.flatMap, List.flatten_cons, List.flatten_nil, Int.reduceLT, Int.reduceLE, Int.reduceToNat, Option.map, Nat.zero_add, Nat.mul_one, Nat.one_mul, Nat.zero_le, Nat.add_zero, List.length_append, beq_true, beq_false, Bool.not_true, Bool.not_false, strOp, beq_self_eq_true, Int.toNat_natCast, indexE, Int.natCast_nonneg, mkE, newMslE, Bool.or_false, Bool.or_true, Bool.false_or, Bool.true_or, look2, denil, List.append_eq, once, without, convO, hN, hF, ty_3, ty_5, ty_9, ty_26, ty_49, ty_61, ty_63, ty_131, ty_134, notIf, isEq, h1, q1, h3, q2, g1]
    simp only [retQ, retE, RetOK, objPairs, resPairs, cellPairs, objCells, retRen, retMem, exitMem, exitVals, resAt, entryMem, cellsAt, AMds, AMd, CMd, keys, List.append_nil, List.nil_append, List.cons_append, List.map_cons, List.map_nil, List.nodup_cons, List.mem_cons, List.not_mem_nil, or_false, not_false_eq_true, List.nodup_nil, get_mk, mem_mk, look_nil, look_cons, Option.isSome_some, Option.isSome_none, and_self, and_true, true_and, ↓reduceIte, Nat.reduceEqDiff, Nat.reduceAdd, Nat.reduceMul, Option.getD_some, inObj, inRow, outName, outCell, forall_eq_or_imp, forall_eq, implies_true, Nat.reduceBEq, reduceCtorEq, Bool.false_eq_true, andThen_some, andThen_none, Nat.zero_add, List.length_nil, List.length_cons, false_implies, List.length_append, loadE, run_ask, run_ret, run_fail, obind_some, obind_none, List.zip_cons_cons, List.zip_nil_left, List.zip_nil_right, AMd.AMp, List.take, List.drop, List.getElem?_cons_zero, List.getElem?_cons_succ, Nat.reduceLeDiff, Nat.zero_le, List.forall_mem_nil, rs_41, zeroS, ruls, List.map_nil, ty_3, ty_5, ty_9, ty_26, ty_49, ty_61, ty_63, ty_131, ty_134]
  have hS0 : readS b = if (fin (nextT ⟨b, 0⟩ 5).2).2.e ≠ 0 ∨ 0 < (fin (nextT ⟨b, 0⟩ 5).2).2.b.length ∨ checkS (gotS (nextT ⟨b, 0⟩ 5).2) ≠ 0 then (zeroS, 33) else (gotS (nextT ⟨b, 0⟩ 5).2, 0) := by
    unfold readS; rw [if_neg (by rw [ht]; simp)]
  rw [ht] at q2
  generalize (nextT ⟨b, 0⟩ 5).2 = r0 at q2 hS0 hnl
  have g1 : (setupB == [115, 101, 116, 117, 112]) = true := by decide
  have l1 : r0.b.length ≤ 140737488355328 := by omega
  have n1 : rdNumC _ _ = some ⟨[.pv (.c (.int .i64 (a1 r0).1))], [[.c (.sl (bytes (a1 r0).2.b)), .c (.int .i64 (a1 r0).2.e), .c (.bool true)]]⟩ := num_atr r0 5 l1
  have l2 : (a1 r0).2.b.length ≤ 140737488355328 := by have := (rd_len r0 5).1; unfold a1; omega
  have n2 : rdNumC _ _ = some ⟨[.pv (.c (.int .i64 (a2 r0).1))], [[.c (.sl (bytes (a2 r0).2.b)), .c (.int .i64 (a2 r0).2.e), .c (.bool true)]]⟩ := num_atr (a1 r0).2 5 l2
  have l3 : (a2 r0).2.b.length ≤ 140737488355328 := by have := (rd_len (a1 r0).2 5).1; unfold a2; omega
  have n3 : rdNumC _ _ = some ⟨[.pv (.c (.int .i64 (a3 r0).1))], [[.c (.sl (bytes (a3 r0).2.b)), .c (.int .i64 (a3 r0).2.e), .c (.bool true)]]⟩ := num_atr (a2 r0).2 32 l3
  have l4 : (a3 r0).2.b.length ≤ 140737488355328 := by have := (rd_len (a2 r0).2 32).1; unfold a3; omega
  have n4 : rdNumC _ _ = some ⟨[.pv (.c (.int .i64 (a4 r0).1))], [[.c (.sl (bytes (a4 r0).2.b)), .c (.int .i64 (a4 r0).2.e), .c (.bool true)]]⟩ := num_atr (a3 r0).2 3 l4
  have l5 : (a4 r0).2.b.length ≤ 140737488355328 := by have := (rd_len (a3 r0).2 3).1; unfold a4; omega
  obtain ⟨hk0, hk3⟩ : 0 ≤ (a4 r0).1 ∧ (a4 r0).1 ≤ 3 := by
    obtain ⟨_, x, y⟩ := rd_len (a3 r0).2 3
    exact ⟨x, y (by decide)⟩
  obtain ⟨K, hK⟩ : ∃ K : Nat, (a4 r0).1 = (K : Int) := ⟨(a4 r0).1.toNat, by omega⟩
  have hK3 : K ≤ 3 := by omega
  have hfin : fin r0 = rr (a4 r0).2 K := by unfold fin; rw [hK, Int.toNat_natCast]
  have hgot : gotS r0 = ⟨(a1 r0).1, (a2 r0).1, (a3 r0).1, (rr (a4 r0).2 K).1⟩ := by unfold gotS; rw [hfin]
  rw [hfin, hgot] at hS0
  rw [hK] at n4
  generalize (a4 r0).2 = r4 at n4 l5 hS0
  simp only [runA, ncE, faE, fieldE, extE, cloE, bsE, idxE, okE, okM, entryT, entryMem, cellsAt, List.append_nil, List.nil_append, List.cons_append, loadE, storeE, binE, isSh, intOp, AV.flat, Option.map_some, Option.map_none, ↓reduceIte, Nat.reduceLT, Nat.reduceLeDiff, Nat.reduceEqDiff, Nat.reduceAdd, Nat.reduceMul, Nat.reduceSub, decide_true, decide_false, Option.getD_some, Option.getD_none, objName, rowName, resName, resCell, inObj, inRow, outName, outCell, EP.bind, List.getElem?_cons_zero, List.getElem?_cons_succ, List.length_cons, List.length_nil, List.map_cons, List.map_nil, cndE, reduceCtorEq, and_self, and_true, true_and, List.all_cons, List.all_nil, AV.scal, Bool.and_self, Bool.and_true, putAt, List.take, List.drop, Option.bind_some, Option.bind_none, Bool.false_eq_true, callE, argsE, AV.pure?, AV.toPC, toPCs, objsE, cellsE, resAt, backObjs, backCells, freeE, keys, exitMem, shapeOf, oneE, List.nodup_cons, List.mem_cons, List.not_mem_nil, or_false, not_false_eq_true, List.nodup_nil, ext, unE, Nat.reduceBEq, builtinE, lenE, AV.rows, appendE, addedE, newRowE, newObjE, strz, mm, convE, buildE, fillE, chunks, List.replicate, List.flatten, guardE, cndQ, List.getElem?_toArray, List.flatMap, List.flatten_cons, List.flatten_nil, Int.reduceLT, Int.reduceLE, Int.reduceToNat, Option.map, Nat.zero_add, Nat.mul_one, Nat.one_mul, Nat.zero_le, Nat.add_zero, List.length_append, beq_true, beq_false, Bool.not_true, Bool.not_false, strOp, beq_self_eq_true, Int.toNat_natCast, indexE, Int.natCast_nonneg, mkE, newMslE, Bool.or_false, Bool.or_true, Bool.false_or, Bool.true_or, look2, denil, List.append_eq, once, without, convO, hN, hF, ty_3, ty_5, ty_9, ty_26, ty_49, ty_61, ty_63, ty_131, ty_134, notIf, isEq, h1, q1, h3, q2, g1, h2, n1, n2, n3, n4]
  refine AWP.loop (fun k st => ∃ i : Nat, i ≤ K ∧ k = K - i ∧ st = ⟨[(2, .ptr 128 0), (4, .ptr 450 0), (5, .ptr 320 0), (20, .c (.int .i64 (K : Int))), (21, .c (.int .i64 (i : Int)))],
    [(128, .obj [.c (.int .i64 0), .c (.int .i64 0), .c (.int .i64 0), .nilsl] false), (450, .obj [.c (.sl (bytes (rr r4 i).2.b)), .c (.int .i64 (rr r4 i).2.e), .c (.bool true)] false), (320, .obj [.c (.int .i64 (a1 r0).1), .c (.int .i64 (a2 r0).1), .c (.int .i64 (a3 r0).1), .own 321 2 (ruls (rr r4 i).1)] false), (321, .row 2 i)]⟩) ⟨K, _, ?w, 0, Nat.zero_le _, rfl, rfl⟩ ?r
  case w =>
    rw [hns]
    simp only [Weak, wkM, wkT, wkRen, AMd, AMds, AMd.AMp, CMd, look_cons, look_nil, get_mk, mem_mk, AS.get, AS.mem, keys, entryMem, cellsAt, List.map_nil, List.map_cons, List.not_mem_nil, List.mem_cons, or_false, false_implies, implies_true, and_true, true_and, and_self, ↓reduceIte, Nat.reduceEqDiff, Option.getD_some, Option.getD_none, Option.map_some, Option.map_none, Option.isSome_some, Option.isSome_none, forall_eq_or_imp, forall_eq, reduceCtorEq, List.append_nil, List.nil_append, List.cons_append, Nat.reduceAdd, Nat.reduceMul, inObj, inRow]
    first | done | simp [rr, ruls]
  case r =>
    rintro k st ⟨i, hi, rfl, rfl⟩
    refine vc_sound hΓ mixed _ _ _ ?_
    have hrl := rr_length r4 i
    have hrb := rr_len r4 i
    by_cases hlt : i < K
    · have g2 : decide ((i : Int) < (K : Int)) = true := by simpa using hlt
      have e1 : IntKind.i64.wrap ((i : Int) + 1) = (i : Int) + 1 := wrapI (by omega)
      have m1 := num_atr (rr r4 i).2 1099511627776 (by omega)
      have m2 := num_atr (rd (rr r4 i).2 1099511627776).2 1099511627776 (by have := (rd_len (rr r4 i).2 1099511627776).1; omega)
      have hs1 : (rr r4 (i + 1)).1 = (rr r4 i).1 ++ [((rd (rr r4 i).2 1099511627776).1, (rd (rd (rr r4 i).2 1099511627776).2 1099511627776).1)] := rfl
      have hs2 : (rr r4 (i + 1)).2 = (rd (rd (rr r4 i).2 1099511627776).2 1099511627776).2 := rfl
      rw [← hs2] at m2
      have hz := rowsOK_ruls
      have hL : ((i + 1) * 16 ≤ 140737488355328) = True := eq_true (by omega)
      have hrl' : (ruls (rr r4 i).1).length = i := by simpa [ruls] using hrl
      have hr1 : ∀ x : Rul, (ruls [x]).length = 1 := fun _ => rfl
      simp only [runA, ncE, faE, fieldE, extE, cloE, bsE, idxE, okE, okM, entryT, entryMem, cellsAt, List.append_nil, List.nil_append, List.cons_append, loadE, storeE, binE, isSh, intOp, AV.flat, Option.map_some, Option.map_none, ↓reduceIte, Nat.reduceLT, Nat.reduceLeDiff, Nat.reduceEqDiff, Nat.reduceAdd, Nat.reduceMul, Nat.reduceSub, decide_true, decide_false, Option.getD_some, Option.getD_none, objName, rowName, resName, resCell, inObj, inRow, outName, outCell, EP.bind, List.getElem?_cons_zero, List.getElem?_cons_succ, List.length_cons, List.length_nil, List.map_cons, List.map_nil, cndE, reduceCtorEq, and_self, and_true, true_and, List.all_cons, List.all_nil, AV.scal, Bool.and_self, Bool.and_true, putAt, List.take, List.drop, Option.bind_some, Option.bind_none, Bool.false_eq_true, callE, argsE, AV.pure?, AV.toPC, toPCs, objsE, cellsE, resAt, backObjs, backCells, freeE, keys, exitMem, shapeOf, oneE, List.nodup_cons, List.mem_cons, List.not_mem_nil, or_false, not_false_eq_true, List.nodup_nil, ext, unE, Nat.reduceBEq, builtinE, lenE, AV.rows, appendE, addedE, newRowE, newObjE, strz, mm, convE, buildE, fillE, chunks, List.replicate, List.flatten, guardE, cndQ, List.getElem?_toArray, List.flatMap, List.flatten_cons, List.flatten_nil, Int.reduceLT, Int.reduceLE, Int.reduceToNat, Option.map, Nat.zero_add, Nat.mul_one, Nat.one_mul, Nat.zero_le, Nat.add_zero, List.length_append, beq_true, beq_false, Bool.not_true, Bool.not_false, strOp, beq_self_eq_true, Int.toNat_natCast, indexE, Int.natCast_nonneg, mkE, newMslE, Bool.or_false, Bool.or_true, Bool.false_or, Bool.true_or, look2, denil, List.append_eq, once, without, convO, hN, hF, ty_3, ty_5, ty_9, ty_26, ty_49, ty_61, ty_63, ty_131, ty_134, notIf, isEq, h1, q1, h3, q2, g1, h2, g2, e1, m1, m2, hz, hL, hrl', hr1, ruls1, ruls_app, ← hs1, if_true]
      refine drawnP_intro (by kernel_rfl) (by kernel_rfl) ?_
      simp only [runA, ncE, faE, fieldE, extE, cloE, bsE, idxE, okE, okM, entryT, entryMem, cellsAt, List.append_nil, List.nil_append, List.cons_append, loadE, storeE, binE, isSh, intOp, AV.flat, Option.map_some, Option.map_none, ↓reduceIte, Nat.reduceLT, Nat.reduceLeDiff, Nat.reduceEqDiff, Nat.reduceAdd, Nat.reduceMul, Nat.reduceSub, decide_true, decide_false, Option.getD_some, Option.getD_none, objName, rowName, resName, resCell, inObj, inRow, outName, outCell, EP.bind, List.getElem?_cons_zero, List.getElem?_cons_succ, List.length_cons, List.length_nil, List.map_cons, List.map_nil, cndE, reduceCtorEq, and_self, and_true, true_and, List.all_cons, List.all_nil, AV.scal, Bool.and_self, Bool.and_true, putAt, List.take, List.drop, Option.bind_some, Option.bind_none, Bool.false_eq_true, callE, argsE, AV.pure?, AV.toPC, toPCs, objsE, cellsE, resAt, backObjs, backCells, freeE, keys, exitMem, shapeOf, oneE, List.nodup_cons, List.mem_cons, List.not_mem_nil, or_false, not_false_eq_true, List.nodup_nil, ext, unE, Nat.reduceBEq, builtinE, lenE, AV.rows, appendE, addedE, newRowE, newObjE, strz, mm, convE, buildE, fillE, chunks, List.replicate, List.flatten, guardE, cndQ, List.getElem?_toArray, List.flatMap, List.flatten_cons, List.flatten_nil, Int.reduceLT, Int.reduceLE, Int.reduceToNat, Option.map, Nat.zero_add, Nat.mul_one, Nat.one_mul, Nat.zero_le, Nat.add_zero, List.length_append, beq_true, beq_false, Bool.not_true, Bool.not_false, strOp, beq_self_eq_true, Int.toNat_natCast, indexE, Int.natCast_nonneg, mkE, newMslE, Bool.or_false, Bool.or_true, Bool.false_or, Bool.true_or, look2, denil, List.append_eq, once, without, convO, hN, hF, ty_3, ty_5, ty_9, ty_26, ty_49, ty_61, ty_63, ty_131, ty_134, notIf, isEq, h1, q1, h3, q2, g1, h2, g2, e1, m1, m2, hz, hL, hrl', hr1, ruls1, ruls_app, ← hs1, if_true]
      refine ⟨K - (i + 1), _, by omega, ?_, i + 1, by omega, rfl, rfl⟩
      rw [hns]
      simp only [Weak, wkM, wkT, wkRen, AMd, AMds, AMd.AMp, CMd, look_cons, look_nil, get_mk, mem_mk, AS.get, AS.mem, keys, entryMem, cellsAt, List.map_nil, List.map_cons, List.not_mem_nil, List.mem_cons, or_false, false_implies, implies_true, and_true, true_and, and_self, ↓reduceIte, Nat.reduceEqDiff, Option.getD_some, Option.getD_none, Option.map_some, Option.map_none, Option.isSome_some, Option.isSome_none, forall_eq_or_imp, forall_eq, reduceCtorEq, List.append_nil, List.nil_append, List.cons_append, Nat.reduceAdd, Nat.reduceMul, inObj, inRow]
      rfl
    · obtain rfl : i = K := by omega
      have g2 : decide ((i : Int) < (i : Int)) = false := by simp
      have hrl' : (ruls (rr r4 i).1).length = i := by simpa [ruls] using hrl
      have hc := ck_at (a1 r0).1 (a2 r0).1 (a3 r0).1 (rr r4 i).1 (by omega)
      have he := err_atr (rr r4 i).2
      rw [hS0]
      clear hS0
      generalize (rr r4 i).2 = rz at he hrb ⊢
      by_cases c1 : rz.e = 0
      case neg =>
        have c1' : (rz.e != 0) = true := by simpa using c1
        rw [if_pos (Or.inl c1)]
        simp only [runA, ncE, faE, fieldE, extE, cloE, bsE, idxE, okE, okM, entryT, entryMem, cellsAt, List.append_nil, List.nil_append, List.cons_append, loadE, storeE, binE, isSh, intOp, AV.flat, Option.map_some, Option.map_none, ↓reduceIte, Nat.reduceLT, Nat.reduceLeDiff, Nat.reduceEqDiff, Nat.reduceAdd, Nat.reduceMul, Nat.reduceSub, decide_true, decide_false, Option.getD_some, Option.getD_none, objName, rowName, resName, resCell, inObj, inRow, outName, outCell, EP.bind, List.getElem?_cons_zero, List.getElem?_cons_succ, List.length_cons, List.length_nil, List.map_cons, List.map_nil, cndE, reduceCtorEq, and_self, and_true, true_and, List.all_cons, List.all_nil, AV.scal, Bool.and_self, Bool.and_true, putAt, List.take, List.drop, Option.bind_some, Option.bind_none, Bool.false_eq_true, callE, argsE, AV.pure?, AV.toPC, toPCs, objsE, cellsE, resAt, backObjs, backCells, freeE, keys, exitMem, shapeOf, oneE, List.nodup_cons, List.mem_cons, List.not_mem_nil, or_false, not_false_eq_true, List.nodup_nil, ext, unE, Nat.reduceBEq, builtinE, lenE, AV.rows, appendE, addedE, newRowE, newObjE, strz, mm, convE, buildE, fillE, chunks, List.replicate, List.flatten, guardE, cndQ, List.getElem?_toArray, List.flatMap, List.flatten_cons, List.flatten_nil, Int.reduceLT, Int.reduceLE, Int.reduceToNat, Option.map, Nat.zero_add, Nat.mul_one, Nat.one_mul, Nat.zero_le, Nat.add_zero, List.length_append, beq_true, beq_false, Bool.not_true, Bool.not_false, strOp, beq_self_eq_true, Int.toNat_natCast, indexE, Int.natCast_nonneg, mkE, newMslE, Bool.or_false, Bool.or_true, Bool.false_or, Bool.true_or, look2, denil, List.append_eq, once, without, convO, hN, hF, ty_3, ty_5, ty_9, ty_26, ty_49, ty_61, ty_63, ty_131, ty_134, notIf, isEq, h4, he, c1', g2]
        simp only [retQ, retE, RetOK, objPairs, resPairs, cellPairs, objCells, retRen, retMem, exitMem, exitVals, resAt, entryMem, cellsAt, AMds, AMd, CMd, keys, List.append_nil, List.nil_append, List.cons_append, List.map_cons, List.map_nil, List.nodup_cons, List.mem_cons, List.not_mem_nil, or_false, not_false_eq_true, List.nodup_nil, get_mk, mem_mk, look_nil, look_cons, Option.isSome_some, Option.isSome_none, and_self, and_true, true_and, ↓reduceIte, Nat.reduceEqDiff, Nat.reduceAdd, Nat.reduceMul, Option.getD_some, inObj, inRow, outName, outCell, forall_eq_or_imp, forall_eq, implies_true, Nat.reduceBEq, reduceCtorEq, Bool.false_eq_true, andThen_some, andThen_none, Nat.zero_add, List.length_nil, List.length_cons, false_implies, List.length_append, loadE, run_ask, run_ret, run_fail, obind_some, obind_none, List.zip_cons_cons, List.zip_nil_left, List.zip_nil_right, AMd.AMp, List.take, List.drop, List.getElem?_cons_zero, List.getElem?_cons_succ, Nat.reduceLeDiff, Nat.zero_le, List.forall_mem_nil, rs_41, zeroS, ruls, List.map_nil, ty_3, ty_5, ty_9, ty_26, ty_49, ty_61, ty_63, ty_131, ty_134]
      have c1' : (rz.e != 0) = false := by simpa using c1
      have hb := left_atr rz c1
      by_cases c2 : 0 < rz.b.length
      · have c2' : decide ((0 : Int) < (rz.b.length : Int)) = true := by simpa using c2
        rw [if_pos (Or.inr (Or.inl c2))]
        simp only [runA, ncE, faE, fieldE, extE, cloE, bsE, idxE, okE, okM, entryT, entryMem, cellsAt, List.append_nil, List.nil_append, List.cons_append, loadE, storeE, binE, isSh, intOp, AV.flat, Option.map_some, Option.map_none, ↓reduceIte, Nat.reduceLT, Nat.reduceLeDiff, Nat.reduceEqDiff, Nat.reduceAdd, Nat.reduceMul, Nat.reduceSub, decide_true, decide_false, Option.getD_some, Option.getD_none, objName, rowName, resName, resCell, inObj, inRow, outName, outCell, EP.bind, List.getElem?_cons_zero, List.getElem?_cons_succ, List.length_cons, List.length_nil, List.map_cons, List.map_nil, cndE, reduceCtorEq, and_self, and_true, true_and, List.all_cons, List.all_nil, AV.scal, Bool.and_self, Bool.and_true, putAt, List.take, List.drop, Option.bind_some, Option.bind_none, Bool.false_eq_true, callE, argsE, AV.pure?, AV.toPC, toPCs, objsE, cellsE, resAt, backObjs, backCells, freeE, keys, exitMem, shapeOf, oneE, List.nodup_cons, List.mem_cons, List.not_mem_nil, or_false, not_false_eq_true, List.nodup_nil, ext, unE, Nat.reduceBEq, builtinE, lenE, AV.rows, appendE, addedE, newRowE, newObjE, strz, mm, convE, buildE, fillE, chunks, List.replicate, List.flatten, guardE, cndQ, List.getElem?_toArray, List.flatMap, List.flatten_cons, List.flatten_nil, Int.reduceLT, Int.reduceLE, Int.reduceToNat, Option.map, Nat.zero_add, Nat.mul_one, Nat.one_mul, Nat.zero_le, Nat.add_zero, List.length_append, beq_true, beq_false, Bool.not_true, Bool.not_false, strOp, beq_self_eq_true, Int.toNat_natCast, indexE, Int.natCast_nonneg, mkE, newMslE, Bool.or_false, Bool.or_true, Bool.false_or, Bool.true_or, look2, denil, List.append_eq, once, without, convO, hN, hF, ty_3, ty_5, ty_9, ty_26, ty_49, ty_61, ty_63, ty_131, ty_134, notIf, isEq, h4, he, h5, hb, c1', c2', g2]
        simp only [retQ, retE, RetOK, objPairs, resPairs, cellPairs, objCells, retRen, retMem, exitMem, exitVals, resAt, entryMem, cellsAt, AMds, AMd, CMd, keys, List.append_nil, List.nil_append, List.cons_append, List.map_cons, List.map_nil, List.nodup_cons, List.mem_cons, List.not_mem_nil, or_false, not_false_eq_true, List.nodup_nil, get_mk, mem_mk, look_nil, look_cons, Option.isSome_some, Option.isSome_none, and_self, and_true, true_and, ↓reduceIte, Nat.reduceEqDiff, Nat.reduceAdd, Nat.reduceMul, Option.getD_some, inObj, inRow, outName, outCell, forall_eq_or_imp, forall_eq, implies_true, Nat.reduceBEq, reduceCtorEq, Bool.false_eq_true, andThen_some, andThen_none, Nat.zero_add, List.length_nil, List.length_cons, false_implies, List.length_append, loadE, run_ask, run_ret, run_fail, obind_some, obind_none, List.zip_cons_cons, List.zip_nil_left, List.zip_nil_right, AMd.AMp, List.take, List.drop, List.getElem?_cons_zero, List.getElem?_cons_succ, Nat.reduceLeDiff, Nat.zero_le, List.forall_mem_nil, rs_41, zeroS, ruls, List.map_nil, ty_3, ty_5, ty_9, ty_26, ty_49, ty_61, ty_63, ty_131, ty_134]
      have c2' : decide ((0 : Int) < (rz.b.length : Int)) = false := by simpa using c2
      by_cases c3 : checkS ⟨(a1 r0).1, (a2 r0).1, (a3 r0).1, (rr r4 i).1⟩ = 0
      · have c3' : (checkS ⟨(a1 r0).1, (a2 r0).1, (a3 r0).1, (rr r4 i).1⟩ != 0) = false := by simpa using c3
        rw [if_neg (by simp [c1, c2, c3])]
        generalize (rr r4 i).1 = lz at *
        rw [c3] at hc
        have b0 : ((0 : Int) != 0) = false := rfl
        simp only [runA, ncE, faE, fieldE, extE, cloE, bsE, idxE, okE, okM, entryT, entryMem, cellsAt, List.append_nil, List.nil_append, List.cons_append, loadE, storeE, binE, isSh, intOp, AV.flat, Option.map_some, Option.map_none, ↓reduceIte, Nat.reduceLT, Nat.reduceLeDiff, Nat.reduceEqDiff, Nat.reduceAdd, Nat.reduceMul, Nat.reduceSub, decide_true, decide_false, Option.getD_some, Option.getD_none, objName, rowName, resName, resCell, inObj, inRow, outName, outCell, EP.bind, List.getElem?_cons_zero, List.getElem?_cons_succ, List.length_cons, List.length_nil, List.map_cons, List.map_nil, cndE, reduceCtorEq, and_self, and_true, true_and, List.all_cons, List.all_nil, AV.scal, Bool.and_self, Bool.and_true, putAt, List.take, List.drop, Option.bind_some, Option.bind_none, Bool.false_eq_true, callE, argsE, AV.pure?, AV.toPC, toPCs, objsE, cellsE, resAt, backObjs, backCells, freeE, keys, exitMem, shapeOf, oneE, List.nodup_cons, List.mem_cons, List.not_mem_nil, or_false, not_false_eq_true, List.nodup_nil, ext, unE, Nat.reduceBEq, builtinE, lenE, AV.rows, appendE, addedE, newRowE, newObjE, strz, mm, convE, buildE, fillE, chunks, List.replicate, List.flatten, guardE, cndQ, List.getElem?_toArray, List.flatMap, List.flatten_cons, List.flatten_nil, Int.reduceLT, Int.reduceLE, Int.reduceToNat, Option.map, Nat.zero_add, Nat.mul_one, Nat.one_mul, Nat.zero_le, Nat.add_zero, List.length_append, beq_true, beq_false, Bool.not_true, Bool.not_false, strOp, beq_self_eq_true, Int.toNat_natCast, indexE, Int.natCast_nonneg, mkE, newMslE, Bool.or_false, Bool.or_true, Bool.false_or, Bool.true_or, look2, denil, List.append_eq, once, without, convO, hN, hF, ty_3, ty_5, ty_9, ty_26, ty_49, ty_61, ty_63, ty_131, ty_134, notIf, isEq, h4, he, h5, h6, hb, hc, c1', c2', g2, b0]
        simp only [retQ, retE, RetOK, objPairs, resPairs, cellPairs, objCells, retRen, retMem, exitMem, exitVals, resAt, entryMem, cellsAt, AMds, AMd, CMd, keys, List.append_nil, List.nil_append, List.cons_append, List.map_cons, List.map_nil, List.nodup_cons, List.mem_cons, List.not_mem_nil, or_false, not_false_eq_true, List.nodup_nil, get_mk, mem_mk, look_nil, look_cons, Option.isSome_some, Option.isSome_none, and_self, and_true, true_and, ↓reduceIte, Nat.reduceEqDiff, Nat.reduceAdd, Nat.reduceMul, Option.getD_some, inObj, inRow, outName, outCell, forall_eq_or_imp, forall_eq, implies_true, Nat.reduceBEq, reduceCtorEq, Bool.false_eq_true, andThen_some, andThen_none, Nat.zero_add, List.length_nil, List.length_cons, false_implies, List.length_append, loadE, run_ask, run_ret, run_fail, obind_some, obind_none, List.zip_cons_cons, List.zip_nil_left, List.zip_nil_right, AMd.AMp, List.take, List.drop, List.getElem?_cons_zero, List.getElem?_cons_succ, Nat.reduceLeDiff, Nat.zero_le, List.forall_mem_nil, rs_41, zeroS, ruls, List.map_nil, ty_3, ty_5, ty_9, ty_26, ty_49, ty_61, ty_63, ty_131, ty_134]
      · have c3' : (checkS ⟨(a1 r0).1, (a2 r0).1, (a3 r0).1, (rr r4 i).1⟩ != 0) = true := by simpa using c3
        rw [if_pos (Or.inr (Or.inr c3))]
        generalize checkS _ = ce at *
        simp only [runA, ncE, faE, fieldE, extE, cloE, bsE, idxE, okE, okM, entryT, entryMem, cellsAt, List.append_nil, List.nil_append, List.cons_append, loadE, storeE, binE, isSh, intOp, AV.flat, Option.map_some, Option.map_none, ↓reduceIte, Nat.reduceLT, Nat.reduceLeDiff, Nat.reduceEqDiff, Nat.reduceAdd, Nat.reduceMul, Nat.reduceSub, decide_true, decide_false, Option.getD_some, Option.getD_none, objName, rowName, resName, resCell, inObj, inRow, outName, outCell, EP.bind, List.getElem?_cons_zero, List.getElem?_cons_succ, List.length_cons, List.length_nil, List.map_cons, List.map_nil, cndE, reduceCtorEq, and_self, and_true, true_and, List.all_cons, List.all_nil, AV.scal, Bool.and_self, Bool.and_true, putAt, List.take, List.drop, Option.bind_some, Option.bind_none, Bool.false_eq_true, callE, argsE, AV.pure?, AV.toPC, toPCs, objsE, cellsE, resAt, backObjs, backCells, freeE, keys, exitMem, shapeOf, oneE, List.nodup_cons, List.mem_cons, List.not_mem_nil, or_false, not_false_eq_true, List.nodup_nil, ext, unE, Nat.reduceBEq, builtinE, lenE, AV.rows, appendE, addedE, newRowE, newObjE, strz, mm, convE, buildE, fillE, chunks, List.replicate, List.flatten, guardE, cndQ, List.getElem?_toArray, List.flatMap, List.flatten_cons, List.flatten_nil, Int.reduceLT, Int.reduceLE, Int.reduceToNat, Option.map, Nat.zero_add, Nat.mul_one, Nat.one_mul, Nat.zero_le, Nat.add_zero, List.length_append, beq_true, beq_false, Bool.not_true, Bool.not_false, strOp, beq_self_eq_true, Int.toNat_natCast, indexE, Int.natCast_nonneg, mkE, newMslE, Bool.or_false, Bool.or_true, Bool.false_or, Bool.true_or, look2, denil, List.append_eq, once, without, convO, hN, hF, ty_3, ty_5, ty_9, ty_26, ty_49, ty_61, ty_63, ty_131, ty_134, notIf, isEq, h4, he, h5, h6, hb, hc, c3', c1', c2', g2]
        simp only [retQ, retE, RetOK, objPairs, resPairs, cellPairs, objCells, retRen, retMem, exitMem, exitVals, resAt, entryMem, cellsAt, AMds, AMd, CMd, keys, List.append_nil, List.nil_append, List.cons_append, List.map_cons, List.map_nil, List.nodup_cons, List.mem_cons, List.not_mem_nil, or_false, not_false_eq_true, List.nodup_nil, get_mk, mem_mk, look_nil, look_cons, Option.isSome_some, Option.isSome_none, and_self, and_true, true_and, ↓reduceIte, Nat.reduceEqDiff, Nat.reduceAdd, Nat.reduceMul, Option.getD_some, inObj, inRow, outName, outCell, forall_eq_or_imp, forall_eq, implies_true, Nat.reduceBEq, reduceCtorEq, Bool.false_eq_true, andThen_some, andThen_none, Nat.zero_add, List.length_nil, List.length_cons, false_implies, List.length_append, loadE, run_ask, run_ret, run_fail, obind_some, obind_none, List.zip_cons_cons, List.zip_nil_left, List.zip_nil_right, AMd.AMp, List.take, List.drop, List.getElem?_cons_zero, List.getElem?_cons_succ, Nat.reduceLeDiff, Nat.zero_le, List.forall_mem_nil, rs_41, zeroS, ruls, List.map_nil, ty_3, ty_5, ty_9, ty_26, ty_49, ty_61, ty_63, ty_131, ty_134]

end Go.Proofs.Ytjdokoldiemobaa.AM
