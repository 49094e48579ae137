/-
  State: the document's leaf; that the program is alive.
-/
import Derived.Test.YtjdokoldiemobaaSt2
set_option linter.unusedVariables false
set_option linter.unusedSimpArgs false
namespace Go.Proofs.Ytjdokoldiemobaa.AM
open Go

variable {Γ : FuncId → Contract}

set_option maxRecDepth 100000 in
theorem short35_sound (hΓ : SoundG Try.prog Γ) (h70 : Γ 110 = sumC) : SoundC Try.prog 91 short1C := by
  refine sound_fn Try.func91 (by kernel_rfl) rfl rfl ?_
  intro args objs r hr
  obtain ⟨b, hl, rfl, rfl, rfl⟩ := mkC_inv hr
  refine ⟨rfl, by show 1 ≤ _; decide, fun E hN hns hF => ?_⟩
  refine vc_sound hΓ mixed _ _ _ ?_
  have hN := hN.trans nt_91
  have h1 := sum_at b hl
  have hlen := shaS_length b
  have z0 : ((0 : Nat) : Int) ≤ 8 := by decide
  have z8 : (8 : Int) ≤ ((32 : Nat) : Int) := by decide
  simp only [runA, ncE, faE, fieldE, extE, cloE, bsE, idxE, okE, okM, entryT, entryMem, cellsAt, List.append_nil, List.nil_append, List.cons_append, loadE, storeE, binE, isSh, intOp, AV.flat, Option.map_some, Option.map_none, ↓reduceIte, Nat.reduceLT, Nat.reduceLeDiff, Nat.reduceEqDiff, Nat.reduceAdd, Nat.reduceMul, Nat.reduceSub, decide_true, decide_false, Option.getD_some, Option.getD_none, objName, rowName, resName, resCell, inObj, inRow, outName, outCell, EP.bind, List.getElem?_cons_zero, List.getElem?_cons_succ, List.length_cons, List.length_nil, List.map_cons, List.map_nil, cndE, reduceCtorEq, and_self, and_true, true_and, List.all_cons, List.all_nil, AV.scal, Bool.and_self, Bool.and_true, putAt, List.take, List.drop, Option.bind_some, Option.bind_none, Bool.false_eq_true, callE, argsE, AV.pure?, AV.toPC, toPCs, objsE, cellsE, resAt, backObjs, backCells, freeE, keys, exitMem, shapeOf, oneE, List.nodup_cons, List.mem_cons, List.not_mem_nil, or_false, not_false_eq_true, List.nodup_nil, ext, unE, Nat.reduceBEq, builtinE, lenE, AV.rows, appendE, addedE, newRowE, newObjE, strz, mm, convE, buildE, fillE, chunks, List.replicate, List.flatten, guardE, cndQ, List.getElem?_toArray, List.flatMap, List.flatten_cons, List.flatten_nil, Int.reduceLT, Int.reduceLE, Int.reduceToNat, Option.map, Nat.zero_add, Nat.mul_one, Nat.one_mul, Nat.zero_le, Nat.add_zero, List.length_append, beq_true, beq_false, Bool.not_true, Bool.not_false, strOp, beq_self_eq_true, Int.toNat_natCast, indexE, Int.natCast_nonneg, mkE, newMslE, Bool.or_false, Bool.or_true, Bool.false_or, Bool.true_or, look2, denil, List.append_eq, once, without, convO, hN, hF, ty_5, ty_9, ty_49, notIf, isEq, h70, h1, bytes_length, bytesOf_bytes, sliceE, boundE, hlen, z0, z8, Int.le_refl, List.drop_zero]
  simp only [retQ, retE, RetOK, objPairs, resPairs, cellPairs, objCells, retRen, retMem, exitMem, exitVals, resAt, entryMem, cellsAt, AMds, AMd, CMd, keys, List.append_nil, List.nil_append, List.cons_append, List.map_cons, List.map_nil, List.nodup_cons, List.mem_cons, List.not_mem_nil, or_false, not_false_eq_true, List.nodup_nil, get_mk, mem_mk, look_nil, look_cons, Option.isSome_some, Option.isSome_none, and_self, and_true, true_and, ↓reduceIte, Nat.reduceEqDiff, Nat.reduceAdd, Nat.reduceMul, Option.getD_some, inObj, inRow, outName, outCell, forall_eq_or_imp, forall_eq, implies_true, Nat.reduceBEq, reduceCtorEq, Bool.false_eq_true, andThen_some, andThen_none, Nat.zero_add, List.length_nil, List.length_cons, false_implies, List.length_append, loadE, run_ask, run_ret, run_fail, obind_some, obind_none, List.zip_cons_cons, List.zip_nil_left, List.zip_nil_right, AMd.AMp, List.take, List.drop, List.getElem?_cons_zero, List.getElem?_cons_succ, Nat.reduceLeDiff, Nat.zero_le, List.forall_mem_nil, rs_91, shortS]

def inR (n : Int) : Prop := ¬ (n < 0 ∨ 1099511627776 < n)
theorem wNum_good {w : WS} {n : Int} (h : inR n) (hl : w.b.length ≤ 16384) : wNum w n = ⟨w.b ++ putB n 6, w.e⟩ := by
  unfold wNum; rw [if_neg h, if_pos hl]
theorem wNum_bad {w : WS} {n : Int} (h : ¬ inR n) : (wNum w n).e ≠ 0 := by
  unfold wNum
  rw [if_pos (by unfold inR at h; exact Classical.not_not.1 h)]
  dsimp only
  split
  · decide
  · assumption
theorem wNum_e {w : WS} {n : Int} (h : w.e ≠ 0) : (wNum w n).e ≠ 0 := by
  unfold wNum
  split
  · simp only [if_neg h]; exact h
  · split
    · exact h
    · exact h
theorem wsN_e {c : Int} {a : Acc} {i : Nat} (h : (wsN c a i).e ≠ 0) : ∀ k, (wsN c a (i + k)).e ≠ 0
  | 0 => h
  | k + 1 => wNum_e (wsN_e h k)
theorem leafA_bad {c : Int} {a : Acc} {i : Nat} (hi : i < 3) (h : ¬ inR (arrA c a i)) : leafA c a = shortS [] := by
  have h1 : (wsN c a (i + 1)).e ≠ 0 := wNum_bad h
  have h2 := wsN_e h1 (2 - i)
  rw [show i + 1 + (2 - i) = 3 from by omega] at h2
  unfold leafA doneR
  rw [if_neg h2]
theorem leafA_good {c : Int} {a : Acc} (h : (wsN c a 3).e = 0) : leafA c a = shortS (wsN c a 3).b := by
  unfold leafA doneR
  have := wsN_len c a 3
  rw [if_pos h, if_neg (by omega)]

set_option maxRecDepth 100000 in
set_option maxHeartbeats 2000000 in
theorem leaf35_sound (hΓ : SoundG Try.prog Γ) (h1 : Γ 92 = putC) (h2 : Γ 91 = short1C) : SoundC Try.prog 43 lfC := by
  refine sound_fn Try.func43 (by kernel_rfl) rfl rfl ?_
  intro args objs r hr
  obtain ⟨⟨c, x, y⟩, _, rfl, rfl, rfl⟩ := mkC_inv hr
  refine ⟨rfl, by show 2 ≤ _; decide, fun E hN hns hF => ?_⟩
  refine vc_sound hΓ mixed _ _ _ ?_
  have hN := hN.trans nt_43
  dsimp only
  simp only [runA, ncE, faE, fieldE, extE, cloE, bsE, idxE, okE, okM, entryT, entryMem, cellsAt, List.append_nil, List.nil_append, List.cons_append, loadE, storeE, binE, isSh, intOp, AV.flat, Option.map_some, Option.map_none, ↓reduceIte, Nat.reduceLT, Nat.reduceLeDiff, Nat.reduceEqDiff, Nat.reduceAdd, Nat.reduceMul, Nat.reduceSub, decide_true, decide_false, Option.getD_some, Option.getD_none, objName, rowName, resName, resCell, inObj, inRow, outName, outCell, EP.bind, List.getElem?_cons_zero, List.getElem?_cons_succ, List.length_cons, List.length_nil, List.map_cons, List.map_nil, cndE, reduceCtorEq, and_self, and_true, true_and, List.all_cons, List.all_nil, AV.scal, Bool.and_self, Bool.and_true, putAt, List.take, List.drop, Option.bind_some, Option.bind_none, Bool.false_eq_true, callE, argsE, AV.pure?, AV.toPC, toPCs, objsE, cellsE, resAt, backObjs, backCells, freeE, keys, exitMem, shapeOf, oneE, List.nodup_cons, List.mem_cons, List.not_mem_nil, or_false, not_false_eq_true, List.nodup_nil, ext, unE, Nat.reduceBEq, builtinE, lenE, AV.rows, appendE, addedE, newRowE, newObjE, strz, mm, convE, buildE, fillE, chunks, List.replicate, List.flatten, guardE, cndQ, List.getElem?_toArray, List.flatMap, List.flatten_cons, List.flatten_nil, Int.reduceLT, Int.reduceLE, Int.reduceToNat, Option.map, Nat.zero_add, Nat.mul_one, Nat.one_mul, Nat.zero_le, Nat.add_zero, List.length_append, beq_true, beq_false, Bool.not_true, Bool.not_false, strOp, beq_self_eq_true, Int.toNat_natCast, indexE, Int.natCast_nonneg, mkE, newMslE, Bool.or_false, Bool.or_true, Bool.false_or, Bool.true_or, look2, denil, List.append_eq, once, without, convO, hN, hF, ty_3, ty_5, ty_9, ty_49, ty_52, ty_73, notIf, isEq]
  refine AWP.loop (fun k st => ∃ i : Nat, i ≤ 3 ∧ (wsN c (x, y) i).e = 0 ∧ k = 3 - i ∧ st = ⟨[(5, .c (.sl [[.int .i64 c], [.int .i64 x], [.int .i64 y]])), (6, .own 385 1 (bytes (wsN c (x, y) i).b)), (7, .c (.int .i64 (i : Int)))], [(385, .row 1 (wsN c (x, y) i).b.length)]⟩) ⟨3, _, ?w, 0, Nat.zero_le _, rfl, rfl, rfl⟩ ?r
  case w =>
    rw [hns]
    simp only [Weak, wkM, wkT, wkRen, AMd, AMds, AMd.AMp, CMd, look_cons, look_nil, get_mk, mem_mk, AS.get, AS.mem, keys, entryMem, cellsAt, List.map_nil, List.map_cons, List.not_mem_nil, List.mem_cons, or_false, false_implies, implies_true, and_true, true_and, and_self, ↓reduceIte, Nat.reduceEqDiff, Option.getD_some, Option.getD_none, Option.map_some, Option.map_none, Option.isSome_some, Option.isSome_none, forall_eq_or_imp, forall_eq, reduceCtorEq, List.append_nil, List.nil_append, List.cons_append, Nat.reduceAdd, Nat.reduceMul, inObj, inRow]
    simp [wsN, bytes]
  case r =>
    rintro k st ⟨i, hi, he, rfl, rfl⟩
    refine vc_sound hΓ mixed _ _ _ ?_
    have hlen := wsN_len c (x, y) i
    by_cases hlt : i < 3
    · have g1 : decide ((i : Int) < 3) = true := by simp; omega
      have e1 : IntKind.i64.wrap ((i : Int) + 1) = (i : Int) + 1 := wrapI (by omega)
      have hx : ([[PC.int .i64 c], [PC.int .i64 x], [PC.int .i64 y]] : List (List PC))[i]? = some [PC.int .i64 (arrA c (x, y) i)] := by
        unfold arrA
        rcases (show i = 0 ∨ i = 1 ∨ i = 2 by omega) with rfl | rfl | rfl <;> rfl
      obtain ⟨v, hv⟩ : ∃ v, arrA c (x, y) i = v := ⟨_, rfl⟩
      rw [hv] at hx
      generalize hg : ([[PC.int .i64 c], [PC.int .i64 x], [PC.int .i64 y]] : List (List PC)) = ar at hx
      by_cases hb : inR v
      · have hw := wNum_good (w := wsN c (x, y) i) hb (by omega)
        rw [← hv] at hw
        have hw : wsN c (x, y) (i + 1) = ⟨(wsN c (x, y) i).b ++ putB v 6, (wsN c (x, y) i).e⟩ := by rw [← hv]; exact hw
        have hwb : (wsN c (x, y) (i + 1)).b = (wsN c (x, y) i).b ++ putB v 6 := by rw [hw]
        have hwe : (wsN c (x, y) (i + 1)).e = 0 := by rw [hw]; exact he
        unfold inR at hb
        have g2 : decide (v < 0) = false := by simp; omega
        have g3 : decide (v > 1099511627776) = false := by simp; omega
        have hz := rowsOK_bytes
        have hp6 : (putB v 6).length = 6 := by rw [putB_length]; rfl
        have hL : (wsN c (x, y) i).b.length + 6 ≤ 140737488355328 := by omega
        have hfin : (wsN c (x, y) (i + 1)).b.length = (wsN c (x, y) i).b.length + 6 := by rw [hwb, List.length_append, hp6]
        simp only [runA, ncE, faE, fieldE, extE, cloE, bsE, idxE, okE, okM, entryT, entryMem, cellsAt, List.append_nil, List.nil_append, List.cons_append, loadE, storeE, binE, isSh, intOp, AV.flat, Option.map_some, Option.map_none, ↓reduceIte, Nat.reduceLT, Nat.reduceLeDiff, Nat.reduceEqDiff, Nat.reduceAdd, Nat.reduceMul, Nat.reduceSub, decide_true, decide_false, Option.getD_some, Option.getD_none, objName, rowName, resName, resCell, inObj, inRow, outName, outCell, EP.bind, List.getElem?_cons_zero, List.getElem?_cons_succ, List.length_cons, List.length_nil, List.map_cons, List.map_nil, cndE, reduceCtorEq, and_self, and_true, true_and, List.all_cons, List.all_nil, AV.scal, Bool.and_self, Bool.and_true, putAt, List.take, List.drop, Option.bind_some, Option.bind_none, Bool.false_eq_true, callE, argsE, AV.pure?, AV.toPC, toPCs, objsE, cellsE, resAt, backObjs, backCells, freeE, keys, exitMem, shapeOf, oneE, List.nodup_cons, List.mem_cons, List.not_mem_nil, or_false, not_false_eq_true, List.nodup_nil, ext, unE, Nat.reduceBEq, builtinE, lenE, AV.rows, appendE, addedE, newRowE, newObjE, strz, mm, convE, buildE, fillE, chunks, List.replicate, List.flatten, guardE, cndQ, List.getElem?_toArray, List.flatMap, List.flatten_cons, List.flatten_nil, Int.reduceLT, Int.reduceLE, Int.reduceToNat, Option.map, Nat.zero_add, Nat.mul_one, Nat.one_mul, Nat.zero_le, Nat.add_zero, List.length_append, beq_true, beq_false, Bool.not_true, Bool.not_false, strOp, beq_self_eq_true, Int.toNat_natCast, indexE, Int.natCast_nonneg, mkE, newMslE, Bool.or_false, Bool.or_true, Bool.false_or, Bool.true_or, look2, denil, List.append_eq, once, without, convO, hN, hF, ty_3, ty_5, ty_9, ty_49, ty_52, ty_73, notIf, isEq, g1, g2, g3, e1, hx, h1, putC, hz, hL, hp6, bytes_length, bytes_app, ← hwb]
        refine ⟨3 - (i + 1), _, by omega, ?_, i + 1, by omega, hwe, rfl, rfl⟩
        rw [hns]
        simp only [Weak, wkM, wkT, wkRen, AMd, AMds, AMd.AMp, CMd, look_cons, look_nil, get_mk, mem_mk, AS.get, AS.mem, keys, entryMem, cellsAt, List.map_nil, List.map_cons, List.not_mem_nil, List.mem_cons, or_false, false_implies, implies_true, and_true, true_and, and_self, ↓reduceIte, Nat.reduceEqDiff, Option.getD_some, Option.getD_none, Option.map_some, Option.map_none, Option.isSome_some, Option.isSome_none, forall_eq_or_imp, forall_eq, reduceCtorEq, List.append_nil, List.nil_append, List.cons_append, Nat.reduceAdd, Nat.reduceMul, inObj, inRow]
        first | done | simp [hfin] | (rw [hfin]; simp)
      · have hbad := leafA_bad (c := c) (a := (x, y)) hlt (by rw [hv]; exact hb)
        have hs : short1C [.c (.sl [])] [] = some ⟨[.pv (.c (.str (shortS [])))], []⟩ := short1_at [] (by simp)
        by_cases hv0 : v < 0
        · have g2 : decide (v < 0) = true := by simpa using hv0
          simp only [runA, ncE, faE, fieldE, extE, cloE, bsE, idxE, okE, okM, entryT, entryMem, cellsAt, List.append_nil, List.nil_append, List.cons_append, loadE, storeE, binE, isSh, intOp, AV.flat, Option.map_some, Option.map_none, ↓reduceIte, Nat.reduceLT, Nat.reduceLeDiff, Nat.reduceEqDiff, Nat.reduceAdd, Nat.reduceMul, Nat.reduceSub, decide_true, decide_false, Option.getD_some, Option.getD_none, objName, rowName, resName, resCell, inObj, inRow, outName, outCell, EP.bind, List.getElem?_cons_zero, List.getElem?_cons_succ, List.length_cons, List.length_nil, List.map_cons, List.map_nil, cndE, reduceCtorEq, and_self, and_true, true_and, List.all_cons, List.all_nil, AV.scal, Bool.and_self, Bool.and_true, putAt, List.take, List.drop, Option.bind_some, Option.bind_none, Bool.false_eq_true, callE, argsE, AV.pure?, AV.toPC, toPCs, objsE, cellsE, resAt, backObjs, backCells, freeE, keys, exitMem, shapeOf, oneE, List.nodup_cons, List.mem_cons, List.not_mem_nil, or_false, not_false_eq_true, List.nodup_nil, ext, unE, Nat.reduceBEq, builtinE, lenE, AV.rows, appendE, addedE, newRowE, newObjE, strz, mm, convE, buildE, fillE, chunks, List.replicate, List.flatten, guardE, cndQ, List.getElem?_toArray, List.flatMap, List.flatten_cons, List.flatten_nil, Int.reduceLT, Int.reduceLE, Int.reduceToNat, Option.map, Nat.zero_add, Nat.mul_one, Nat.one_mul, Nat.zero_le, Nat.add_zero, List.length_append, beq_true, beq_false, Bool.not_true, Bool.not_false, strOp, beq_self_eq_true, Int.toNat_natCast, indexE, Int.natCast_nonneg, mkE, newMslE, Bool.or_false, Bool.or_true, Bool.false_or, Bool.true_or, look2, denil, List.append_eq, once, without, convO, hN, hF, ty_3, ty_5, ty_9, ty_49, ty_52, ty_73, notIf, isEq, g1, g2, hx, h2, hs]
          simp only [retQ, retE, RetOK, objPairs, resPairs, cellPairs, objCells, retRen, retMem, exitMem, exitVals, resAt, entryMem, cellsAt, AMds, AMd, CMd, keys, List.append_nil, List.nil_append, List.cons_append, List.map_cons, List.map_nil, List.nodup_cons, List.mem_cons, List.not_mem_nil, or_false, not_false_eq_true, List.nodup_nil, get_mk, mem_mk, look_nil, look_cons, Option.isSome_some, Option.isSome_none, and_self, and_true, true_and, ↓reduceIte, Nat.reduceEqDiff, Nat.reduceAdd, Nat.reduceMul, Option.getD_some, inObj, inRow, outName, outCell, forall_eq_or_imp, forall_eq, implies_true, Nat.reduceBEq, reduceCtorEq, Bool.false_eq_true, andThen_some, andThen_none, Nat.zero_add, List.length_nil, List.length_cons, false_implies, List.length_append, loadE, run_ask, run_ret, run_fail, obind_some, obind_none, List.zip_cons_cons, List.zip_nil_left, List.zip_nil_right, AMd.AMp, List.take, List.drop, List.getElem?_cons_zero, List.getElem?_cons_succ, Nat.reduceLeDiff, Nat.zero_le, List.forall_mem_nil, rs_43, hbad]
        · have g2 : decide (v < 0) = false := by simpa using hv0
          have g3 : decide (v > 1099511627776) = true := by unfold inR at hb; simp; omega
          simp only [runA, ncE, faE, fieldE, extE, cloE, bsE, idxE, okE, okM, entryT, entryMem, cellsAt, List.append_nil, List.nil_append, List.cons_append, loadE, storeE, binE, isSh, intOp, AV.flat, Option.map_some, Option.map_none, ↓reduceIte, Nat.reduceLT, Nat.reduceLeDiff, Nat.reduceEqDiff, Nat.reduceAdd, Nat.reduceMul, Nat.reduceSub, decide_true, decide_false, Option.getD_some, Option.getD_none, objName, rowName, resName, resCell, inObj, inRow, outName, outCell, EP.bind, List.getElem?_cons_zero, List.getElem?_cons_succ, List.length_cons, List.length_nil, List.map_cons, List.map_nil, cndE, reduceCtorEq, and_self, and_true, true_and, List.all_cons, List.all_nil, AV.scal, Bool.and_self, Bool.and_true, putAt, List.take, List.drop, Option.bind_some, Option.bind_none, Bool.false_eq_true, callE, argsE, AV.pure?, AV.toPC, toPCs, objsE, cellsE, resAt, backObjs, backCells, freeE, keys, exitMem, shapeOf, oneE, List.nodup_cons, List.mem_cons, List.not_mem_nil, or_false, not_false_eq_true, List.nodup_nil, ext, unE, Nat.reduceBEq, builtinE, lenE, AV.rows, appendE, addedE, newRowE, newObjE, strz, mm, convE, buildE, fillE, chunks, List.replicate, List.flatten, guardE, cndQ, List.getElem?_toArray, List.flatMap, List.flatten_cons, List.flatten_nil, Int.reduceLT, Int.reduceLE, Int.reduceToNat, Option.map, Nat.zero_add, Nat.mul_one, Nat.one_mul, Nat.zero_le, Nat.add_zero, List.length_append, beq_true, beq_false, Bool.not_true, Bool.not_false, strOp, beq_self_eq_true, Int.toNat_natCast, indexE, Int.natCast_nonneg, mkE, newMslE, Bool.or_false, Bool.or_true, Bool.false_or, Bool.true_or, look2, denil, List.append_eq, once, without, convO, hN, hF, ty_3, ty_5, ty_9, ty_49, ty_52, ty_73, notIf, isEq, g1, g2, g3, hx, h2, hs]
          simp only [retQ, retE, RetOK, objPairs, resPairs, cellPairs, objCells, retRen, retMem, exitMem, exitVals, resAt, entryMem, cellsAt, AMds, AMd, CMd, keys, List.append_nil, List.nil_append, List.cons_append, List.map_cons, List.map_nil, List.nodup_cons, List.mem_cons, List.not_mem_nil, or_false, not_false_eq_true, List.nodup_nil, get_mk, mem_mk, look_nil, look_cons, Option.isSome_some, Option.isSome_none, and_self, and_true, true_and, ↓reduceIte, Nat.reduceEqDiff, Nat.reduceAdd, Nat.reduceMul, Option.getD_some, inObj, inRow, outName, outCell, forall_eq_or_imp, forall_eq, implies_true, Nat.reduceBEq, reduceCtorEq, Bool.false_eq_true, andThen_some, andThen_none, Nat.zero_add, List.length_nil, List.length_cons, false_implies, List.length_append, loadE, run_ask, run_ret, run_fail, obind_some, obind_none, List.zip_cons_cons, List.zip_nil_left, List.zip_nil_right, AMd.AMp, List.take, List.drop, List.getElem?_cons_zero, List.getElem?_cons_succ, Nat.reduceLeDiff, Nat.zero_le, List.forall_mem_nil, rs_43, hbad]
    · have g1 : decide ((i : Int) < 3) = false := by simp; omega
      obtain rfl : i = 3 := by omega
      have hg := leafA_good he
      have hs := short1_at (wsN c (x, y) 3).b (by omega)
      rw [← hg] at hs
      simp only [runA, ncE, faE, fieldE, extE, cloE, bsE, idxE, okE, okM, entryT, entryMem, cellsAt, List.append_nil, List.nil_append, List.cons_append, loadE, storeE, binE, isSh, intOp, AV.flat, Option.map_some, Option.map_none, ↓reduceIte, Nat.reduceLT, Nat.reduceLeDiff, Nat.reduceEqDiff, Nat.reduceAdd, Nat.reduceMul, Nat.reduceSub, decide_true, decide_false, Option.getD_some, Option.getD_none, objName, rowName, resName, resCell, inObj, inRow, outName, outCell, EP.bind, List.getElem?_cons_zero, List.getElem?_cons_succ, List.length_cons, List.length_nil, List.map_cons, List.map_nil, cndE, reduceCtorEq, and_self, and_true, true_and, List.all_cons, List.all_nil, AV.scal, Bool.and_self, Bool.and_true, putAt, List.take, List.drop, Option.bind_some, Option.bind_none, Bool.false_eq_true, callE, argsE, AV.pure?, AV.toPC, toPCs, objsE, cellsE, resAt, backObjs, backCells, freeE, keys, exitMem, shapeOf, oneE, List.nodup_cons, List.mem_cons, List.not_mem_nil, or_false, not_false_eq_true, List.nodup_nil, ext, unE, Nat.reduceBEq, builtinE, lenE, AV.rows, appendE, addedE, newRowE, newObjE, strz, mm, convE, buildE, fillE, chunks, List.replicate, List.flatten, guardE, cndQ, List.getElem?_toArray, List.flatMap, List.flatten_cons, List.flatten_nil, Int.reduceLT, Int.reduceLE, Int.reduceToNat, Option.map, Nat.zero_add, Nat.mul_one, Nat.one_mul, Nat.zero_le, Nat.add_zero, List.length_append, beq_true, beq_false, Bool.not_true, Bool.not_false, strOp, beq_self_eq_true, Int.toNat_natCast, indexE, Int.natCast_nonneg, mkE, newMslE, Bool.or_false, Bool.or_true, Bool.false_or, Bool.true_or, look2, denil, List.append_eq, once, without, convO, hN, hF, ty_3, ty_5, ty_9, ty_49, ty_52, ty_73, notIf, isEq, g1, h2, hs]
      simp only [retQ, retE, RetOK, objPairs, resPairs, cellPairs, objCells, retRen, retMem, exitMem, exitVals, resAt, entryMem, cellsAt, AMds, AMd, CMd, keys, List.append_nil, List.nil_append, List.cons_append, List.map_cons, List.map_nil, List.nodup_cons, List.mem_cons, List.not_mem_nil, or_false, not_false_eq_true, List.nodup_nil, get_mk, mem_mk, look_nil, look_cons, Option.isSome_some, Option.isSome_none, and_self, and_true, true_and, ↓reduceIte, Nat.reduceEqDiff, Nat.reduceAdd, Nat.reduceMul, Option.getD_some, inObj, inRow, outName, outCell, forall_eq_or_imp, forall_eq, implies_true, Nat.reduceBEq, reduceCtorEq, Bool.false_eq_true, andThen_some, andThen_none, Nat.zero_add, List.length_nil, List.length_cons, false_implies, List.length_append, loadE, run_ask, run_ret, run_fail, obind_some, obind_none, List.zip_cons_cons, List.zip_nil_left, List.zip_nil_right, AMd.AMp, List.take, List.drop, List.getElem?_cons_zero, List.getElem?_cons_succ, Nat.reduceLeDiff, Nat.zero_le, List.forall_mem_nil, rs_43]

theorem rootS_length : ∀ (n : Nat) (l : List (List UInt8)), l.length ≤ n → 1 < l.length → (rootS l).length = 8
  | 0, l, h, h1 => by omega
  | n + 1, l, h, h1 => by
    have hl := upS_length l
    rw [rootS_gt (by omega)]
    by_cases h2 : 1 < (upS l).length
    · exact rootS_length n _ (by omega) h2
    · rw [rootS_le (by omega)]
      match l, h1 with
      | a :: b :: tl, _ => rw [upS]; exact shortS_length _

def four : List Acc := [(0, 0), (0, 0), (0, 0), (0, 0)]
theorem four_prove : proveC [.c (.sl [[.int .i64 0, .int .i64 0], [.int .i64 0, .int .i64 0], [.int .i64 0, .int .i64 0], [.int .i64 0, .int .i64 0]]), .c (.int .i64 9)] [] = some ⟨[.pv (.c (.sl [])), .pv (.c (.int .i64 4))], []⟩ := by
  have h := prove_at four 9 (by show four.length ≤ _; decide)
  have hp : pathS (lvA four) 9 = ([], 4) := by unfold pathS; rw [if_pos (.inr (by rw [lvA_length]; decide))]
  rw [hp] at h
  exact h
theorem four_root : stRootC [.c (.sl [[.int .i64 0, .int .i64 0], [.int .i64 0, .int .i64 0], [.int .i64 0, .int .i64 0], [.int .i64 0, .int .i64 0]])] [] = some ⟨[.pv (.c (.str (rootS (lvA four))))], []⟩ :=
  stRoot_at four (by show four.length ≤ _; decide)

noncomputable def alive35C : Contract := mkC (α := Unit) (fun _ => True) (fun _ => []) (fun _ => []) (fun _ => ⟨[.pv (.c (.bool true))], []⟩)
theorem alive35_at : alive35C [] [] = some ⟨[.pv (.c (.bool true))], []⟩ := mkC_at (α := Unit) () trivial (fun _ _ _ _ => rfl)
set_option maxRecDepth 100000 in
set_option maxHeartbeats 1000000 in
theorem alive35_sound (hΓ : SoundG Try.prog Γ) (h1 : Γ 44 = proveC) (h2 : Γ 47 = stRootC) : SoundC Try.prog 51 alive35C := by
  refine sound_fn Try.func51 (by kernel_rfl) rfl rfl ?_
  intro args objs r hr
  obtain ⟨_, _, rfl, rfl, rfl⟩ := mkC_inv hr
  refine ⟨rfl, by show 0 ≤ _; decide, fun E hN hns hF => ?_⟩
  refine vc_sound hΓ mixed _ _ _ ?_
  have hN := hN.trans nt_51
  have q1 := four_prove
  have q2 := four_root
  have g1 : ((4 : Int) == 4) = true := rfl
  have hl := rootS_length 4 (lvA four) (by rw [lvA_length]; decide) (by rw [lvA_length]; decide)
  have g2 : (((8 : Nat) : Int) == 8) = true := rfl
  have t4 : (4 : Int).toNat = 4 := rfl
  have b4 : ((4 : Int) * ((16 : Nat) : Int) ≤ 140737488355328) = True := eq_true (by decide)
  simp only [runA, ncE, faE, fieldE, extE, cloE, bsE, idxE, okE, okM, entryT, entryMem, cellsAt, List.append_nil, List.nil_append, List.cons_append, loadE, storeE, binE, isSh, intOp, AV.flat, Option.map_some, Option.map_none, ↓reduceIte, Nat.reduceLT, Nat.reduceLeDiff, Nat.reduceEqDiff, Nat.reduceAdd, Nat.reduceMul, Nat.reduceSub, decide_true, decide_false, Option.getD_some, Option.getD_none, objName, rowName, resName, resCell, inObj, inRow, outName, outCell, EP.bind, List.getElem?_cons_zero, List.getElem?_cons_succ, List.length_cons, List.length_nil, List.map_cons, List.map_nil, cndE, reduceCtorEq, and_self, and_true, true_and, List.all_cons, List.all_nil, AV.scal, Bool.and_self, Bool.and_true, putAt, List.take, List.drop, Option.bind_some, Option.bind_none, Bool.false_eq_true, callE, argsE, AV.pure?, AV.toPC, toPCs, objsE, cellsE, resAt, backObjs, backCells, freeE, keys, exitMem, shapeOf, oneE, List.nodup_cons, List.mem_cons, List.not_mem_nil, or_false, not_false_eq_true, List.nodup_nil, ext, unE, Nat.reduceBEq, builtinE, lenE, AV.rows, appendE, addedE, newRowE, newObjE, strz, mm, convE, buildE, fillE, chunks, List.replicate, List.flatten, guardE, cndQ, List.getElem?_toArray, List.flatMap, List.flatten_cons, List.flatten_nil, Int.reduceLT, Int.reduceLE, Int.reduceToNat, Option.map, Nat.zero_add, Nat.mul_one, Nat.one_mul, Nat.zero_le, Nat.add_zero, List.length_append, beq_true, beq_false, Bool.not_true, Bool.not_false, strOp, beq_self_eq_true, Int.toNat_natCast, indexE, Int.natCast_nonneg, mkE, newMslE, Bool.or_false, Bool.or_true, Bool.false_or, Bool.true_or, look2, denil, List.append_eq, once, without, convO, hN, hF, ty_3, ty_4, ty_9, ty_26, ty_71, ty_73, notIf, isEq, h1, h2, q1, q2, g1, g2, hl, t4, b4, Int.reduceMul, Int.le_refl]
  simp only [retQ, retE, RetOK, objPairs, resPairs, cellPairs, objCells, retRen, retMem, exitMem, exitVals, resAt, entryMem, cellsAt, AMds, AMd, CMd, keys, List.append_nil, List.nil_append, List.cons_append, List.map_cons, List.map_nil, List.nodup_cons, List.mem_cons, List.not_mem_nil, or_false, not_false_eq_true, List.nodup_nil, get_mk, mem_mk, look_nil, look_cons, Option.isSome_some, Option.isSome_none, and_self, and_true, true_and, ↓reduceIte, Nat.reduceEqDiff, Nat.reduceAdd, Nat.reduceMul, Option.getD_some, inObj, inRow, outName, outCell, forall_eq_or_imp, forall_eq, implies_true, Nat.reduceBEq, reduceCtorEq, Bool.false_eq_true, andThen_some, andThen_none, Nat.zero_add, List.length_nil, List.length_cons, false_implies, List.length_append, loadE, run_ask, run_ret, run_fail, obind_some, obind_none, List.zip_cons_cons, List.zip_nil_left, List.zip_nil_right, AMd.AMp, List.take, List.drop, List.getElem?_cons_zero, List.getElem?_cons_succ, Nat.reduceLeDiff, Nat.zero_le, List.forall_mem_nil, rs_51]

noncomputable def num35C : Contract := mkC (α := Int) (fun _ => True) (fun n => [.c (.int .i64 n)]) (fun _ => []) (fun n => ⟨[.pv (.c (.int .i64 n))], []⟩)
theorem num35_at (n : Int) : num35C [.c (.int .i64 n)] [] = some ⟨[.pv (.c (.int .i64 n))], []⟩ :=
  mkC_at (α := Int) n trivial (fun y _ h _ => by simp at h; rw [h])
set_option maxRecDepth 100000 in
theorem num35_sound (hΓ : SoundG Try.prog Γ) : SoundC Try.prog 50 num35C := by
  refine sound_fn Try.func50 (by kernel_rfl) rfl rfl ?_
  intro args objs r hr
  obtain ⟨n, _, rfl, rfl, rfl⟩ := mkC_inv hr
  refine ⟨rfl, by show 1 ≤ _; decide, fun E hN hns hF => ?_⟩
  refine vc_sound hΓ mixed _ _ _ ?_
  have hN := hN.trans nt_50
  simp only [runA, ncE, faE, fieldE, extE, cloE, bsE, idxE, okE, okM, entryT, entryMem, cellsAt, List.append_nil, List.nil_append, List.cons_append, loadE, storeE, binE, isSh, intOp, AV.flat, Option.map_some, Option.map_none, ↓reduceIte, Nat.reduceLT, Nat.reduceLeDiff, Nat.reduceEqDiff, Nat.reduceAdd, Nat.reduceMul, Nat.reduceSub, decide_true, decide_false, Option.getD_some, Option.getD_none, objName, rowName, resName, resCell, inObj, inRow, outName, outCell, EP.bind, List.getElem?_cons_zero, List.getElem?_cons_succ, List.length_cons, List.length_nil, List.map_cons, List.map_nil, cndE, reduceCtorEq, and_self, and_true, true_and, List.all_cons, List.all_nil, AV.scal, Bool.and_self, Bool.and_true, putAt, List.take, List.drop, Option.bind_some, Option.bind_none, Bool.false_eq_true, callE, argsE, AV.pure?, AV.toPC, toPCs, objsE, cellsE, resAt, backObjs, backCells, freeE, keys, exitMem, shapeOf, oneE, List.nodup_cons, List.mem_cons, List.not_mem_nil, or_false, not_false_eq_true, List.nodup_nil, ext, unE, Nat.reduceBEq, builtinE, lenE, AV.rows, appendE, addedE, newRowE, newObjE, strz, mm, convE, buildE, fillE, chunks, List.replicate, List.flatten, guardE, cndQ, List.getElem?_toArray, List.flatMap, List.flatten_cons, List.flatten_nil, Int.reduceLT, Int.reduceLE, Int.reduceToNat, Option.map, Nat.zero_add, Nat.mul_one, Nat.one_mul, Nat.zero_le, Nat.add_zero, List.length_append, beq_true, beq_false, Bool.not_true, Bool.not_false, strOp, beq_self_eq_true, Int.toNat_natCast, indexE, Int.natCast_nonneg, mkE, newMslE, Bool.or_false, Bool.or_true, Bool.false_or, Bool.true_or, look2, denil, List.append_eq, once, without, convO, hN, hF, ty_3, notIf, isEq]
  simp only [retQ, retE, RetOK, objPairs, resPairs, cellPairs, objCells, retRen, retMem, exitMem, exitVals, resAt, entryMem, cellsAt, AMds, AMd, CMd, keys, List.append_nil, List.nil_append, List.cons_append, List.map_cons, List.map_nil, List.nodup_cons, List.mem_cons, List.not_mem_nil, or_false, not_false_eq_true, List.nodup_nil, get_mk, mem_mk, look_nil, look_cons, Option.isSome_some, Option.isSome_none, and_self, and_true, true_and, ↓reduceIte, Nat.reduceEqDiff, Nat.reduceAdd, Nat.reduceMul, Option.getD_some, inObj, inRow, outName, outCell, forall_eq_or_imp, forall_eq, implies_true, Nat.reduceBEq, reduceCtorEq, Bool.false_eq_true, andThen_some, andThen_none, Nat.zero_add, List.length_nil, List.length_cons, false_implies, List.length_append, loadE, run_ask, run_ret, run_fail, obind_some, obind_none, List.zip_cons_cons, List.zip_nil_left, List.zip_nil_right, AMd.AMp, List.take, List.drop, List.getElem?_cons_zero, List.getElem?_cons_succ, Nat.reduceLeDiff, Nat.zero_le, List.forall_mem_nil, rs_50]

end Go.Proofs.Ytjdokoldiemobaa.AM
