/-
  PACK: the reader's numbers.
-/
import Derived.Test.YtjdokoldiemobaaPkA
set_option linter.unusedVariables false
set_option linter.unusedSimpArgs false
namespace Go.Proofs.Ytjdokoldiemobaa.AM
open Go

variable {Γ : FuncId → Contract}

/-- The next number, of a reader that is ready. -/
def nextN (r : RS) (most : Int) : Int × RS :=
  if r.b.length < 6 then (0, ⟨[], 8⟩) else
  if 1099511627776 < getB (r.b.take 6) ∨ most < getB (r.b.take 6) then (0, ⟨[], 4⟩) else (getB (r.b.take 6), ⟨r.b.drop 6, 0⟩)
def rdNumC : Contract := fun args objs => match args, objs with
  | [.nilptr, .c (.int .i64 _)], [] => some ⟨[.pv (.c (.int .i64 0))], []⟩
  | [.ptr p 0, .c (.int .i64 most)], [[.c (.sl rows), .c (.int .i64 e), .c (.bool made)]] => match asB rows with
    | some b => if p = inObj 0 ∧ b.length ≤ 9223372036854775807 then
        if made = true ∧ e = 0 then some ⟨[.pv (.c (.int .i64 (nextN ⟨b, 0⟩ most).1))], [rOV (nextN ⟨b, 0⟩ most).2.b (nextN ⟨b, 0⟩ most).2.e true]⟩
        else some ⟨[.pv (.c (.int .i64 0))], [rOV b e made]⟩ else none
    | none => none
  | _, _ => none

set_option maxHeartbeats 8000000 in
theorem rdNum_sound (hΓ : SoundG Try.prog Γ) (h57 : Γ 124 = readyC) (h59 : Γ 126 = takeC) (h58 : Γ 125 = getC) (h60 : Γ 127 = stopC) : SoundC Try.prog 88 rdNumC := by
  refine sound_fn Try.func88 (by kernel_rfl) rfl rfl ?_
  intro args objs r hr
  unfold rdNumC at hr
  split at hr
  · cases hr
    refine ⟨rfl, by show 2 ≤ _; decide, fun E hN hns hF => ?_⟩
    refine vc_sound hΓ mixed _ _ _ ?_
    have hN := hN.trans nt_88
    simp only [runA, ncE, faE, fieldE, extE, cloE, bsE, idxE, okE, okM, entryT, entryMem, cellsAt, List.append_nil, List.nil_append, List.cons_append, loadE, storeE, binE, isSh, intOp, AV.flat, Option.map_some, Option.map_none, ↓reduceIte, Nat.reduceLT, Nat.reduceLeDiff, Nat.reduceEqDiff, Nat.reduceAdd, Nat.reduceMul, Nat.reduceSub, decide_true, decide_false, Option.getD_some, Option.getD_none, objName, rowName, resName, resCell, inObj, inRow, outName, outCell, EP.bind, List.getElem?_cons_zero, List.getElem?_cons_succ, List.length_cons, List.length_nil, List.map_cons, List.map_nil, cndE, reduceCtorEq, and_self, and_true, true_and, List.all_cons, List.all_nil, AV.scal, Bool.and_self, Bool.and_true, putAt, List.take, List.drop, Option.bind_some, Option.bind_none, Bool.false_eq_true, callE, argsE, AV.pure?, AV.toPC, toPCs, objsE, cellsE, resAt, backObjs, backCells, freeE, keys, exitMem, shapeOf, oneE, List.nodup_cons, List.mem_cons, List.not_mem_nil, or_false, not_false_eq_true, List.nodup_nil, ext, unE, Nat.reduceBEq, builtinE, lenE, AV.rows, appendE, addedE, newRowE, newObjE, strz, mm, convE, buildE, fillE, chunks, List.replicate, List.flatten, guardE, cndQ, List.getElem?_toArray, List.flatMap, List.flatten_cons, List.flatten_nil, Int.reduceLT, Int.reduceLE, Int.reduceToNat, Option.map, Nat.zero_add, Nat.mul_one, Nat.one_mul, Nat.zero_le, Nat.add_zero, List.length_append, beq_true, beq_false, Bool.not_true, Bool.not_false, strOp, beq_self_eq_true, Int.toNat_natCast, indexE, Int.natCast_nonneg, mkE, newMslE, Bool.or_false, Bool.or_true, Bool.false_or, Bool.true_or, look2, denil, List.append_eq, once, without, convO, hN, hF, ty_3, ty_4, ty_5, ty_26, ty_49, ty_134, ty_161, notIf, isEq, h57, readyC]
    simp only [retQ, retE, RetOK, objPairs, resPairs, cellPairs, objCells, retRen, retMem, exitMem, exitVals, resAt, entryMem, cellsAt, AMds, AMd, CMd, keys, List.append_nil, List.nil_append, List.cons_append, List.map_cons, List.map_nil, List.nodup_cons, List.mem_cons, List.not_mem_nil, or_false, not_false_eq_true, List.nodup_nil, get_mk, mem_mk, look_nil, look_cons, Option.isSome_some, Option.isSome_none, and_self, and_true, true_and, ↓reduceIte, Nat.reduceEqDiff, Nat.reduceAdd, Nat.reduceMul, Option.getD_some, inObj, inRow, outName, outCell, forall_eq_or_imp, forall_eq, implies_true, Nat.reduceBEq, reduceCtorEq, Bool.false_eq_true, andThen_some, andThen_none, Nat.zero_add, List.length_nil, List.length_cons, false_implies, List.length_append, loadE, run_ask, run_ret, run_fail, obind_some, obind_none, List.zip_cons_cons, List.zip_nil_left, List.zip_nil_right, AMd.AMp, List.take, List.drop, List.getElem?_cons_zero, List.getElem?_cons_succ, Nat.reduceLeDiff, Nat.zero_le, List.forall_mem_nil, rs_88]
  · split at hr
    · rename_i p most rows e made _ b hb
      split at hr
      · rename_i hc
        obtain ⟨rfl, hlen⟩ := hc
        obtain rfl := asB_inv hb
        split at hr
        · rename_i hm
          obtain ⟨rfl, rfl⟩ := hm
          cases hr
          refine ⟨rfl, by show 2 ≤ _; decide, fun E hN hns hF => ?_⟩
          refine vc_sound hΓ mixed _ _ _ ?_
          have hN := hN.trans nt_88
          by_cases hlt : b.length < 6
          · have ht : tookR ⟨b, 0⟩ 6 = ([], ⟨[], 8⟩) := by simp [tookR, hlt]
            have g0 : getB [] = 0 := rfl
            simp only [runA, ncE, faE, fieldE, extE, cloE, bsE, idxE, okE, okM, entryT, entryMem, cellsAt, List.append_nil, List.nil_append, List.cons_append, loadE, storeE, binE, isSh, intOp, AV.flat, Option.map_some, Option.map_none, ↓reduceIte, Nat.reduceLT, Nat.reduceLeDiff, Nat.reduceEqDiff, Nat.reduceAdd, Nat.reduceMul, Nat.reduceSub, decide_true, decide_false, Option.getD_some, Option.getD_none, objName, rowName, resName, resCell, inObj, inRow, outName, outCell, EP.bind, List.getElem?_cons_zero, List.getElem?_cons_succ, List.length_cons, List.length_nil, List.map_cons, List.map_nil, cndE, reduceCtorEq, and_self, and_true, true_and, List.all_cons, List.all_nil, AV.scal, Bool.and_self, Bool.and_true, putAt, List.take, List.drop, Option.bind_some, Option.bind_none, Bool.false_eq_true, callE, argsE, AV.pure?, AV.toPC, toPCs, objsE, cellsE, resAt, backObjs, backCells, freeE, keys, exitMem, shapeOf, oneE, List.nodup_cons, List.mem_cons, List.not_mem_nil, or_false, not_false_eq_true, List.nodup_nil, ext, unE, Nat.reduceBEq, builtinE, lenE, AV.rows, appendE, addedE, newRowE, newObjE, strz, mm, convE, buildE, fillE, chunks, List.replicate, List.flatten, guardE, cndQ, List.getElem?_toArray, List.flatMap, List.flatten_cons, List.flatten_nil, Int.reduceLT, Int.reduceLE, Int.reduceToNat, Option.map, Nat.zero_add, Nat.mul_one, Nat.one_mul, Nat.zero_le, Nat.add_zero, List.length_append, beq_true, beq_false, Bool.not_true, Bool.not_false, strOp, beq_self_eq_true, Int.toNat_natCast, indexE, Int.natCast_nonneg, mkE, newMslE, Bool.or_false, Bool.or_true, Bool.false_or, Bool.true_or, look2, denil, List.append_eq, once, without, convO, hN, hF, ty_3, ty_4, ty_5, ty_26, ty_49, ty_134, ty_161, notIf, isEq, h57, readyC, h59, takeC, h58, getC, asB_bytes, ht, g0, Int.reduceBEq, Int.reduceBNe, Int.reduceEq, Int.reduceToNat, Bool.true_and]
            simp only [retQ, retE, RetOK, objPairs, resPairs, cellPairs, objCells, retRen, retMem, exitMem, exitVals, resAt, entryMem, cellsAt, AMds, AMd, CMd, keys, List.append_nil, List.nil_append, List.cons_append, List.map_cons, List.map_nil, List.nodup_cons, List.mem_cons, List.not_mem_nil, or_false, not_false_eq_true, List.nodup_nil, get_mk, mem_mk, look_nil, look_cons, Option.isSome_some, Option.isSome_none, and_self, and_true, true_and, ↓reduceIte, Nat.reduceEqDiff, Nat.reduceAdd, Nat.reduceMul, Option.getD_some, inObj, inRow, outName, outCell, forall_eq_or_imp, forall_eq, implies_true, Nat.reduceBEq, reduceCtorEq, Bool.false_eq_true, andThen_some, andThen_none, Nat.zero_add, List.length_nil, List.length_cons, false_implies, List.length_append, loadE, run_ask, run_ret, run_fail, obind_some, obind_none, List.zip_cons_cons, List.zip_nil_left, List.zip_nil_right, AMd.AMp, List.take, List.drop, List.getElem?_cons_zero, List.getElem?_cons_succ, Nat.reduceLeDiff, Nat.zero_le, List.forall_mem_nil, rs_88]
            simp [nextN, hlt]
          · have ht : tookR ⟨b, 0⟩ 6 = (b.take 6, ⟨b.drop 6, 0⟩) := by simp [tookR, hlt]
            have hl6 : (b.take 6).length ≤ 9223372036854775807 := by simp; omega
            cases g1 : decide (getB (b.take 6) > 1099511627776) <;> cases g2 : decide (getB (b.take 6) > most)
            all_goals
              simp only [runA, ncE, faE, fieldE, extE, cloE, bsE, idxE, okE, okM, entryT, entryMem, cellsAt, List.append_nil, List.nil_append, List.cons_append, loadE, storeE, binE, isSh, intOp, AV.flat, Option.map_some, Option.map_none, ↓reduceIte, Nat.reduceLT, Nat.reduceLeDiff, Nat.reduceEqDiff, Nat.reduceAdd, Nat.reduceMul, Nat.reduceSub, decide_true, decide_false, Option.getD_some, Option.getD_none, objName, rowName, resName, resCell, inObj, inRow, outName, outCell, EP.bind, List.getElem?_cons_zero, List.getElem?_cons_succ, List.length_cons, List.length_nil, List.map_cons, List.map_nil, cndE, reduceCtorEq, and_self, and_true, true_and, List.all_cons, List.all_nil, AV.scal, Bool.and_self, Bool.and_true, putAt, List.take, List.drop, Option.bind_some, Option.bind_none, Bool.false_eq_true, callE, argsE, AV.pure?, AV.toPC, toPCs, objsE, cellsE, resAt, backObjs, backCells, freeE, keys, exitMem, shapeOf, oneE, List.nodup_cons, List.mem_cons, List.not_mem_nil, or_false, not_false_eq_true, List.nodup_nil, ext, unE, Nat.reduceBEq, builtinE, lenE, AV.rows, appendE, addedE, newRowE, newObjE, strz, mm, convE, buildE, fillE, chunks, List.replicate, List.flatten, guardE, cndQ, List.getElem?_toArray, List.flatMap, List.flatten_cons, List.flatten_nil, Int.reduceLT, Int.reduceLE, Int.reduceToNat, Option.map, Nat.zero_add, Nat.mul_one, Nat.one_mul, Nat.zero_le, Nat.add_zero, List.length_append, beq_true, beq_false, Bool.not_true, Bool.not_false, strOp, beq_self_eq_true, Int.toNat_natCast, indexE, Int.natCast_nonneg, mkE, newMslE, Bool.or_false, Bool.or_true, Bool.false_or, Bool.true_or, look2, denil, List.append_eq, once, without, convO, hN, hF, ty_3, ty_4, ty_5, ty_26, ty_49, ty_134, ty_161, notIf, isEq, h57, readyC, h59, takeC, h58, getC, h60, stopC, asB_bytes, ht, hl6, g1, g2, Int.reduceBEq, Int.reduceBNe, Int.reduceEq, Int.reduceToNat, Bool.true_and]
            all_goals
              simp only [decide_eq_false_iff_not, decide_eq_true_eq, gt_iff_lt] at g1 g2
            all_goals
              simp only [retQ, retE, RetOK, objPairs, resPairs, cellPairs, objCells, retRen, retMem, exitMem, exitVals, resAt, entryMem, cellsAt, AMds, AMd, CMd, keys, List.append_nil, List.nil_append, List.cons_append, List.map_cons, List.map_nil, List.nodup_cons, List.mem_cons, List.not_mem_nil, or_false, not_false_eq_true, List.nodup_nil, get_mk, mem_mk, look_nil, look_cons, Option.isSome_some, Option.isSome_none, and_self, and_true, true_and, ↓reduceIte, Nat.reduceEqDiff, Nat.reduceAdd, Nat.reduceMul, Option.getD_some, inObj, inRow, outName, outCell, forall_eq_or_imp, forall_eq, implies_true, Nat.reduceBEq, reduceCtorEq, Bool.false_eq_true, andThen_some, andThen_none, Nat.zero_add, List.length_nil, List.length_cons, false_implies, List.length_append, loadE, run_ask, run_ret, run_fail, obind_some, obind_none, List.zip_cons_cons, List.zip_nil_left, List.zip_nil_right, AMd.AMp, List.take, List.drop, List.getElem?_cons_zero, List.getElem?_cons_succ, Nat.reduceLeDiff, Nat.zero_le, List.forall_mem_nil, rs_88]
            all_goals simp [nextN, hlt, g1, g2, bytes]
        · rename_i hm
          cases hr
          refine ⟨rfl, by show 2 ≤ _; decide, fun E hN hns hF => ?_⟩
          refine vc_sound hΓ mixed _ _ _ ?_
          have hN := hN.trans nt_88
          have h1 : (made && (e == 0)) = false := by
            cases made
            · rfl
            · simpa using hm
          simp only [runA, ncE, faE, fieldE, extE, cloE, bsE, idxE, okE, okM, entryT, entryMem, cellsAt, List.append_nil, List.nil_append, List.cons_append, loadE, storeE, binE, isSh, intOp, AV.flat, Option.map_some, Option.map_none, ↓reduceIte, Nat.reduceLT, Nat.reduceLeDiff, Nat.reduceEqDiff, Nat.reduceAdd, Nat.reduceMul, Nat.reduceSub, decide_true, decide_false, Option.getD_some, Option.getD_none, objName, rowName, resName, resCell, inObj, inRow, outName, outCell, EP.bind, List.getElem?_cons_zero, List.getElem?_cons_succ, List.length_cons, List.length_nil, List.map_cons, List.map_nil, cndE, reduceCtorEq, and_self, and_true, true_and, List.all_cons, List.all_nil, AV.scal, Bool.and_self, Bool.and_true, putAt, List.take, List.drop, Option.bind_some, Option.bind_none, Bool.false_eq_true, callE, argsE, AV.pure?, AV.toPC, toPCs, objsE, cellsE, resAt, backObjs, backCells, freeE, keys, exitMem, shapeOf, oneE, List.nodup_cons, List.mem_cons, List.not_mem_nil, or_false, not_false_eq_true, List.nodup_nil, ext, unE, Nat.reduceBEq, builtinE, lenE, AV.rows, appendE, addedE, newRowE, newObjE, strz, mm, convE, buildE, fillE, chunks, List.replicate, List.flatten, guardE, cndQ, List.getElem?_toArray, List.flatMap, List.flatten_cons, List.flatten_nil, Int.reduceLT, Int.reduceLE, Int.reduceToNat, Option.map, Nat.zero_add, Nat.mul_one, Nat.one_mul, Nat.zero_le, Nat.add_zero, List.length_append, beq_true, beq_false, Bool.not_true, Bool.not_false, strOp, beq_self_eq_true, Int.toNat_natCast, indexE, Int.natCast_nonneg, mkE, newMslE, Bool.or_false, Bool.or_true, Bool.false_or, Bool.true_or, look2, denil, List.append_eq, once, without, convO, hN, hF, ty_3, ty_4, ty_5, ty_26, ty_49, ty_134, ty_161, notIf, isEq, h57, readyC, h1]
          simp only [retQ, retE, RetOK, objPairs, resPairs, cellPairs, objCells, retRen, retMem, exitMem, exitVals, resAt, entryMem, cellsAt, AMds, AMd, CMd, keys, List.append_nil, List.nil_append, List.cons_append, List.map_cons, List.map_nil, List.nodup_cons, List.mem_cons, List.not_mem_nil, or_false, not_false_eq_true, List.nodup_nil, get_mk, mem_mk, look_nil, look_cons, Option.isSome_some, Option.isSome_none, and_self, and_true, true_and, ↓reduceIte, Nat.reduceEqDiff, Nat.reduceAdd, Nat.reduceMul, Option.getD_some, inObj, inRow, outName, outCell, forall_eq_or_imp, forall_eq, implies_true, Nat.reduceBEq, reduceCtorEq, Bool.false_eq_true, andThen_some, andThen_none, Nat.zero_add, List.length_nil, List.length_cons, false_implies, List.length_append, loadE, run_ask, run_ret, run_fail, obind_some, obind_none, List.zip_cons_cons, List.zip_nil_left, List.zip_nil_right, AMd.AMp, List.take, List.drop, List.getElem?_cons_zero, List.getElem?_cons_succ, Nat.reduceLeDiff, Nat.zero_le, List.forall_mem_nil, rs_88]
      · cases hr
    · cases hr
  · cases hr

end Go.Proofs.Ytjdokoldiemobaa.AM
