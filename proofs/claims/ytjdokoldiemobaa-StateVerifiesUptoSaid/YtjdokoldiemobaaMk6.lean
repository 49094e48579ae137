/-
  Merkle: lists against each other; the rows, one by one: an iterator, walked by hand.
-/
import Derived.Test.YtjdokoldiemobaaMk5
import Derived.Test.YtjdokoldiemobaaAmR
import Derived.RangeFuncNested
import Derived.RangeFuncCalls
import Derived.RangeFuncBox
import Derived.Shelf.Abstract
import Derived.Shelf.RegionOpen
import Derived.WalkKit
import Derived.OwnWalkIn
import Derived.TacticsInMore
import Derived.LoopNIn
import Derived.LoopIn
set_option linter.unusedVariables false
set_option linter.unusedSimpArgs false
namespace Go.Proofs.Ytjdokoldiemobaa.AM
open Go Go.Proofs Go.RowKit Go.Shelf

variable {Γ : FuncId → Contract}

/-- Two lists of texts. -/
structure Tx2 where
  a : List (List UInt8)
  b : List (List UInt8)
noncomputable def textsC : Contract := mkC (α := Tx2) (fun p => p.a.length ≤ 1099511627776) (fun p => [.c (.sl (texts p.a)), .c (.sl (texts p.b))]) (fun _ => []) (fun p => ⟨[.pv (.c (.bool (decide (p.a = p.b))))], []⟩)
theorem texts_at (a b : List (List UInt8)) (h : a.length ≤ 1099511627776) : textsC [.c (.sl (texts a)), .c (.sl (texts b))] [] = some ⟨[.pv (.c (.bool (decide (a = b))))], []⟩ :=
  mkC_at (α := Tx2) ⟨a, b⟩ h (by
    rintro ⟨a', b'⟩ _ h' _
    simp only [List.cons.injEq, AV.c.injEq, PC.sl.injEq, and_true] at h'
    obtain ⟨h1, h2⟩ := h'
    obtain rfl := texts_inj h1
    obtain rfl := texts_inj h2
    rfl)

set_option maxRecDepth 100000 in
set_option maxHeartbeats 1000000 in
theorem texts_sound (hΓ : SoundG Try.prog Γ) : SoundC Try.prog 49 textsC := by
  refine sound_fn Try.func49 (by kernel_rfl) rfl rfl ?_
  intro args objs r hr
  obtain ⟨⟨a, b⟩, hl, rfl, rfl, rfl⟩ := mkC_inv hr
  have hl : a.length ≤ 1099511627776 := hl
  refine ⟨rfl, by show 2 ≤ _; decide, fun E hN hns hF => ?_⟩
  refine vc_sound hΓ mixed _ _ _ ?_
  have hN := hN.trans nt_49
  dsimp only
  by_cases hne : a.length = b.length
  · have g1 : ((a.length : Int) != (b.length : Int)) = false := by simp [hne]
    simp only [runA, ncE, faE, fieldE, extE, cloE, bsE, idxE, okE, okM, entryT, entryMem, cellsAt, List.append_nil, List.nil_append, List.cons_append, loadE, storeE, binE, isSh, intOp, AV.flat, Option.map_some, Option.map_none, ↓reduceIte, Nat.reduceLT, Nat.reduceLeDiff, Nat.reduceEqDiff, Nat.reduceAdd, Nat.reduceMul, Nat.reduceSub, decide_true, decide_false, Option.getD_some, Option.getD_none, objName, rowName, resName, resCell, inObj, inRow, outName, outCell, EP.bind, List.getElem?_cons_zero, List.getElem?_cons_succ, List.length_cons, List.length_nil, List.map_cons, List.map_nil, cndE, reduceCtorEq, and_self, and_true, true_and, List.all_cons, List.all_nil, AV.scal, Bool.and_self, Bool.and_true, putAt, List.take, List.drop, Option.bind_some, Option.bind_none, Bool.false_eq_true, callE, argsE, AV.pure?, AV.toPC, toPCs, objsE, cellsE, resAt, backObjs, backCells, freeE, keys, exitMem, shapeOf, oneE, List.nodup_cons, List.mem_cons, List.not_mem_nil, or_false, not_false_eq_true, List.nodup_nil, ext, unE, Nat.reduceBEq, builtinE, lenE, AV.rows, appendE, addedE, newRowE, newObjE, strz, mm, convE, buildE, fillE, chunks, List.replicate, List.flatten, guardE, cndQ, List.getElem?_toArray, List.flatMap, List.flatten_cons, List.flatten_nil, Int.reduceLT, Int.reduceLE, Int.reduceToNat, Option.map, Nat.zero_add, Nat.mul_one, Nat.one_mul, Nat.zero_le, Nat.add_zero, List.length_append, beq_true, beq_false, Bool.not_true, Bool.not_false, strOp, beq_self_eq_true, Int.toNat_natCast, indexE, Int.natCast_nonneg, mkE, newMslE, Bool.or_false, Bool.or_true, Bool.false_or, Bool.true_or, look2, denil, List.append_eq, once, without, convO, hN, hF, ty_3, ty_4, ty_9, ty_23, notIf, isEq, g1, texts_length]
    refine AWP.loop (fun c st => ∃ i : Nat, i ≤ a.length ∧ a.take i = b.take i ∧ c = a.length - i ∧ st = ⟨[(0, .c (.sl (texts a))), (1, .c (.sl (texts b))), (5, .c (.int .i64 (i : Int)))], []⟩) ⟨a.length, _, ?w, 0, Nat.zero_le _, rfl, rfl, rfl⟩ ?r
    case w =>
      rw [hns]
      simp only [Weak, wkM, wkT, wkRen, AMd, AMds, AMd.AMp, CMd, look_cons, look_nil, get_mk, mem_mk, AS.get, AS.mem, keys, entryMem, cellsAt, List.map_nil, List.map_cons, List.not_mem_nil, List.mem_cons, or_false, false_implies, implies_true, and_true, true_and, and_self, ↓reduceIte, Nat.reduceEqDiff, Option.getD_some, Option.getD_none, Option.map_some, Option.map_none, Option.isSome_some, Option.isSome_none, forall_eq_or_imp, forall_eq, reduceCtorEq, List.append_nil, List.nil_append, List.cons_append, Nat.reduceAdd, Nat.reduceMul, inObj, inRow]
      first | done | simp
    case r =>
      rintro c st ⟨i, hi, hti, rfl, rfl⟩
      refine vc_sound hΓ mixed _ _ _ ?_
      by_cases hlt : i < a.length
      · have g2 : decide ((i : Int) < (a.length : Int)) = true := by simpa using hlt
        obtain ⟨x, hx⟩ : ∃ x, a[i]? = some x := ⟨a[i], by simp [hlt]⟩
        obtain ⟨y, hy⟩ : ∃ y, b[i]? = some y := ⟨b[i]'(by omega), by simp⟩
        have hxr : (texts a)[i]? = some [PC.str x] := by simp [texts, hx]
        have hyr : (texts b)[i]? = some [PC.str y] := by simp [texts, hy]
        have e1 : IntKind.i64.wrap ((i : Int) + 1) = (i : Int) + 1 := wrapI (by omega)
        by_cases hxy : x = y
        · subst hxy
          have g3 : (x != x) = false := by simp
          have hti2 : a.take (i + 1) = b.take (i + 1) := by rw [List.take_add_one, List.take_add_one, hti, hx, hy]
          simp only [runA, ncE, faE, fieldE, extE, cloE, bsE, idxE, okE, okM, entryT, entryMem, cellsAt, List.append_nil, List.nil_append, List.cons_append, loadE, storeE, binE, isSh, intOp, AV.flat, Option.map_some, Option.map_none, ↓reduceIte, Nat.reduceLT, Nat.reduceLeDiff, Nat.reduceEqDiff, Nat.reduceAdd, Nat.reduceMul, Nat.reduceSub, decide_true, decide_false, Option.getD_some, Option.getD_none, objName, rowName, resName, resCell, inObj, inRow, outName, outCell, EP.bind, List.getElem?_cons_zero, List.getElem?_cons_succ, List.length_cons, List.length_nil, List.map_cons, List.map_nil, cndE, reduceCtorEq, and_self, and_true, true_and, List.all_cons, List.all_nil, AV.scal, Bool.and_self, Bool.and_true, putAt, List.take, List.drop, Option.bind_some, Option.bind_none, Bool.false_eq_true, callE, argsE, AV.pure?, AV.toPC, toPCs, objsE, cellsE, resAt, backObjs, backCells, freeE, keys, exitMem, shapeOf, oneE, List.nodup_cons, List.mem_cons, List.not_mem_nil, or_false, not_false_eq_true, List.nodup_nil, ext, unE, Nat.reduceBEq, builtinE, lenE, AV.rows, appendE, addedE, newRowE, newObjE, strz, mm, convE, buildE, fillE, chunks, List.replicate, List.flatten, guardE, cndQ, List.getElem?_toArray, List.flatMap, List.flatten_cons, List.flatten_nil, Int.reduceLT, Int.reduceLE, Int.reduceToNat, Option.map, Nat.zero_add, Nat.mul_one, Nat.one_mul, Nat.zero_le, Nat.add_zero, List.length_append, beq_true, beq_false, Bool.not_true, Bool.not_false, strOp, beq_self_eq_true, Int.toNat_natCast, indexE, Int.natCast_nonneg, mkE, newMslE, Bool.or_false, Bool.or_true, Bool.false_or, Bool.true_or, look2, denil, List.append_eq, once, without, convO, hN, hF, ty_3, ty_4, ty_9, ty_23, notIf, isEq, g2, hxr, hyr, g3, texts_length]
          refine drawnP_intro (by kernel_rfl) (by kernel_rfl) ?_
          simp only [runA, ncE, faE, fieldE, extE, cloE, bsE, idxE, okE, okM, entryT, entryMem, cellsAt, List.append_nil, List.nil_append, List.cons_append, loadE, storeE, binE, isSh, intOp, AV.flat, Option.map_some, Option.map_none, ↓reduceIte, Nat.reduceLT, Nat.reduceLeDiff, Nat.reduceEqDiff, Nat.reduceAdd, Nat.reduceMul, Nat.reduceSub, decide_true, decide_false, Option.getD_some, Option.getD_none, objName, rowName, resName, resCell, inObj, inRow, outName, outCell, EP.bind, List.getElem?_cons_zero, List.getElem?_cons_succ, List.length_cons, List.length_nil, List.map_cons, List.map_nil, cndE, reduceCtorEq, and_self, and_true, true_and, List.all_cons, List.all_nil, AV.scal, Bool.and_self, Bool.and_true, putAt, List.take, List.drop, Option.bind_some, Option.bind_none, Bool.false_eq_true, callE, argsE, AV.pure?, AV.toPC, toPCs, objsE, cellsE, resAt, backObjs, backCells, freeE, keys, exitMem, shapeOf, oneE, List.nodup_cons, List.mem_cons, List.not_mem_nil, or_false, not_false_eq_true, List.nodup_nil, ext, unE, Nat.reduceBEq, builtinE, lenE, AV.rows, appendE, addedE, newRowE, newObjE, strz, mm, convE, buildE, fillE, chunks, List.replicate, List.flatten, guardE, cndQ, List.getElem?_toArray, List.flatMap, List.flatten_cons, List.flatten_nil, Int.reduceLT, Int.reduceLE, Int.reduceToNat, Option.map, Nat.zero_add, Nat.mul_one, Nat.one_mul, Nat.zero_le, Nat.add_zero, List.length_append, beq_true, beq_false, Bool.not_true, Bool.not_false, strOp, beq_self_eq_true, Int.toNat_natCast, indexE, Int.natCast_nonneg, mkE, newMslE, Bool.or_false, Bool.or_true, Bool.false_or, Bool.true_or, look2, denil, List.append_eq, once, without, convO, hN, hF, ty_3, ty_4, ty_9, ty_23, notIf, isEq, g3, e1]
          refine ⟨a.length - (i + 1), _, by omega, ?_, i + 1, by omega, hti2, rfl, rfl⟩
          rw [hns]
          simp only [Weak, wkM, wkT, wkRen, AMd, AMds, AMd.AMp, CMd, look_cons, look_nil, get_mk, mem_mk, AS.get, AS.mem, keys, entryMem, cellsAt, List.map_nil, List.map_cons, List.not_mem_nil, List.mem_cons, or_false, false_implies, implies_true, and_true, true_and, and_self, ↓reduceIte, Nat.reduceEqDiff, Option.getD_some, Option.getD_none, Option.map_some, Option.map_none, Option.isSome_some, Option.isSome_none, forall_eq_or_imp, forall_eq, reduceCtorEq, List.append_nil, List.nil_append, List.cons_append, Nat.reduceAdd, Nat.reduceMul, inObj, inRow]
          first | done | simp
        · have g3 : (x == y) = false := by simpa using hxy
          have hab : decide (a = b) = false := by
            simp only [decide_eq_false_iff_not]
            rintro rfl
            rw [hx] at hy
            exact hxy (Option.some.inj hy)
          simp only [runA, ncE, faE, fieldE, extE, cloE, bsE, idxE, okE, okM, entryT, entryMem, cellsAt, List.append_nil, List.nil_append, List.cons_append, loadE, storeE, binE, isSh, intOp, AV.flat, Option.map_some, Option.map_none, ↓reduceIte, Nat.reduceLT, Nat.reduceLeDiff, Nat.reduceEqDiff, Nat.reduceAdd, Nat.reduceMul, Nat.reduceSub, decide_true, decide_false, Option.getD_some, Option.getD_none, objName, rowName, resName, resCell, inObj, inRow, outName, outCell, EP.bind, List.getElem?_cons_zero, List.getElem?_cons_succ, List.length_cons, List.length_nil, List.map_cons, List.map_nil, cndE, reduceCtorEq, and_self, and_true, true_and, List.all_cons, List.all_nil, AV.scal, Bool.and_self, Bool.and_true, putAt, List.take, List.drop, Option.bind_some, Option.bind_none, Bool.false_eq_true, callE, argsE, AV.pure?, AV.toPC, toPCs, objsE, cellsE, resAt, backObjs, backCells, freeE, keys, exitMem, shapeOf, oneE, List.nodup_cons, List.mem_cons, List.not_mem_nil, or_false, not_false_eq_true, List.nodup_nil, ext, unE, Nat.reduceBEq, builtinE, lenE, AV.rows, appendE, addedE, newRowE, newObjE, strz, mm, convE, buildE, fillE, chunks, List.replicate, List.flatten, guardE, cndQ, List.getElem?_toArray, List.flatMap, List.flatten_cons, List.flatten_nil, Int.reduceLT, Int.reduceLE, Int.reduceToNat, Option.map, Nat.zero_add, Nat.mul_one, Nat.one_mul, Nat.zero_le, Nat.add_zero, List.length_append, beq_true, beq_false, Bool.not_true, Bool.not_false, strOp, beq_self_eq_true, Int.toNat_natCast, indexE, Int.natCast_nonneg, mkE, newMslE, Bool.or_false, Bool.or_true, Bool.false_or, Bool.true_or, look2, denil, List.append_eq, once, without, convO, hN, hF, ty_3, ty_4, ty_9, ty_23, notIf, isEq, g2, hxr, hyr, g3, texts_length]
          refine drawnP_intro (by kernel_rfl) (by kernel_rfl) ?_
          simp only [runA, ncE, faE, fieldE, extE, cloE, bsE, idxE, okE, okM, entryT, entryMem, cellsAt, List.append_nil, List.nil_append, List.cons_append, loadE, storeE, binE, isSh, intOp, AV.flat, Option.map_some, Option.map_none, ↓reduceIte, Nat.reduceLT, Nat.reduceLeDiff, Nat.reduceEqDiff, Nat.reduceAdd, Nat.reduceMul, Nat.reduceSub, decide_true, decide_false, Option.getD_some, Option.getD_none, objName, rowName, resName, resCell, inObj, inRow, outName, outCell, EP.bind, List.getElem?_cons_zero, List.getElem?_cons_succ, List.length_cons, List.length_nil, List.map_cons, List.map_nil, cndE, reduceCtorEq, and_self, and_true, true_and, List.all_cons, List.all_nil, AV.scal, Bool.and_self, Bool.and_true, putAt, List.take, List.drop, Option.bind_some, Option.bind_none, Bool.false_eq_true, callE, argsE, AV.pure?, AV.toPC, toPCs, objsE, cellsE, resAt, backObjs, backCells, freeE, keys, exitMem, shapeOf, oneE, List.nodup_cons, List.mem_cons, List.not_mem_nil, or_false, not_false_eq_true, List.nodup_nil, ext, unE, Nat.reduceBEq, builtinE, lenE, AV.rows, appendE, addedE, newRowE, newObjE, strz, mm, convE, buildE, fillE, chunks, List.replicate, List.flatten, guardE, cndQ, List.getElem?_toArray, List.flatMap, List.flatten_cons, List.flatten_nil, Int.reduceLT, Int.reduceLE, Int.reduceToNat, Option.map, Nat.zero_add, Nat.mul_one, Nat.one_mul, Nat.zero_le, Nat.add_zero, List.length_append, beq_true, beq_false, Bool.not_true, Bool.not_false, strOp, beq_self_eq_true, Int.toNat_natCast, indexE, Int.natCast_nonneg, mkE, newMslE, Bool.or_false, Bool.or_true, Bool.false_or, Bool.true_or, look2, denil, List.append_eq, once, without, convO, hN, hF, ty_3, ty_4, ty_9, ty_23, notIf, isEq, g3]
          simp only [retQ, retE, RetOK, objPairs, resPairs, cellPairs, objCells, retRen, retMem, exitMem, exitVals, resAt, entryMem, cellsAt, AMds, AMd, CMd, keys, List.append_nil, List.nil_append, List.cons_append, List.map_cons, List.map_nil, List.nodup_cons, List.mem_cons, List.not_mem_nil, or_false, not_false_eq_true, List.nodup_nil, get_mk, mem_mk, look_nil, look_cons, Option.isSome_some, Option.isSome_none, and_self, and_true, true_and, ↓reduceIte, Nat.reduceEqDiff, Nat.reduceAdd, Nat.reduceMul, Option.getD_some, inObj, inRow, outName, outCell, forall_eq_or_imp, forall_eq, implies_true, Nat.reduceBEq, reduceCtorEq, Bool.false_eq_true, andThen_some, andThen_none, Nat.zero_add, List.length_nil, List.length_cons, false_implies, List.length_append, loadE, run_ask, run_ret, run_fail, obind_some, obind_none, List.zip_cons_cons, List.zip_nil_left, List.zip_nil_right, AMd.AMp, List.take, List.drop, List.getElem?_cons_zero, List.getElem?_cons_succ, Nat.reduceLeDiff, Nat.zero_le, List.forall_mem_nil, rs_49, hab]
      · have g2 : decide ((i : Int) < (a.length : Int)) = false := by simpa using hlt
        have hab : decide (a = b) = true := by
          simp only [decide_eq_true_eq]
          rw [List.take_of_length_le (by omega), List.take_of_length_le (by omega)] at hti
          exact hti
        simp only [runA, ncE, faE, fieldE, extE, cloE, bsE, idxE, okE, okM, entryT, entryMem, cellsAt, List.append_nil, List.nil_append, List.cons_append, loadE, storeE, binE, isSh, intOp, AV.flat, Option.map_some, Option.map_none, ↓reduceIte, Nat.reduceLT, Nat.reduceLeDiff, Nat.reduceEqDiff, Nat.reduceAdd, Nat.reduceMul, Nat.reduceSub, decide_true, decide_false, Option.getD_some, Option.getD_none, objName, rowName, resName, resCell, inObj, inRow, outName, outCell, EP.bind, List.getElem?_cons_zero, List.getElem?_cons_succ, List.length_cons, List.length_nil, List.map_cons, List.map_nil, cndE, reduceCtorEq, and_self, and_true, true_and, List.all_cons, List.all_nil, AV.scal, Bool.and_self, Bool.and_true, putAt, List.take, List.drop, Option.bind_some, Option.bind_none, Bool.false_eq_true, callE, argsE, AV.pure?, AV.toPC, toPCs, objsE, cellsE, resAt, backObjs, backCells, freeE, keys, exitMem, shapeOf, oneE, List.nodup_cons, List.mem_cons, List.not_mem_nil, or_false, not_false_eq_true, List.nodup_nil, ext, unE, Nat.reduceBEq, builtinE, lenE, AV.rows, appendE, addedE, newRowE, newObjE, strz, mm, convE, buildE, fillE, chunks, List.replicate, List.flatten, guardE, cndQ, List.getElem?_toArray, List.flatMap, List.flatten_cons, List.flatten_nil, Int.reduceLT, Int.reduceLE, Int.reduceToNat, Option.map, Nat.zero_add, Nat.mul_one, Nat.one_mul, Nat.zero_le, Nat.add_zero, List.length_append, beq_true, beq_false, Bool.not_true, Bool.not_false, strOp, beq_self_eq_true, Int.toNat_natCast, indexE, Int.natCast_nonneg, mkE, newMslE, Bool.or_false, Bool.or_true, Bool.false_or, Bool.true_or, look2, denil, List.append_eq, once, without, convO, hN, hF, ty_3, ty_4, ty_9, ty_23, notIf, isEq, g2, texts_length]
        simp only [retQ, retE, RetOK, objPairs, resPairs, cellPairs, objCells, retRen, retMem, exitMem, exitVals, resAt, entryMem, cellsAt, AMds, AMd, CMd, keys, List.append_nil, List.nil_append, List.cons_append, List.map_cons, List.map_nil, List.nodup_cons, List.mem_cons, List.not_mem_nil, or_false, not_false_eq_true, List.nodup_nil, get_mk, mem_mk, look_nil, look_cons, Option.isSome_some, Option.isSome_none, and_self, and_true, true_and, ↓reduceIte, Nat.reduceEqDiff, Nat.reduceAdd, Nat.reduceMul, Option.getD_some, inObj, inRow, outName, outCell, forall_eq_or_imp, forall_eq, implies_true, Nat.reduceBEq, reduceCtorEq, Bool.false_eq_true, andThen_some, andThen_none, Nat.zero_add, List.length_nil, List.length_cons, false_implies, List.length_append, loadE, run_ask, run_ret, run_fail, obind_some, obind_none, List.zip_cons_cons, List.zip_nil_left, List.zip_nil_right, AMd.AMp, List.take, List.drop, List.getElem?_cons_zero, List.getElem?_cons_succ, Nat.reduceLeDiff, Nat.zero_le, List.forall_mem_nil, rs_49, hab]
  · have g1 : ((a.length : Int) != (b.length : Int)) = true := by simp; omega
    have hab : decide (a = b) = false := by
      simp only [decide_eq_false_iff_not]
      rintro rfl
      exact hne rfl
    simp only [runA, ncE, faE, fieldE, extE, cloE, bsE, idxE, okE, okM, entryT, entryMem, cellsAt, List.append_nil, List.nil_append, List.cons_append, loadE, storeE, binE, isSh, intOp, AV.flat, Option.map_some, Option.map_none, ↓reduceIte, Nat.reduceLT, Nat.reduceLeDiff, Nat.reduceEqDiff, Nat.reduceAdd, Nat.reduceMul, Nat.reduceSub, decide_true, decide_false, Option.getD_some, Option.getD_none, objName, rowName, resName, resCell, inObj, inRow, outName, outCell, EP.bind, List.getElem?_cons_zero, List.getElem?_cons_succ, List.length_cons, List.length_nil, List.map_cons, List.map_nil, cndE, reduceCtorEq, and_self, and_true, true_and, List.all_cons, List.all_nil, AV.scal, Bool.and_self, Bool.and_true, putAt, List.take, List.drop, Option.bind_some, Option.bind_none, Bool.false_eq_true, callE, argsE, AV.pure?, AV.toPC, toPCs, objsE, cellsE, resAt, backObjs, backCells, freeE, keys, exitMem, shapeOf, oneE, List.nodup_cons, List.mem_cons, List.not_mem_nil, or_false, not_false_eq_true, List.nodup_nil, ext, unE, Nat.reduceBEq, builtinE, lenE, AV.rows, appendE, addedE, newRowE, newObjE, strz, mm, convE, buildE, fillE, chunks, List.replicate, List.flatten, guardE, cndQ, List.getElem?_toArray, List.flatMap, List.flatten_cons, List.flatten_nil, Int.reduceLT, Int.reduceLE, Int.reduceToNat, Option.map, Nat.zero_add, Nat.mul_one, Nat.one_mul, Nat.zero_le, Nat.add_zero, List.length_append, beq_true, beq_false, Bool.not_true, Bool.not_false, strOp, beq_self_eq_true, Int.toNat_natCast, indexE, Int.natCast_nonneg, mkE, newMslE, Bool.or_false, Bool.or_true, Bool.false_or, Bool.true_or, look2, denil, List.append_eq, once, without, convO, hN, hF, ty_3, ty_4, ty_9, ty_23, notIf, isEq, g1, texts_length]
    simp only [retQ, retE, RetOK, objPairs, resPairs, cellPairs, objCells, retRen, retMem, exitMem, exitVals, resAt, entryMem, cellsAt, AMds, AMd, CMd, keys, List.append_nil, List.nil_append, List.cons_append, List.map_cons, List.map_nil, List.nodup_cons, List.mem_cons, List.not_mem_nil, or_false, not_false_eq_true, List.nodup_nil, get_mk, mem_mk, look_nil, look_cons, Option.isSome_some, Option.isSome_none, and_self, and_true, true_and, ↓reduceIte, Nat.reduceEqDiff, Nat.reduceAdd, Nat.reduceMul, Option.getD_some, inObj, inRow, outName, outCell, forall_eq_or_imp, forall_eq, implies_true, Nat.reduceBEq, reduceCtorEq, Bool.false_eq_true, andThen_some, andThen_none, Nat.zero_add, List.length_nil, List.length_cons, false_implies, List.length_append, loadE, run_ask, run_ret, run_fail, obind_some, obind_none, List.zip_cons_cons, List.zip_nil_left, List.zip_nil_right, AMd.AMp, List.take, List.drop, List.getElem?_cons_zero, List.getElem?_cons_succ, Nat.reduceLeDiff, Nat.zero_le, List.forall_mem_nil, rs_49, hab]

/-! the rows -/
set_option maxRecDepth 100000 in
theorem rows_calls (ad : Option Addr) (len cap : Nat) (w : World) : Calls Try.prog 128 #[.slice ad len cap] w fun e w' => e = .returned (.func (.func 151) #[] #[.pointer (some ⟨w.heap.size, 0, none⟩)]) ∧ w' = w.alloc (.cells #[.slice ad len cap] 23) := by
  refine callsIn_wide.1 (callsIn_of_wp (F := Fence.wide) (n := 0) Try.func128 rfl trivial ?_ rfl)
  simp only [Try.ntmps128, List.size_toArray, List.length_cons, List.length_nil, Nat.reduceAdd, Nat.reduceSub, Array.replicate_succ, Array.replicate_zero, List.push_toArray, List.append_toArray, List.nil_append, List.cons_append]
  gi_wp2
  go_ret
  exact ⟨rfl, rfl⟩

set_option maxRecDepth 100000 in
set_option maxHeartbeats 4000000 in
/-- The rows, from the leaves on: each is yielded; the next one is made of it, as long as it has more than one. -/
theorem rows_it (l Bx k : Nat) (rs : Nat → Nat) (J J' : Nat → World → Prop) (hlen : ∀ i, i < k → 1 < rs i) (hk : rs k ≤ 1)
    (hbox : ∀ i W, J i W → ∃ v, W.cell? ⟨Bx, 0, none⟩ = some v) (hbox' : ∀ i W, J' i W → ∃ ad cap, W.cell? ⟨Bx, 0, none⟩ = some (.slice ad (rs i) cap))
    (hY : ∀ i W v, i ≤ k → J i W → W.cell? ⟨Bx, 0, none⟩ = some v → YieldAt Fence.wide 0 Try.prog l #[v] W fun e W' => e = .returned (.bool true) ∧ J' i W')
    (hUp : ∀ i W v, i < k → J' i W → W.cell? ⟨Bx, 0, none⟩ = some v → Calls Try.prog 152 #[v] W fun e W' => ∃ ad n cap, e = .returned (.slice ad n cap) ∧ (∃ x, W'.cell? ⟨Bx, 0, none⟩ = some x) ∧ W'.frozen? ⟨Bx, 0, none⟩ = false ∧ J (i + 1) (W'.setCell ⟨Bx, 0, none⟩ (.slice ad n cap)))
    (W : World) (h0 : J 0 W) :
    CallsIn Fence.wide 0 Try.prog 151 #[.func (.yield l) #[] #[], .pointer (some ⟨Bx, 0, none⟩)] W fun e W' => (∃ v, e = .returned v) ∧ J' k W' := by
  refine callsIn_of_wp Try.func151 rfl trivial ?_ rfl
  simp only [Try.ntmps151, List.size_toArray, List.length_cons, List.length_nil, Nat.reduceAdd, Nat.reduceSub, Array.replicate_succ, Array.replicate_zero, List.push_toArray, List.append_toArray, List.nil_append, List.cons_append]
  refine wpIn_block (wpIn_loop_rounds (k + 1) ?_)
  refine (?key : ∀ (d i : Nat) (W : World) (t2 t3 t4 t5 t6 t7 t8 t9 t10 t11 t12 : Value), i + d = k → J i W →
      Code.roundsIn Fence.wide 0 Try.prog ?c ?Q (d + 1) { tmps := #[.func (.yield l) #[] #[], .pointer (some ⟨Bx, 0, none⟩), t2, t3, t4, t5, t6, t7, t8, t9, t10, t11, t12], defers := [] } W) k 0 W _ _ _ _ _ _ _ _ _ _ _ (Nat.zero_add k) h0
  intro d
  induction d with
  | zero =>
    intro i W t2 t3 t4 t5 t6 t7 t8 t9 t10 t11 t12 hi hJ
    obtain rfl : i = k := by omega
    obtain ⟨v, hv⟩ := hbox i W hJ
    obtain ⟨fn, tmps, assign, body, hy, hR1⟩ := hY i W v (Nat.le_refl _) hJ hv
    rw [roundsIn_succ]
    gi_wp2
    refine ⟨rfl, hR1.mono ?_⟩
    rintro e W3 ⟨rfl, hJ3⟩
    obtain ⟨ad, cap, hc⟩ := hbox' i W3 hJ3
    have g1 : ¬ ((rs i : Nat) : Int) > 1 := by omega
    gi_wp2
    exact ⟨rfl, _, results_none rfl _ _ _, ⟨_, rfl⟩, hJ3⟩
  | succ d ih =>
    intro i W t2 t3 t4 t5 t6 t7 t8 t9 t10 t11 t12 hi hJ
    obtain ⟨v, hv⟩ := hbox i W hJ
    obtain ⟨fn, tmps, assign, body, hy, hR1⟩ := hY i W v (by omega) hJ hv
    have hlt : i < k := by omega
    have hg := hlen i hlt
    rw [roundsIn_succ]
    gi_wp2
    refine ⟨rfl, hR1.mono ?_⟩
    rintro e W3 ⟨rfl, hJ3⟩
    obtain ⟨ad, cap, hc⟩ := hbox' i W3 hJ3
    have g1 : (1 : Int) < ((rs i : Nat) : Int) := by omega
    have hup := (callsIn_wide (n := 0)).2 (hUp i W3 _ hlt hJ3 hc)
    gi_wp2
    refine ⟨trivial, rfl, hup.mono ?_⟩
    rintro e w' ⟨ad', n', cap', rfl, ⟨x, hx⟩, hfr, hJ4⟩
    gi_wp2
    exact ih (i + 1) _ _ _ _ _ _ _ _ _ _ _ _ (by omega) hJ4

end Go.Proofs.Ytjdokoldiemobaa.AM
