/-
  PACK: the writer, and the document's words on it.
-/
import Derived.Test.YtacglboiodolkaaPk3
set_option linter.unusedVariables false
set_option linter.unusedSimpArgs false
namespace Go.Proofs.Ytacglboiodolkaa.AM
open Go

variable {Γ : FuncId → Contract}

theorem numE_sound : SoundC Try.prog 28 (fun args objs => match args, objs with | [.c (.int .i64 e)], [] => some ⟨[.pv (.c (.int .i64 e))], []⟩ | _, _ => none) := by
  refine sound_fn Try.func28 (by kernel_rfl) rfl rfl ?_
  intro args objs r hr
  split at hr
  · cases hr
    refine ⟨rfl, by show 1 ≤ _; decide, fun E hN hns hF => ?_⟩
    refine vc_sound none0_sound mixed _ _ _ ?_
    have hN := hN.trans nt_28
    simp only [vc_skip, vc_region, vc_drawn, vc_seq, vc_cond, vc_block, vc_loop, vc_exit, vc_label, vc_ret, thenA_normal, thenA_ret, thenA_exit, inBlockA_normal, inBlockA_ret, inBlockA_here, aOps_nil, aOps_cons, aStep_eq, dstOK_some, dstOK_none, guardE_none, guardE_some, boolE_c, boolE_tup, run_ret, run_fail, run_ask, run_bind, run_ifE, run_ite, get_mk, mem_mk, step_mk, step_mk', put_mk, put_mk', look_nil, look_cons, eval_tmp, eval_func, eval_int, eval_bool, eval_str, eval_nilsl, eval_nilptr, eval_nilmp, op_move, op_assign, op_pick, pickE_c, op_load, op_store, op_nilCheck, ncE, op_binOp, op_unOp, op_convert, op_fieldAddr, faE, op_field, fieldE, op_indexAddr, op_slice, op_extract, extE, op_alloc, op_box, op_build, op_builtin, op_call, cloE, op_buildSlice, bsE, op_index, idxE, obind_some, obind_none, obind_ifE, okE, okM, entryT, entryMem, cellsAt, List.append_nil, List.nil_append, List.cons_append, loadE, storeE, binE, isSh, intOp, AV.flat, Option.map_some, Option.map_none, ifE_true, ifE_false, ↓reduceIte, Nat.reduceLT, Nat.reduceLeDiff, Nat.reduceEqDiff, Nat.reduceAdd, Nat.reduceMul, Nat.reduceSub, decide_true, decide_false, Option.getD_some, Option.getD_none, objName, rowName, resName, resCell, inObj, inRow, outName, outCell, EP.bind, List.getElem?_cons_zero, List.getElem?_cons_succ, List.length_cons, List.length_nil, List.map_cons, List.map_nil, cndE, reduceCtorEq, and_self, and_true, true_and, List.all_cons, List.all_nil, AV.scal, Bool.and_self, Bool.and_true, putAt, List.take, List.drop, Option.bind_some, Option.bind_none, Bool.false_eq_true, callE, argsE, AV.pure?, AV.toPC, toPCs, objsE, cellsE, resAt, backObjs, backCells, freeE, keys, exitMem, shapeOf, oneE, List.nodup_cons, List.mem_cons, List.not_mem_nil, or_false, not_false_eq_true, List.nodup_nil, ext, unE, Nat.reduceBEq, builtinE, lenE, AV.rows, appendE, addedE, newRowE, newObjE, strz, mm, convE, buildE, fillE, chunks, List.replicate, List.flatten, guardE, cndQ, ifE_self, List.getElem?_toArray, List.flatMap, List.flatten_cons, List.flatten_nil, Int.reduceLT, Int.reduceLE, Int.reduceToNat, Option.map, andThen_some, andThen_none, andThen_ifE, branch_true, branch_false, Nat.zero_add, Nat.mul_one, Nat.one_mul, Nat.zero_le, Nat.add_zero, List.length_append, beq_true, beq_false, Bool.not_true, Bool.not_false, strOp, beq_self_eq_true, Int.toNat_natCast, indexE, Int.natCast_nonneg, hintP_nil, hintP_nil', hintP_cons, hasN_nil, hasN_cons, op_makeSlice, mkE, newMslE, Bool.or_false, Bool.or_true, Bool.false_or, Bool.true_or, look2, denil, hN, hF, und_3, agg_3, sz_3, by_3, zero_3, elem_3, arr_3, int_3, str_3, bool_3, ptr_3, map_3, pl_3]
    simp only [retQ, retE, RetOK, objPairs, resPairs, cellPairs, objCells, retRen, retMem, exitMem, exitVals, resAt, entryMem, cellsAt, AMds, AMd, CMd, keys, List.append_nil, List.nil_append, List.cons_append, List.map_cons, List.map_nil, List.nodup_cons, List.mem_cons, List.not_mem_nil, or_false, not_false_eq_true, List.nodup_nil, get_mk, mem_mk, look_nil, look_cons, Option.isSome_some, Option.isSome_none, and_self, and_true, true_and, ↓reduceIte, Nat.reduceEqDiff, Nat.reduceAdd, Nat.reduceMul, Option.getD_some, inObj, inRow, outName, outCell, forall_eq_or_imp, forall_eq, implies_true, Nat.reduceBEq, reduceCtorEq, Bool.false_eq_true, andThen_some, andThen_none, Nat.zero_add, List.length_nil, List.length_cons, false_implies, List.length_append, loadE, run_ask, run_ret, run_fail, obind_some, obind_none, List.zip_cons_cons, List.zip_nil_left, List.zip_nil_right, AMd.AMp, List.take, List.drop, List.getElem?_cons_zero, List.getElem?_cons_succ, Nat.reduceLeDiff, Nat.zero_le, List.forall_mem_nil, rs_28]
  · cases hr

/-- The document's writer. -/
def rNum (w : WS) (n : Int) : WS := if n < 0 ∨ 1099511627776 < n then ⟨w.b, if w.e = 0 then 4 else w.e⟩ else if w.b.length ≤ 16384 then ⟨w.b ++ putB n 6, w.e⟩ else w
def rText (w : WS) (s : List UInt8) : WS := if 4096 < s.length then ⟨w.b, if w.e = 0 then 5 else w.e⟩ else if w.b.length ≤ 16384 then ⟨w.b ++ putB s.length 2 ++ s, w.e⟩ else w
def wAgg (w : WS) : AV := .agg [.c (.sl (bytes w.b)), .c (.int .i64 w.e)]
def rNumC : Contract := fun args objs => match args, objs with
  | [.agg [.c (.sl rows), .c (.int .i64 e)], .c (.int .i64 n)], [] => match asB rows with
    | some b => if b.length ≤ 100000 then some ⟨[.pv (wAgg (rNum ⟨b, e⟩ n))], []⟩ else none
    | none => none
  | _, _ => none

set_option maxHeartbeats 4000000 in
theorem rNum_sound (hΓ : SoundG Try.prog Γ) (h54 : Γ 54 = putC) : SoundC Try.prog 23 rNumC := by
  refine sound_fn Try.func23 (by kernel_rfl) rfl rfl ?_
  intro args objs r hr
  unfold rNumC at hr
  split at hr
  · split at hr
    · rename_i rows e n _ b hb
      split at hr
      · rename_i hc
        cases hr
        obtain rfl := asB_inv hb
        refine ⟨rfl, by show 2 ≤ _; decide, fun E hN hns hF => ?_⟩
        refine vc_sound hΓ mixed _ _ _ ?_
        have hN := hN.trans nt_23
        have hz := rowsOK_bytes
        have hz0 : rowsOK 1 [] := fun _ h => by cases h
        have hpl := putB_length n 6
        rw [show (min (max (6 : Int) 0) 8).toNat = 6 from rfl] at hpl
        have hL : b.length ≤ 140737488355328 := by omega
        have hL6 : b.length ≤ 140737488355322 := by omega
        cases h1 : decide (n < 0) <;> cases h2 : decide (n > 1099511627776) <;> cases h3 : decide ((b.length : Int) ≤ 16384) <;> cases h4 : (e == 0)
        all_goals
          simp only [vc_skip, vc_region, vc_drawn, vc_seq, vc_cond, vc_block, vc_loop, vc_exit, vc_label, vc_ret, thenA_normal, thenA_ret, thenA_exit, inBlockA_normal, inBlockA_ret, inBlockA_here, aOps_nil, aOps_cons, aStep_eq, dstOK_some, dstOK_none, guardE_none, guardE_some, boolE_c, boolE_tup, run_ret, run_fail, run_ask, run_bind, run_ifE, run_ite, get_mk, mem_mk, step_mk, step_mk', put_mk, put_mk', look_nil, look_cons, eval_tmp, eval_func, eval_int, eval_bool, eval_str, eval_nilsl, eval_nilptr, eval_nilmp, op_move, op_assign, op_pick, pickE_c, op_load, op_store, op_nilCheck, ncE, op_binOp, op_unOp, op_convert, op_fieldAddr, faE, op_field, fieldE, op_indexAddr, op_slice, op_extract, extE, op_alloc, op_box, op_build, op_builtin, op_call, cloE, op_buildSlice, bsE, op_index, idxE, obind_some, obind_none, obind_ifE, okE, okM, entryT, entryMem, cellsAt, List.append_nil, List.nil_append, List.cons_append, loadE, storeE, binE, isSh, intOp, AV.flat, Option.map_some, Option.map_none, ifE_true, ifE_false, ↓reduceIte, Nat.reduceLT, Nat.reduceLeDiff, Nat.reduceEqDiff, Nat.reduceAdd, Nat.reduceMul, Nat.reduceSub, decide_true, decide_false, Option.getD_some, Option.getD_none, objName, rowName, resName, resCell, inObj, inRow, outName, outCell, EP.bind, List.getElem?_cons_zero, List.getElem?_cons_succ, List.length_cons, List.length_nil, List.map_cons, List.map_nil, cndE, reduceCtorEq, and_self, and_true, true_and, List.all_cons, List.all_nil, AV.scal, Bool.and_self, Bool.and_true, putAt, List.take, List.drop, Option.bind_some, Option.bind_none, Bool.false_eq_true, callE, argsE, AV.pure?, AV.toPC, toPCs, objsE, cellsE, resAt, backObjs, backCells, freeE, keys, exitMem, shapeOf, oneE, List.nodup_cons, List.mem_cons, List.not_mem_nil, or_false, not_false_eq_true, List.nodup_nil, ext, unE, Nat.reduceBEq, builtinE, lenE, AV.rows, appendE, addedE, newRowE, newObjE, strz, mm, convE, buildE, fillE, chunks, List.replicate, List.flatten, guardE, cndQ, ifE_self, List.getElem?_toArray, List.flatMap, List.flatten_cons, List.flatten_nil, Int.reduceLT, Int.reduceLE, Int.reduceToNat, Option.map, andThen_some, andThen_none, andThen_ifE, branch_true, branch_false, Nat.zero_add, Nat.mul_one, Nat.one_mul, Nat.zero_le, Nat.add_zero, List.length_append, beq_true, beq_false, Bool.not_true, Bool.not_false, strOp, beq_self_eq_true, Int.toNat_natCast, indexE, Int.natCast_nonneg, hintP_nil, hintP_nil', hintP_cons, hasN_nil, hasN_cons, op_makeSlice, mkE, newMslE, Bool.or_false, Bool.or_true, Bool.false_or, Bool.true_or, look2, denil, hN, hF, und_3, agg_3, sz_3, by_3, zero_3, elem_3, arr_3, int_3, str_3, bool_3, ptr_3, map_3, pl_3, und_5, agg_5, sz_5, by_5, zero_5, elem_5, arr_5, int_5, str_5, bool_5, ptr_5, map_5, pl_5, und_42, agg_42, sz_42, by_42, zero_42, elem_42, arr_42, int_42, str_42, bool_42, ptr_42, map_42, pl_42, und_44, agg_44, sz_44, by_44, zero_44, elem_44, arr_44, int_44, str_44, bool_44, ptr_44, map_44, fd_44_0, fd_44_1, pl_44, notIf, isEq, h1, h2, h3, h4, h54, putC, bytes_length, bytes_app, hz, hz0, hL, hL6, hpl]
        all_goals
          simp only [decide_eq_false_iff_not, decide_eq_true_eq, gt_iff_lt, beq_iff_eq, beq_eq_false_iff_ne, ne_eq] at h1 h2 h3 h4
          rw [show (16384 : Int) = ((16384 : Nat) : Int) from rfl, Int.ofNat_le] at h3
        all_goals
          simp only [retQ, retE, RetOK, objPairs, resPairs, cellPairs, objCells, retRen, retMem, exitMem, exitVals, resAt, entryMem, cellsAt, AMds, AMd, CMd, keys, List.append_nil, List.nil_append, List.cons_append, List.map_cons, List.map_nil, List.nodup_cons, List.mem_cons, List.not_mem_nil, or_false, not_false_eq_true, List.nodup_nil, get_mk, mem_mk, look_nil, look_cons, Option.isSome_some, Option.isSome_none, and_self, and_true, true_and, ↓reduceIte, Nat.reduceEqDiff, Nat.reduceAdd, Nat.reduceMul, Option.getD_some, inObj, inRow, outName, outCell, forall_eq_or_imp, forall_eq, implies_true, Nat.reduceBEq, reduceCtorEq, Bool.false_eq_true, andThen_some, andThen_none, Nat.zero_add, List.length_nil, List.length_cons, false_implies, List.length_append, loadE, run_ask, run_ret, run_fail, obind_some, obind_none, List.zip_cons_cons, List.zip_nil_left, List.zip_nil_right, AMd.AMp, List.take, List.drop, List.getElem?_cons_zero, List.getElem?_cons_succ, Nat.reduceLeDiff, Nat.zero_le, List.forall_mem_nil, rs_23, und_3, agg_3, sz_3, by_3, zero_3, elem_3, arr_3, int_3, str_3, bool_3, ptr_3, map_3, pl_3, und_5, agg_5, sz_5, by_5, zero_5, elem_5, arr_5, int_5, str_5, bool_5, ptr_5, map_5, pl_5, und_42, agg_42, sz_42, by_42, zero_42, elem_42, arr_42, int_42, str_42, bool_42, ptr_42, map_42, pl_42, und_44, agg_44, sz_44, by_44, zero_44, elem_44, arr_44, int_44, str_44, bool_44, ptr_44, map_44, fd_44_0, fd_44_1, pl_44, wAgg, bytes_length]
        all_goals simp [rNum, h1, h2, h3, h4]
      · cases hr
    · cases hr
  · cases hr

end Go.Proofs.Ytacglboiodolkaa.AM
