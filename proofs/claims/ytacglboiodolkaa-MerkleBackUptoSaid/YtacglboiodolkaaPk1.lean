/-
  PACK: the writer's own functions.
-/
import Derived.Test.YtacglboiodolkaaTy
set_option linter.unusedVariables false
set_option linter.unusedSimpArgs false
namespace Go.Proofs.Ytacglboiodolkaa.AM
open Go

def faultC : Contract := fun args objs => match args, objs with
  | [.ptr n 0, .c (.int .i64 e')], [[.own 1 rows, .c (.int .i64 e), .c (.bool made)]] =>
    if n = inObj 0 then some ⟨[], [[.own 1 rows, .c (.int .i64 (if e = 0 then e' else e)), .c (.bool made)]]⟩ else none
  | _, _ => none

theorem fault_sound : SoundC Try.prog 52 faultC := by
  refine sound_fn Try.func52 (by kernel_rfl) rfl rfl ?_
  intro args objs r hr
  unfold faultC at hr
  split at hr
  · rename_i n e' rows e made
    split at hr
    · rename_i hn
      subst hn
      cases hr
      refine ⟨rfl, by show 2 ≤ _; decide, fun E hN hns hF => ?_⟩
      refine vc_sound none0_sound mixed _ _ _ ?_
      have hN := hN.trans nt_52
      simp only [vc_skip, vc_region, vc_drawn, vc_seq, vc_cond, vc_block, vc_loop, vc_exit, vc_label, vc_ret, thenA_normal, thenA_ret, thenA_exit, inBlockA_normal, inBlockA_ret, inBlockA_here, aOps_nil, aOps_cons, aStep_eq, dstOK_some, dstOK_none, guardE_none, guardE_some, boolE_c, boolE_tup, run_ret, run_fail, run_ask, run_bind, run_ifE, run_ite, get_mk, mem_mk, step_mk, step_mk', put_mk, put_mk', look_nil, look_cons, eval_tmp, eval_func, eval_int, eval_bool, eval_str, eval_nilsl, eval_nilptr, eval_nilmp, op_move, op_assign, op_pick, pickE_c, op_load, op_store, op_nilCheck, ncE, op_binOp, op_unOp, op_convert, op_fieldAddr, faE, op_field, fieldE, op_indexAddr, op_slice, op_extract, extE, op_alloc, op_box, op_build, op_builtin, op_call, cloE, op_buildSlice, bsE, op_index, idxE, obind_some, obind_none, obind_ifE, okE, okM, entryT, entryMem, cellsAt, List.append_nil, List.nil_append, List.cons_append, loadE, storeE, binE, isSh, intOp, AV.flat, Option.map_some, Option.map_none, ifE_true, ifE_false, ↓reduceIte, Nat.reduceLT, Nat.reduceLeDiff, Nat.reduceEqDiff, Nat.reduceAdd, Nat.reduceMul, Nat.reduceSub, decide_true, decide_false, Option.getD_some, Option.getD_none, objName, rowName, resName, resCell, inObj, inRow, outName, outCell, EP.bind, List.getElem?_cons_zero, List.getElem?_cons_succ, List.length_cons, List.length_nil, List.map_cons, List.map_nil, cndE, reduceCtorEq, and_self, and_true, true_and, List.all_cons, List.all_nil, AV.scal, Bool.and_self, Bool.and_true, putAt, List.take, List.drop, Option.bind_some, Option.bind_none, Bool.false_eq_true, callE, argsE, AV.pure?, AV.toPC, toPCs, objsE, cellsE, resAt, backObjs, backCells, freeE, keys, exitMem, shapeOf, oneE, List.nodup_cons, List.mem_cons, List.not_mem_nil, or_false, not_false_eq_true, List.nodup_nil, ext, unE, Nat.reduceBEq, builtinE, lenE, AV.rows, appendE, addedE, newRowE, newObjE, strz, mm, convE, buildE, fillE, chunks, List.replicate, List.flatten, guardE, cndQ, ifE_self, List.getElem?_toArray, List.flatMap, List.flatten_cons, List.flatten_nil, Int.reduceLT, Int.reduceLE, Int.reduceToNat, Option.map, andThen_some, andThen_none, andThen_ifE, branch_true, branch_false, Nat.zero_add, Nat.mul_one, Nat.one_mul, Nat.zero_le, Nat.add_zero, List.length_append, beq_true, beq_false, Bool.not_true, Bool.not_false, strOp, beq_self_eq_true, Int.toNat_natCast, indexE, Int.natCast_nonneg, hintP_nil, hintP_nil', hintP_cons, hasN_nil, hasN_cons, op_makeSlice, mkE, newMslE, Bool.or_false, Bool.or_true, Bool.false_or, Bool.true_or, look2, denil, List.append_eq, doHint_tidy, pickT_nil, pickT_cons, m_mk, once, without, convO, hN, hF, und_4, agg_4, sz_4, by_4, zero_4, elem_4, arr_4, int_4, str_4, bool_4, ptr_4, map_4, pl_4, und_25, agg_25, sz_25, by_25, zero_25, elem_25, arr_25, int_25, str_25, bool_25, ptr_25, map_25, pl_25, und_42, agg_42, sz_42, by_42, zero_42, elem_42, arr_42, int_42, str_42, bool_42, ptr_42, map_42, pl_42, und_70, agg_70, sz_70, by_70, zero_70, elem_70, arr_70, int_70, str_70, bool_70, ptr_70, map_70, fd_70_0, fd_70_1, fd_70_2, pl_70]
      refine branch_intro (fun hc => ?_) (fun hc => ?_)
      all_goals
        simp only [beq_iff_eq, beq_eq_false_iff_ne, ne_eq] at hc
        simp only [retQ, retE, RetOK, objPairs, resPairs, cellPairs, objCells, retRen, retMem, exitMem, exitVals, resAt, entryMem, cellsAt, AMds, AMd, CMd, keys, List.append_nil, List.nil_append, List.cons_append, List.map_cons, List.map_nil, List.nodup_cons, List.mem_cons, List.not_mem_nil, or_false, not_false_eq_true, List.nodup_nil, get_mk, mem_mk, look_nil, look_cons, Option.isSome_some, Option.isSome_none, and_self, and_true, true_and, ↓reduceIte, Nat.reduceEqDiff, Nat.reduceAdd, Nat.reduceMul, Option.getD_some, inObj, inRow, outName, outCell, forall_eq_or_imp, forall_eq, implies_true, Nat.reduceBEq, reduceCtorEq, Bool.false_eq_true, andThen_some, andThen_none, Nat.zero_add, List.length_nil, List.length_cons, false_implies, List.length_append, loadE, run_ask, run_ret, run_fail, obind_some, obind_none, List.zip_cons_cons, List.zip_nil_left, List.zip_nil_right, AMd.AMp, List.take, List.drop, List.getElem?_cons_zero, List.getElem?_cons_succ, Nat.reduceLeDiff, Nat.zero_le, List.forall_mem_nil, rs_52, hc]
    · cases hr
  · cases hr

end Go.Proofs.Ytacglboiodolkaa.AM
