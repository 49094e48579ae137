/-
  The law SignerLeaves: its walk.
-/
import Derived.Test.YtjdokoldiemobaaSg2
set_option linter.unusedVariables false
set_option linter.unusedSimpArgs false
namespace Go.Proofs.Ytjdokoldiemobaa.AM
open Go

variable {Γ : FuncId → Contract}

/-- The same, but no definitional steps (the kernel would try the wrong way first). -/
theorem obind_some2 {α β : Type} (a : α) (f : α → Option β) : obind (some a) f = f a := Eq.trans (Eq.refl _) (Eq.refl _)
theorem andThen_some2 {α : Type} (a : α) (f : α → Prop) : andThen (some a) f = f a := Eq.trans (Eq.refl _) (Eq.refl _)
theorem ifE_true2 {α : Type} (x y : α) : ifE true x y = x := Eq.trans (Eq.refl _) (Eq.refl _)
theorem run_ret2 {α : Type} (m : Nat → Option MC) (a : α) : (EP.ret a).run m = some (a, []) := Eq.trans (Eq.refl _) (Eq.refl _)

def slC : Contract := fun args objs => match args, objs with
  | [.c (.str s), .c (.int .i64 n)], [] => if s.length ≤ 9223372036854775807 then some ⟨[.pv (.c (.bool true))], []⟩ else none
  | _, _ => none

set_option maxRecDepth 100000 in
set_option maxHeartbeats 2000000 in
theorem signerLeaves_sound (hΓ : SoundG Try.prog Γ) (h1 : Γ 15 = alive5C) (h2 : Γ 16 = newKeyC) (h3 : Γ 17 = leafC) : SoundC Try.prog 3 slC := by
  refine sound_fn Try.func3 (by kernel_rfl) rfl rfl ?_
  intro args objs r hr
  unfold slC at hr
  split at hr
  · rename_i s n
    split at hr
    · rename_i hc
      have hsl := hc
      cases hr
      refine ⟨rfl, by show 2 ≤ _; decide, fun E hN hns hF => ?_⟩
      refine vc_sound hΓ mixed _ _ _ ?_
      have hN := hN.trans nt_3
      by_cases h64 : s.length ≤ 64
      · have g3 : decide ((s.length : Int) > 64) = false := by simp; omega
        have hk : newKeyC [.c (.str s), .c (.int .i64 2)] [] = some ⟨[.pv (keyAV s (leavesS s 4) 0), .pv (.c (.int .i64 0))], []⟩ := newKey_at s 2 h64 (by decide)
        obtain ⟨q, hq⟩ : ∃ q, q = n.tmod 4 := ⟨_, rfl⟩
        have hq3 : -4 < q ∧ q < 4 := by rw [hq]; exact ⟨Int.lt_tmod_of_pos n (by decide), Int.tmod_lt_of_pos n (by decide)⟩
        have e1 : IntKind.i64.wrap (q + 4) = q + 4 := wrapI (by omega)
        obtain ⟨m, hm⟩ : ∃ m : Nat, (q + 4).tmod 4 = (m : Int) := ⟨((q + 4).tmod 4).toNat, by rw [Int.tmod_eq_emod_of_nonneg (by omega)]; omega⟩
        have hm4 : m < 4 := by rw [Int.tmod_eq_emod_of_nonneg (by omega)] at hm; omega
        have hl := leavesS_length s 4
        have hg : (texts (leavesS s 4))[m]? = some [PC.str (leafS s (m : Int))] := by
          simp [texts, leavesS, hm4]
        have hleaf := leaf_at s (m : Int) (by omega)
        generalize leavesS s 4 = L at hk hl hg
        generalize leafS s (m : Int) = y at hg hleaf
        have z1 : ((0 : Int) == 0) = true := rfl
        have z2 : (((4 : Nat) : Int) == 4) = true := rfl
        simp only [vc_skip, vc_region, vc_drawn, vc_seq, vc_cond, vc_block, vc_loop, vc_exit, vc_label, vc_ret, thenA_normal, thenA_ret, thenA_exit, inBlockA_normal, inBlockA_ret, inBlockA_here, aOps_nil, aOps_cons, aStep_eq, dstOK_some, dstOK_none, guardE_none, guardE_some, boolE_c, boolE_tup, run_fail, run_ask, run_bind, run_ifE, run_ite, get_mk, mem_mk, step_mk, step_mk', put_mk, put_mk', look_nil, look_cons, eval_tmp, eval_func, eval_int, eval_bool, eval_str, eval_nilsl, eval_nilptr, eval_nilmp, op_move, op_assign, op_pick, pickE_c, op_load, op_store, op_nilCheck, ncE, op_binOp, op_unOp, op_convert, op_fieldAddr, faE, op_field, fieldE, op_indexAddr, op_slice, op_extract, extE, op_alloc, op_box, op_build, op_builtin, op_call, cloE, op_buildSlice, bsE, op_index, idxE, obind_none, obind_ifE, okE, okM, entryT, entryMem, cellsAt, List.append_nil, List.nil_append, List.cons_append, loadE, storeE, isSh, intOp, AV.flat, Option.map_some, Option.map_none, ifE_false, ↓reduceIte, Nat.reduceLT, Nat.reduceLeDiff, Nat.reduceEqDiff, Nat.reduceAdd, Nat.reduceMul, Nat.reduceSub, decide_true, decide_false, Option.getD_some, Option.getD_none, objName, rowName, resName, resCell, inObj, inRow, outName, outCell, EP.bind, List.getElem?_cons_zero, List.getElem?_cons_succ, List.length_cons, List.length_nil, List.map_cons, List.map_nil, cndE, reduceCtorEq, and_self, and_true, true_and, List.all_cons, List.all_nil, AV.scal, Bool.and_self, Bool.and_true, putAt, List.take, List.drop, Option.bind_some, Option.bind_none, Bool.false_eq_true, callE, argsE, AV.pure?, AV.toPC, toPCs, objsE, cellsE, resAt, backObjs, backCells, freeE, keys, exitMem, shapeOf, oneE, List.nodup_cons, List.mem_cons, List.not_mem_nil, or_false, not_false_eq_true, List.nodup_nil, ext, Nat.reduceBEq, builtinE, lenE, AV.rows, appendE, addedE, newRowE, newObjE, strz, mm, buildE, fillE, chunks, List.replicate, List.flatten, guardE, cndQ, ifE_self, List.getElem?_toArray, List.flatMap, List.flatten_cons, List.flatten_nil, Int.reduceLT, Int.reduceLE, Int.reduceToNat, Option.map, andThen_none, andThen_ifE, branch_true, branch_false, Nat.zero_add, Nat.mul_one, Nat.one_mul, Nat.zero_le, Nat.add_zero, List.length_append, beq_true, beq_false, Bool.not_true, Bool.not_false, strOp, beq_self_eq_true, Int.toNat_natCast, indexE, Int.natCast_nonneg, hintP_nil, hintP_nil', hintP_cons, hasN_nil, hasN_cons, op_makeSlice, mkE, newMslE, Bool.or_false, Bool.or_true, Bool.false_or, Bool.true_or, look2, denil, List.append_eq, doHint_tidy, pickT_nil, pickT_cons, m_mk, once, without, convO, w_add, w_and, w_or, w_xor, w_xorF, w_not, w_shl8, w_shl16, w_shl24, w_shr3, w_shr8, w_shr10, w_shr16, w_shr24, b_add, b_sub, b_mul, b_quo, b_rem, b_and, b_or, b_xor, b_andNot, b_eql, b_neq, b_lss, b_leq, b_gtr, b_geq, b_str, b_bool, u_neg, u_not, c_bw, c_wb, cellsW_length, cellsW_pure, cellsW_all, cellsE_W, backCells_W, cellsAt_W, cellPairs_W, cellsW_toPCs, cellsW_map, hN, hF, und_3, agg_3, sz_3, by_3, zero_3, elem_3, arr_3, int_3, str_3, bool_3, ptr_3, map_3, pl_3, und_4, agg_4, sz_4, by_4, zero_4, elem_4, arr_4, int_4, str_4, bool_4, ptr_4, map_4, pl_4, und_9, agg_9, sz_9, by_9, zero_9, elem_9, arr_9, int_9, str_9, bool_9, ptr_9, map_9, pl_9, und_23, agg_23, sz_23, by_23, zero_23, elem_23, arr_23, int_23, str_23, bool_23, ptr_23, map_23, pl_23, und_25, agg_25, sz_25, by_25, zero_25, elem_25, arr_25, int_25, str_25, bool_25, ptr_25, map_25, fd_25_0, fd_25_1, fd_25_2, pl_25, und_26, agg_26, sz_26, by_26, zero_26, elem_26, arr_26, int_26, str_26, bool_26, ptr_26, map_26, pl_26, notIf, isEq, obind_some2, andThen_some2, ifE_true2, run_ret2, h1, alive5C, g3, h2, hk, keyAV, ← hq, e1, hm, h3, hleaf, hg, hl, texts_length, z1, z2, Int.reduceEq]
        refine drawnP_intro (by kernel_rfl) (by kernel_rfl) ?_
        simp only [thenA_normal, vc_ret]
        simp only [retQ, retE, RetOK, objPairs, resPairs, cellPairs, objCells, retRen, retMem, exitMem, exitVals, resAt, entryMem, cellsAt, AMds, AMd, CMd, keys, List.append_nil, List.nil_append, List.cons_append, List.map_cons, List.map_nil, List.nodup_cons, List.mem_cons, List.not_mem_nil, or_false, not_false_eq_true, List.nodup_nil, get_mk, mem_mk, look_nil, look_cons, Option.isSome_some, Option.isSome_none, and_self, and_true, true_and, ↓reduceIte, Nat.reduceEqDiff, Nat.reduceAdd, Nat.reduceMul, Option.getD_some, inObj, inRow, outName, outCell, forall_eq_or_imp, forall_eq, implies_true, Nat.reduceBEq, reduceCtorEq, Bool.false_eq_true, andThen_some, andThen_none, Nat.zero_add, List.length_nil, List.length_cons, false_implies, List.length_append, loadE, run_ask, run_ret, run_fail, obind_some, obind_none, List.zip_cons_cons, List.zip_nil_left, List.zip_nil_right, AMd.AMp, List.take, List.drop, List.getElem?_cons_zero, List.getElem?_cons_succ, Nat.reduceLeDiff, Nat.zero_le, List.forall_mem_nil, rs_3]
      · have g3 : decide ((s.length : Int) > 64) = true := by simp; omega
        simp only [vc_skip, vc_region, vc_drawn, vc_seq, vc_cond, vc_block, vc_loop, vc_exit, vc_label, vc_ret, thenA_normal, thenA_ret, thenA_exit, inBlockA_normal, inBlockA_ret, inBlockA_here, aOps_nil, aOps_cons, aStep_eq, dstOK_some, dstOK_none, guardE_none, guardE_some, boolE_c, boolE_tup, run_fail, run_ask, run_bind, run_ifE, run_ite, get_mk, mem_mk, step_mk, step_mk', put_mk, put_mk', look_nil, look_cons, eval_tmp, eval_func, eval_int, eval_bool, eval_str, eval_nilsl, eval_nilptr, eval_nilmp, op_move, op_assign, op_pick, pickE_c, op_load, op_store, op_nilCheck, ncE, op_binOp, op_unOp, op_convert, op_fieldAddr, faE, op_field, fieldE, op_indexAddr, op_slice, op_extract, extE, op_alloc, op_box, op_build, op_builtin, op_call, cloE, op_buildSlice, bsE, op_index, idxE, obind_none, obind_ifE, okE, okM, entryT, entryMem, cellsAt, List.append_nil, List.nil_append, List.cons_append, loadE, storeE, isSh, intOp, AV.flat, Option.map_some, Option.map_none, ifE_false, ↓reduceIte, Nat.reduceLT, Nat.reduceLeDiff, Nat.reduceEqDiff, Nat.reduceAdd, Nat.reduceMul, Nat.reduceSub, decide_true, decide_false, Option.getD_some, Option.getD_none, objName, rowName, resName, resCell, inObj, inRow, outName, outCell, EP.bind, List.getElem?_cons_zero, List.getElem?_cons_succ, List.length_cons, List.length_nil, List.map_cons, List.map_nil, cndE, reduceCtorEq, and_self, and_true, true_and, List.all_cons, List.all_nil, AV.scal, Bool.and_self, Bool.and_true, putAt, List.take, List.drop, Option.bind_some, Option.bind_none, Bool.false_eq_true, callE, argsE, AV.pure?, AV.toPC, toPCs, objsE, cellsE, resAt, backObjs, backCells, freeE, keys, exitMem, shapeOf, oneE, List.nodup_cons, List.mem_cons, List.not_mem_nil, or_false, not_false_eq_true, List.nodup_nil, ext, Nat.reduceBEq, builtinE, lenE, AV.rows, appendE, addedE, newRowE, newObjE, strz, mm, buildE, fillE, chunks, List.replicate, List.flatten, guardE, cndQ, ifE_self, List.getElem?_toArray, List.flatMap, List.flatten_cons, List.flatten_nil, Int.reduceLT, Int.reduceLE, Int.reduceToNat, Option.map, andThen_none, andThen_ifE, branch_true, branch_false, Nat.zero_add, Nat.mul_one, Nat.one_mul, Nat.zero_le, Nat.add_zero, List.length_append, beq_true, beq_false, Bool.not_true, Bool.not_false, strOp, beq_self_eq_true, Int.toNat_natCast, indexE, Int.natCast_nonneg, hintP_nil, hintP_nil', hintP_cons, hasN_nil, hasN_cons, op_makeSlice, mkE, newMslE, Bool.or_false, Bool.or_true, Bool.false_or, Bool.true_or, look2, denil, List.append_eq, doHint_tidy, pickT_nil, pickT_cons, m_mk, once, without, convO, w_add, w_and, w_or, w_xor, w_xorF, w_not, w_shl8, w_shl16, w_shl24, w_shr3, w_shr8, w_shr10, w_shr16, w_shr24, b_add, b_sub, b_mul, b_quo, b_rem, b_and, b_or, b_xor, b_andNot, b_eql, b_neq, b_lss, b_leq, b_gtr, b_geq, b_str, b_bool, u_neg, u_not, c_bw, c_wb, cellsW_length, cellsW_pure, cellsW_all, cellsE_W, backCells_W, cellsAt_W, cellPairs_W, cellsW_toPCs, cellsW_map, hN, hF, und_3, agg_3, sz_3, by_3, zero_3, elem_3, arr_3, int_3, str_3, bool_3, ptr_3, map_3, pl_3, und_4, agg_4, sz_4, by_4, zero_4, elem_4, arr_4, int_4, str_4, bool_4, ptr_4, map_4, pl_4, und_9, agg_9, sz_9, by_9, zero_9, elem_9, arr_9, int_9, str_9, bool_9, ptr_9, map_9, pl_9, und_23, agg_23, sz_23, by_23, zero_23, elem_23, arr_23, int_23, str_23, bool_23, ptr_23, map_23, pl_23, und_25, agg_25, sz_25, by_25, zero_25, elem_25, arr_25, int_25, str_25, bool_25, ptr_25, map_25, fd_25_0, fd_25_1, fd_25_2, pl_25, und_26, agg_26, sz_26, by_26, zero_26, elem_26, arr_26, int_26, str_26, bool_26, ptr_26, map_26, pl_26, notIf, isEq, obind_some2, andThen_some2, ifE_true2, run_ret2, h1, alive5C, g3]
        simp only [retQ, retE, RetOK, objPairs, resPairs, cellPairs, objCells, retRen, retMem, exitMem, exitVals, resAt, entryMem, cellsAt, AMds, AMd, CMd, keys, List.append_nil, List.nil_append, List.cons_append, List.map_cons, List.map_nil, List.nodup_cons, List.mem_cons, List.not_mem_nil, or_false, not_false_eq_true, List.nodup_nil, get_mk, mem_mk, look_nil, look_cons, Option.isSome_some, Option.isSome_none, and_self, and_true, true_and, ↓reduceIte, Nat.reduceEqDiff, Nat.reduceAdd, Nat.reduceMul, Option.getD_some, inObj, inRow, outName, outCell, forall_eq_or_imp, forall_eq, implies_true, Nat.reduceBEq, reduceCtorEq, Bool.false_eq_true, andThen_some, andThen_none, Nat.zero_add, List.length_nil, List.length_cons, false_implies, List.length_append, loadE, run_ask, run_ret, run_fail, obind_some, obind_none, List.zip_cons_cons, List.zip_nil_left, List.zip_nil_right, AMd.AMp, List.take, List.drop, List.getElem?_cons_zero, List.getElem?_cons_succ, Nat.reduceLeDiff, Nat.zero_le, List.forall_mem_nil, rs_3]
    · cases hr
  · cases hr

end Go.Proofs.Ytjdokoldiemobaa.AM
