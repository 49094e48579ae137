/-
  Merkle: what the laws owe, on.
-/
import Derived.Test.YtacglboiodolkaaMkA
set_option linter.unusedVariables false
set_option linter.unusedSimpArgs false
namespace Go.Proofs.Ytacglboiodolkaa.AM
open Go

variable {Γ : FuncId → Contract}

structure Ba where
  l : List (List UInt8)
  a : Int
def baOK (p : Ba) : Prop := Okl p.l
noncomputable def backC4 : Contract := mkC (α := Ba) baOK (fun p => [.c (.sl (texts p.l)), .c (.int .i64 p.a)]) (fun _ => []) (fun _ => ⟨[.pv (.c (.bool true))], []⟩)

set_option maxRecDepth 100000 in
set_option maxHeartbeats 1000000 in
theorem back4_sound (hΓ : SoundG Try.prog Γ) (h1 : Γ 40 = pathC) (h5 : Γ 39 = rootC)
    (h7 : Γ 46 = climbC) (h10 : Γ 45 = num4C) (h11 : Γ 37 = alive4C) : SoundC Try.prog 12 backC4 := by
  refine sound_fn Try.func12 (by kernel_rfl) rfl rfl ?_
  intro args objs r hr
  obtain ⟨⟨l, a⟩, hl, rfl, rfl, rfl⟩ := mkC_inv hr
  have hl : Okl l := hl
  refine ⟨rfl, by show 2 ≤ _; decide, fun E hN hns hF => ?_⟩
  refine vc_sound hΓ mixed _ _ _ ?_
  have hN := hN.trans nt_12
  have q1 := path_at l a hl
  have q3 := root_at l hl
  have q8 := alive4_at
  dsimp only
  by_cases hok : ¬ (a < 0 ∨ (l.length : Int) ≤ a) ∧ powN l.length = true
  · obtain ⟨hk1, hk2⟩ := hok
    have hS : pathS l a = (pathP l a.toNat, 0) := by unfold pathS; rw [if_neg hk1, if_pos hk2]
    obtain ⟨A, rfl⟩ : ∃ A : Nat, a = (A : Int) := ⟨a.toNat, by omega⟩
    rw [hS] at q1
    have e0 : ((A : Int)).toNat = A := by omega
    rw [e0] at q1
    have hAl : A < l.length := by omega
    obtain ⟨x, hx⟩ : ∃ x, l[A]? = some x := ⟨l[A], by simp [hAl]⟩
    have hxr : (texts l)[A]? = some [PC.str x] := by simp [texts, hx]
    have hcl := climb_path l.length l A hAl (Nat.le_refl _) hk2
    rw [show l.getD A [] = x from by simp [List.getD, hx]] at hcl
    have hl1 : l.length ≤ 1099511627 := hl.1
    have q4 := climb_at x (A : Int) (pathP l A) ⟨hl.2 x (List.mem_of_getElem? hx), by show (A : Int) < _; omega, (pathP_mem _ l A (Nat.le_refl _) hl).1⟩
    rw [show (max (A : Int) 0).toNat = A from by omega, hcl] at q4
    have q7 := num4_at 0
    have g0 : ((0 : Int) != 0) = false := rfl
    simp only [vc_skip, vc_region, vc_drawn, vc_seq, vc_cond, vc_block, vc_loop, vc_exit, vc_label, vc_ret, thenA_normal, thenA_ret, thenA_exit, inBlockA_normal, inBlockA_ret, inBlockA_here, aOps_nil, aOps_cons, aStep_eq, dstOK_some, dstOK_none, guardE_none, guardE_some, boolE_c, boolE_tup, run_ret, run_fail, run_ask, run_bind, run_ifE, run_ite, get_mk, mem_mk, step_mk, step_mk', put_mk, put_mk', look_nil, look_cons, eval_tmp, eval_func, eval_int, eval_bool, eval_str, eval_nilsl, eval_nilptr, eval_nilmp, op_move, op_assign, op_pick, pickE_c, op_load, op_store, op_nilCheck, ncE, op_binOp, op_unOp, op_convert, op_fieldAddr, faE, op_field, fieldE, op_indexAddr, op_slice, op_extract, extE, op_alloc, op_box, op_build, op_builtin, op_call, cloE, op_buildSlice, bsE, op_index, idxE, obind_some, obind_none, obind_ifE, okE, okM, entryT, entryMem, cellsAt, List.append_nil, List.nil_append, List.cons_append, loadE, storeE, binE, isSh, intOp, AV.flat, Option.map_some, Option.map_none, ifE_true, ifE_false, ↓reduceIte, Nat.reduceLT, Nat.reduceLeDiff, Nat.reduceEqDiff, Nat.reduceAdd, Nat.reduceMul, Nat.reduceSub, decide_true, decide_false, Option.getD_some, Option.getD_none, objName, rowName, resName, resCell, inObj, inRow, outName, outCell, EP.bind, List.getElem?_cons_zero, List.getElem?_cons_succ, List.length_cons, List.length_nil, List.map_cons, List.map_nil, cndE, reduceCtorEq, and_self, and_true, true_and, List.all_cons, List.all_nil, AV.scal, Bool.and_self, Bool.and_true, putAt, List.take, List.drop, Option.bind_some, Option.bind_none, Bool.false_eq_true, callE, argsE, AV.pure?, AV.toPC, toPCs, objsE, cellsE, resAt, backObjs, backCells, freeE, keys, exitMem, shapeOf, oneE, List.nodup_cons, List.mem_cons, List.not_mem_nil, or_false, not_false_eq_true, List.nodup_nil, ext, unE, Nat.reduceBEq, builtinE, lenE, AV.rows, appendE, addedE, newRowE, newObjE, strz, mm, convE, buildE, fillE, chunks, List.replicate, List.flatten, guardE, cndQ, ifE_self, List.getElem?_toArray, List.flatMap, List.flatten_cons, List.flatten_nil, Int.reduceLT, Int.reduceLE, Int.reduceToNat, Option.map, andThen_some, andThen_none, andThen_ifE, branch_true, branch_false, Nat.zero_add, Nat.mul_one, Nat.one_mul, Nat.zero_le, Nat.add_zero, List.length_append, beq_true, beq_false, Bool.not_true, Bool.not_false, strOp, beq_self_eq_true, Int.toNat_natCast, indexE, Int.natCast_nonneg, hintP_nil, hintP_nil', hintP_cons, hasN_nil, hasN_cons, op_makeSlice, mkE, newMslE, Bool.or_false, Bool.or_true, Bool.false_or, Bool.true_or, look2, denil, List.append_eq, doHint_tidy, pickT_nil, pickT_cons, m_mk, once, without, convO, hN, hF, und_3, agg_3, sz_3, by_3, zero_3, elem_3, arr_3, int_3, str_3, bool_3, ptr_3, map_3, pl_3, und_4, agg_4, sz_4, by_4, zero_4, elem_4, arr_4, int_4, str_4, bool_4, ptr_4, map_4, pl_4, und_9, agg_9, sz_9, by_9, zero_9, elem_9, arr_9, int_9, str_9, bool_9, ptr_9, map_9, pl_9, und_25, agg_25, sz_25, by_25, zero_25, elem_25, arr_25, int_25, str_25, bool_25, ptr_25, map_25, pl_25, und_75, agg_75, sz_75, by_75, zero_75, elem_75, arr_75, int_75, str_75, bool_75, ptr_75, map_75, pl_75, notIf, isEq, h1, h5, h7, h10, h11, q1, q3, q4, q7, q8, g0, hxr]
    simp only [retQ, retE, RetOK, objPairs, resPairs, cellPairs, objCells, retRen, retMem, exitMem, exitVals, resAt, entryMem, cellsAt, AMds, AMd, CMd, keys, List.append_nil, List.nil_append, List.cons_append, List.map_cons, List.map_nil, List.nodup_cons, List.mem_cons, List.not_mem_nil, or_false, not_false_eq_true, List.nodup_nil, get_mk, mem_mk, look_nil, look_cons, Option.isSome_some, Option.isSome_none, and_self, and_true, true_and, ↓reduceIte, Nat.reduceEqDiff, Nat.reduceAdd, Nat.reduceMul, Option.getD_some, inObj, inRow, outName, outCell, forall_eq_or_imp, forall_eq, implies_true, Nat.reduceBEq, reduceCtorEq, Bool.false_eq_true, andThen_some, andThen_none, Nat.zero_add, List.length_nil, List.length_cons, false_implies, List.length_append, loadE, run_ask, run_ret, run_fail, obind_some, obind_none, List.zip_cons_cons, List.zip_nil_left, List.zip_nil_right, AMd.AMp, List.take, List.drop, List.getElem?_cons_zero, List.getElem?_cons_succ, Nat.reduceLeDiff, Nat.zero_le, List.forall_mem_nil, rs_12]
  · have hS : (pathS l a).1 = [] ∧ ((pathS l a).2 = 3 ∨ (pathS l a).2 = 4) := by
      unfold pathS
      split
      · exact ⟨rfl, .inr rfl⟩
      · rename_i h
        rw [if_neg (fun hp => hok ⟨h, hp⟩)]
        exact ⟨rfl, .inl rfl⟩
    have q7 := num4_at (pathS l a).2
    generalize pathS l a = pp at q1 q7 hS
    obtain ⟨p1, p2⟩ := pp
    obtain ⟨rfl, h34⟩ := hS
    have g0 : (p2 != 0) = true := by
      have h34 : p2 = 3 ∨ p2 = 4 := h34
      rcases h34 with rfl | rfl <;> rfl
    have g1 : (((0 : Nat) : Int) == 0) = true := rfl
    have tn : texts [] = [] := rfl
    dsimp only at q1 q7
    rw [tn] at q1
    simp only [vc_skip, vc_region, vc_drawn, vc_seq, vc_cond, vc_block, vc_loop, vc_exit, vc_label, vc_ret, thenA_normal, thenA_ret, thenA_exit, inBlockA_normal, inBlockA_ret, inBlockA_here, aOps_nil, aOps_cons, aStep_eq, dstOK_some, dstOK_none, guardE_none, guardE_some, boolE_c, boolE_tup, run_ret, run_fail, run_ask, run_bind, run_ifE, run_ite, get_mk, mem_mk, step_mk, step_mk', put_mk, put_mk', look_nil, look_cons, eval_tmp, eval_func, eval_int, eval_bool, eval_str, eval_nilsl, eval_nilptr, eval_nilmp, op_move, op_assign, op_pick, pickE_c, op_load, op_store, op_nilCheck, ncE, op_binOp, op_unOp, op_convert, op_fieldAddr, faE, op_field, fieldE, op_indexAddr, op_slice, op_extract, extE, op_alloc, op_box, op_build, op_builtin, op_call, cloE, op_buildSlice, bsE, op_index, idxE, obind_some, obind_none, obind_ifE, okE, okM, entryT, entryMem, cellsAt, List.append_nil, List.nil_append, List.cons_append, loadE, storeE, binE, isSh, intOp, AV.flat, Option.map_some, Option.map_none, ifE_true, ifE_false, ↓reduceIte, Nat.reduceLT, Nat.reduceLeDiff, Nat.reduceEqDiff, Nat.reduceAdd, Nat.reduceMul, Nat.reduceSub, decide_true, decide_false, Option.getD_some, Option.getD_none, objName, rowName, resName, resCell, inObj, inRow, outName, outCell, EP.bind, List.getElem?_cons_zero, List.getElem?_cons_succ, List.length_cons, List.length_nil, List.map_cons, List.map_nil, cndE, reduceCtorEq, and_self, and_true, true_and, List.all_cons, List.all_nil, AV.scal, Bool.and_self, Bool.and_true, putAt, List.take, List.drop, Option.bind_some, Option.bind_none, Bool.false_eq_true, callE, argsE, AV.pure?, AV.toPC, toPCs, objsE, cellsE, resAt, backObjs, backCells, freeE, keys, exitMem, shapeOf, oneE, List.nodup_cons, List.mem_cons, List.not_mem_nil, or_false, not_false_eq_true, List.nodup_nil, ext, unE, Nat.reduceBEq, builtinE, lenE, AV.rows, appendE, addedE, newRowE, newObjE, strz, mm, convE, buildE, fillE, chunks, List.replicate, List.flatten, guardE, cndQ, ifE_self, List.getElem?_toArray, List.flatMap, List.flatten_cons, List.flatten_nil, Int.reduceLT, Int.reduceLE, Int.reduceToNat, Option.map, andThen_some, andThen_none, andThen_ifE, branch_true, branch_false, Nat.zero_add, Nat.mul_one, Nat.one_mul, Nat.zero_le, Nat.add_zero, List.length_append, beq_true, beq_false, Bool.not_true, Bool.not_false, strOp, beq_self_eq_true, Int.toNat_natCast, indexE, Int.natCast_nonneg, hintP_nil, hintP_nil', hintP_cons, hasN_nil, hasN_cons, op_makeSlice, mkE, newMslE, Bool.or_false, Bool.or_true, Bool.false_or, Bool.true_or, look2, denil, List.append_eq, doHint_tidy, pickT_nil, pickT_cons, m_mk, once, without, convO, hN, hF, und_3, agg_3, sz_3, by_3, zero_3, elem_3, arr_3, int_3, str_3, bool_3, ptr_3, map_3, pl_3, und_4, agg_4, sz_4, by_4, zero_4, elem_4, arr_4, int_4, str_4, bool_4, ptr_4, map_4, pl_4, und_9, agg_9, sz_9, by_9, zero_9, elem_9, arr_9, int_9, str_9, bool_9, ptr_9, map_9, pl_9, und_25, agg_25, sz_25, by_25, zero_25, elem_25, arr_25, int_25, str_25, bool_25, ptr_25, map_25, pl_25, und_75, agg_75, sz_75, by_75, zero_75, elem_75, arr_75, int_75, str_75, bool_75, ptr_75, map_75, pl_75, notIf, isEq, h1, h10, h11, q1, q7, q8, g0, g1]
    simp only [retQ, retE, RetOK, objPairs, resPairs, cellPairs, objCells, retRen, retMem, exitMem, exitVals, resAt, entryMem, cellsAt, AMds, AMd, CMd, keys, List.append_nil, List.nil_append, List.cons_append, List.map_cons, List.map_nil, List.nodup_cons, List.mem_cons, List.not_mem_nil, or_false, not_false_eq_true, List.nodup_nil, get_mk, mem_mk, look_nil, look_cons, Option.isSome_some, Option.isSome_none, and_self, and_true, true_and, ↓reduceIte, Nat.reduceEqDiff, Nat.reduceAdd, Nat.reduceMul, Option.getD_some, inObj, inRow, outName, outCell, forall_eq_or_imp, forall_eq, implies_true, Nat.reduceBEq, reduceCtorEq, Bool.false_eq_true, andThen_some, andThen_none, Nat.zero_add, List.length_nil, List.length_cons, false_implies, List.length_append, loadE, run_ask, run_ret, run_fail, obind_some, obind_none, List.zip_cons_cons, List.zip_nil_left, List.zip_nil_right, AMd.AMp, List.take, List.drop, List.getElem?_cons_zero, List.getElem?_cons_succ, Nat.reduceLeDiff, Nat.zero_le, List.forall_mem_nil, rs_12]

noncomputable def rowsC4 : Contract := mkC (α := List (List UInt8)) Okl (fun l => [.c (.sl (texts l))]) (fun _ => []) (fun _ => ⟨[.pv (.c (.bool true))], []⟩)
theorem root_up (l : List (List UInt8)) : rootS (upS l) = rootS l := by
  by_cases h : l.length ≤ 1
  · match l, h with
    | [], _ => rw [upS_nil]
    | [x], _ => rw [upS_one]
    | _ :: _ :: _, h => simp at h
  · exact (rootS_gt h).symm

set_option maxRecDepth 100000 in
set_option maxHeartbeats 1000000 in
theorem rows4_sound (hΓ : SoundG Try.prog Γ) (h3 : Γ 38 = upC) (h5 : Γ 39 = rootC) (h11 : Γ 37 = alive4C) : SoundC Try.prog 9 rowsC4 := by
  refine sound_fn Try.func9 (by kernel_rfl) rfl rfl ?_
  intro args objs r hr
  obtain ⟨l, hl, rfl, rfl, rfl⟩ := mkC_inv hr
  refine ⟨rfl, by show 1 ≤ _; decide, fun E hN hns hF => ?_⟩
  refine vc_sound hΓ mixed _ _ _ ?_
  have hN := hN.trans nt_9
  have hl1 := hl.1
  have q2 := up_at l hl
  have q3 := root_at l hl
  have q4 := root_at (upS l) (upS_ok hl)
  rw [root_up] at q4
  have q8 := alive4_at
  have e2 := tmod_two l.length
  have e3 := tdiv_two l.length (by omega)
  have h20 : ((2 : Int) = 0) = False := by simp
  have e4 : IntKind.i64.wrap (((l.length / 2 : Nat) : Int) + ((l.length % 2 : Nat) : Int)) = (((l.length + 1) / 2 : Nat) : Int) := by rw [wrapI (by omega)]; omega
  have hul := upS_length l
  simp only [vc_skip, vc_region, vc_drawn, vc_seq, vc_cond, vc_block, vc_loop, vc_exit, vc_label, vc_ret, thenA_normal, thenA_ret, thenA_exit, inBlockA_normal, inBlockA_ret, inBlockA_here, aOps_nil, aOps_cons, aStep_eq, dstOK_some, dstOK_none, guardE_none, guardE_some, boolE_c, boolE_tup, run_ret, run_fail, run_ask, run_bind, run_ifE, run_ite, get_mk, mem_mk, step_mk, step_mk', put_mk, put_mk', look_nil, look_cons, eval_tmp, eval_func, eval_int, eval_bool, eval_str, eval_nilsl, eval_nilptr, eval_nilmp, op_move, op_assign, op_pick, pickE_c, op_load, op_store, op_nilCheck, ncE, op_binOp, op_unOp, op_convert, op_fieldAddr, faE, op_field, fieldE, op_indexAddr, op_slice, op_extract, extE, op_alloc, op_box, op_build, op_builtin, op_call, cloE, op_buildSlice, bsE, op_index, idxE, obind_some, obind_none, obind_ifE, okE, okM, entryT, entryMem, cellsAt, List.append_nil, List.nil_append, List.cons_append, loadE, storeE, binE, isSh, intOp, AV.flat, Option.map_some, Option.map_none, ifE_true, ifE_false, ↓reduceIte, Nat.reduceLT, Nat.reduceLeDiff, Nat.reduceEqDiff, Nat.reduceAdd, Nat.reduceMul, Nat.reduceSub, decide_true, decide_false, Option.getD_some, Option.getD_none, objName, rowName, resName, resCell, inObj, inRow, outName, outCell, EP.bind, List.getElem?_cons_zero, List.getElem?_cons_succ, List.length_cons, List.length_nil, List.map_cons, List.map_nil, cndE, reduceCtorEq, and_self, and_true, true_and, List.all_cons, List.all_nil, AV.scal, Bool.and_self, Bool.and_true, putAt, List.take, List.drop, Option.bind_some, Option.bind_none, Bool.false_eq_true, callE, argsE, AV.pure?, AV.toPC, toPCs, objsE, cellsE, resAt, backObjs, backCells, freeE, keys, exitMem, shapeOf, oneE, List.nodup_cons, List.mem_cons, List.not_mem_nil, or_false, not_false_eq_true, List.nodup_nil, ext, unE, Nat.reduceBEq, builtinE, lenE, AV.rows, appendE, addedE, newRowE, newObjE, strz, mm, convE, buildE, fillE, chunks, List.replicate, List.flatten, guardE, cndQ, ifE_self, List.getElem?_toArray, List.flatMap, List.flatten_cons, List.flatten_nil, Int.reduceLT, Int.reduceLE, Int.reduceToNat, Option.map, andThen_some, andThen_none, andThen_ifE, branch_true, branch_false, Nat.zero_add, Nat.mul_one, Nat.one_mul, Nat.zero_le, Nat.add_zero, List.length_append, beq_true, beq_false, Bool.not_true, Bool.not_false, strOp, beq_self_eq_true, Int.toNat_natCast, indexE, Int.natCast_nonneg, hintP_nil, hintP_nil', hintP_cons, hasN_nil, hasN_cons, op_makeSlice, mkE, newMslE, Bool.or_false, Bool.or_true, Bool.false_or, Bool.true_or, look2, denil, List.append_eq, doHint_tidy, pickT_nil, pickT_cons, m_mk, once, without, convO, hN, hF, und_3, agg_3, sz_3, by_3, zero_3, elem_3, arr_3, int_3, str_3, bool_3, ptr_3, map_3, pl_3, und_4, agg_4, sz_4, by_4, zero_4, elem_4, arr_4, int_4, str_4, bool_4, ptr_4, map_4, pl_4, und_9, agg_9, sz_9, by_9, zero_9, elem_9, arr_9, int_9, str_9, bool_9, ptr_9, map_9, pl_9, und_75, agg_75, sz_75, by_75, zero_75, elem_75, arr_75, int_75, str_75, bool_75, ptr_75, map_75, pl_75, notIf, isEq, h3, h5, h11, q2, q3, q4, q8, e2, e3, h20, e4, texts_length, hul]
  simp only [retQ, retE, RetOK, objPairs, resPairs, cellPairs, objCells, retRen, retMem, exitMem, exitVals, resAt, entryMem, cellsAt, AMds, AMd, CMd, keys, List.append_nil, List.nil_append, List.cons_append, List.map_cons, List.map_nil, List.nodup_cons, List.mem_cons, List.not_mem_nil, or_false, not_false_eq_true, List.nodup_nil, get_mk, mem_mk, look_nil, look_cons, Option.isSome_some, Option.isSome_none, and_self, and_true, true_and, ↓reduceIte, Nat.reduceEqDiff, Nat.reduceAdd, Nat.reduceMul, Option.getD_some, inObj, inRow, outName, outCell, forall_eq_or_imp, forall_eq, implies_true, Nat.reduceBEq, reduceCtorEq, Bool.false_eq_true, andThen_some, andThen_none, Nat.zero_add, List.length_nil, List.length_cons, false_implies, List.length_append, loadE, run_ask, run_ret, run_fail, obind_some, obind_none, List.zip_cons_cons, List.zip_nil_left, List.zip_nil_right, AMd.AMp, List.take, List.drop, List.getElem?_cons_zero, List.getElem?_cons_succ, Nat.reduceLeDiff, Nat.zero_le, List.forall_mem_nil, rs_9]

end Go.Proofs.Ytacglboiodolkaa.AM
