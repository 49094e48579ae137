/-
  SHA: constants; a block's words.
-/
import Derived.Test.YtjdokoldiemobaaSh3
set_option linter.unusedVariables false
set_option linter.unusedSimpArgs false
namespace Go.Proofs.Ytjdokoldiemobaa.AM
open Go

variable {Γ : FuncId → Contract}

def kS : List W32 := [1116352408, 1899447441, 3049323471, 3921009573, 961987163, 1508970993, 2453635748, 2870763221, 3624381080, 310598401, 607225278, 1426881987, 1925078388, 2162078206, 2614888103, 3248222580, 3835390401, 4022224774, 264347078, 604807628, 770255983, 1249150122, 1555081692, 1996064986, 2554220882, 2821834349, 2952996808, 3210313671, 3336571891, 3584528711, 113926993, 338241895, 666307205, 773529912, 1294757372, 1396182291, 1695183700, 1986661051, 2177026350, 2456956037, 2730485921, 2820302411, 3259730800, 3345764771, 3516065817, 3600352804, 4094571909, 275423344, 430227734, 506948616, 659060556, 883997877, 958139571, 1322822218, 1537002063, 1747873779, 1955562222, 2024104815, 2227730452, 2361852424, 2428436474, 2756734187, 3204031479, 3329325298]
def hS : List W32 := [1779033703, 3144134277, 1013904242, 2773480762, 1359893119, 2600822924, 528734635, 1541459225]
theorem kS_length : kS.length = 64 := by decide
theorem hS_length : hS.length = 8 := by decide

set_option maxRecDepth 100000 in
theorem build_k : buildE Try.prog 176 [(0, .c (.int .u32 1116352408)), (1, .c (.int .u32 1899447441)), (2, .c (.int .u32 3049323471)), (3, .c (.int .u32 3921009573)), (4, .c (.int .u32 961987163)), (5, .c (.int .u32 1508970993)), (6, .c (.int .u32 2453635748)), (7, .c (.int .u32 2870763221)), (8, .c (.int .u32 3624381080)), (9, .c (.int .u32 310598401)), (10, .c (.int .u32 607225278)), (11, .c (.int .u32 1426881987)), (12, .c (.int .u32 1925078388)), (13, .c (.int .u32 2162078206)), (14, .c (.int .u32 2614888103)), (15, .c (.int .u32 3248222580)), (16, .c (.int .u32 3835390401)), (17, .c (.int .u32 4022224774)), (18, .c (.int .u32 264347078)), (19, .c (.int .u32 604807628)), (20, .c (.int .u32 770255983)), (21, .c (.int .u32 1249150122)), (22, .c (.int .u32 1555081692)), (23, .c (.int .u32 1996064986)), (24, .c (.int .u32 2554220882)), (25, .c (.int .u32 2821834349)), (26, .c (.int .u32 2952996808)), (27, .c (.int .u32 3210313671)), (28, .c (.int .u32 3336571891)), (29, .c (.int .u32 3584528711)), (30, .c (.int .u32 113926993)), (31, .c (.int .u32 338241895)), (32, .c (.int .u32 666307205)), (33, .c (.int .u32 773529912)), (34, .c (.int .u32 1294757372)), (35, .c (.int .u32 1396182291)), (36, .c (.int .u32 1695183700)), (37, .c (.int .u32 1986661051)), (38, .c (.int .u32 2177026350)), (39, .c (.int .u32 2456956037)), (40, .c (.int .u32 2730485921)), (41, .c (.int .u32 2820302411)), (42, .c (.int .u32 3259730800)), (43, .c (.int .u32 3345764771)), (44, .c (.int .u32 3516065817)), (45, .c (.int .u32 3600352804)), (46, .c (.int .u32 4094571909)), (47, .c (.int .u32 275423344)), (48, .c (.int .u32 430227734)), (49, .c (.int .u32 506948616)), (50, .c (.int .u32 659060556)), (51, .c (.int .u32 883997877)), (52, .c (.int .u32 958139571)), (53, .c (.int .u32 1322822218)), (54, .c (.int .u32 1537002063)), (55, .c (.int .u32 1747873779)), (56, .c (.int .u32 1955562222)), (57, .c (.int .u32 2024104815)), (58, .c (.int .u32 2227730452)), (59, .c (.int .u32 2361852424)), (60, .c (.int .u32 2428436474)), (61, .c (.int .u32 2756734187)), (62, .c (.int .u32 3204031479)), (63, .c (.int .u32 3329325298))] = some (cellsW kS) := by kernel_rfl
set_option maxRecDepth 100000 in
theorem build_h : buildE Try.prog 193 [(0, .c (.int .u32 1779033703)), (1, .c (.int .u32 3144134277)), (2, .c (.int .u32 1013904242)), (3, .c (.int .u32 2773480762)), (4, .c (.int .u32 1359893119)), (5, .c (.int .u32 2600822924)), (6, .c (.int .u32 528734635)), (7, .c (.int .u32 1541459225))] = some (cellsW hS) := by kernel_rfl

def kC : Contract := fun args objs => match args, objs with | [], [] => some ⟨[.pv (.agg (cellsW kS))], []⟩ | _, _ => none
def hC : Contract := fun args objs => match args, objs with | [], [] => some ⟨[.pv (.agg (cellsW hS))], []⟩ | _, _ => none
theorem resB_W (l : List W32) : resB [.pv (.agg (cellsW l))] = true := by simp [resB, pureB, cellsW]

set_option maxRecDepth 100000 in
set_option maxHeartbeats 4000000 in
theorem constants_sound : SoundC Try.prog 155 kC := by
  refine sound_fn Try.func155 (by kernel_rfl) rfl rfl ?_
  intro args objs r hr
  unfold kC at hr
  split at hr
  · cases hr
    refine ⟨resB_W _, by show 0 ≤ _; decide, fun E hN hns hF => ?_⟩
    refine vc_sound none0_sound mixed _ _ _ ?_
    have hN := hN.trans nt_155
    have hp : putAt (cellsW (zerosW 64)) 0 (cellsW kS) = cellsW kS := cellsW_all_put (by rw [zerosW_length, kS_length])
    have ht : (cellsW kS).take 64 = cellsW kS := cellsW_take kS_length.symm
    simp only [runA, ncE, faE, fieldE, extE, cloE, bsE, idxE, okE, okM, entryT, entryMem, cellsAt, List.append_nil, List.nil_append, List.cons_append, loadE, storeE, isSh, intOp, AV.flat, Option.map_some, Option.map_none, ↓reduceIte, Nat.reduceLT, Nat.reduceLeDiff, Nat.reduceEqDiff, Nat.reduceAdd, Nat.reduceMul, Nat.reduceSub, decide_true, decide_false, Option.getD_some, Option.getD_none, objName, rowName, resName, resCell, inObj, inRow, outName, outCell, EP.bind, List.getElem?_cons_zero, List.getElem?_cons_succ, List.length_cons, List.length_nil, List.map_cons, List.map_nil, cndE, reduceCtorEq, and_self, and_true, true_and, List.all_cons, List.all_nil, AV.scal, Bool.and_self, Bool.and_true, List.take, List.drop, Option.bind_some, Option.bind_none, Bool.false_eq_true, callE, argsE, AV.pure?, AV.toPC, toPCs, objsE, cellsE, resAt, backObjs, backCells, freeE, keys, exitMem, shapeOf, oneE, List.nodup_cons, List.mem_cons, List.not_mem_nil, or_false, not_false_eq_true, List.nodup_nil, ext, Nat.reduceBEq, builtinE, lenE, AV.rows, appendE, addedE, newRowE, newObjE, strz, mm, fillE, chunks, List.replicate, List.flatten, guardE, cndQ, List.getElem?_toArray, List.flatMap, List.flatten_cons, List.flatten_nil, Int.reduceLT, Int.reduceLE, Int.reduceToNat, Option.map, Nat.zero_add, Nat.mul_one, Nat.one_mul, Nat.zero_le, Nat.add_zero, List.length_append, beq_true, beq_false, Bool.not_true, Bool.not_false, strOp, beq_self_eq_true, Int.toNat_natCast, indexE, Int.natCast_nonneg, mkE, newMslE, Bool.or_false, Bool.or_true, Bool.false_or, Bool.true_or, look2, denil, List.append_eq, once, without, convO, w_add, w_and, w_or, w_xor, w_xorF, w_not, w_shl8, w_shl16, w_shl24, w_shr3, w_shr8, w_shr10, w_shr16, w_shr24, b_add, b_sub, b_mul, b_quo, b_rem, b_and, b_or, b_xor, b_andNot, b_eql, b_neq, b_lss, b_leq, b_gtr, b_geq, b_str, b_bool, u_neg, u_not, c_bw, c_wb, cellsW_length, cellsW_pure, cellsW_all, cellsE_W, backCells_W, cellsAt_W, cellPairs_W, cellsW_toPCs, cellsW_map, hN, hF, ty_175, ty_176, notIf, isEq, build_k, zrep_W, hp, kS_length, zerosW_length]
    simp only [retQ, retE, RetOK, objPairs, resPairs, cellPairs, objCells, retRen, retMem, exitMem, exitVals, resAt, entryMem, cellsAt, AMds, AMd, CMd, keys, List.append_nil, List.nil_append, List.cons_append, List.map_cons, List.map_nil, List.nodup_cons, List.mem_cons, List.not_mem_nil, or_false, not_false_eq_true, List.nodup_nil, get_mk, mem_mk, look_nil, look_cons, Option.isSome_some, Option.isSome_none, and_self, and_true, true_and, ↓reduceIte, Nat.reduceEqDiff, Nat.reduceAdd, Nat.reduceMul, Option.getD_some, inObj, inRow, outName, outCell, forall_eq_or_imp, forall_eq, implies_true, Nat.reduceBEq, reduceCtorEq, Bool.false_eq_true, andThen_some, andThen_none, Nat.zero_add, List.length_nil, List.length_cons, false_implies, List.length_append, loadE, run_ask, run_ret, run_fail, obind_some, obind_none, List.zip_cons_cons, List.zip_nil_left, List.zip_nil_right, AMd.AMp, List.take, List.drop, List.getElem?_cons_zero, List.getElem?_cons_succ, Nat.reduceLeDiff, Nat.zero_le, List.forall_mem_nil, rs_155, agg_176, sz_176, cellsW_length, kS_length, ht]
    exact cellsW_amp kS
  · cases hr

set_option maxRecDepth 100000 in
set_option maxHeartbeats 4000000 in
theorem refwords_sound : SoundC Try.prog 138 kC := by
  refine sound_fn Try.func138 (by kernel_rfl) rfl rfl ?_
  intro args objs r hr
  unfold kC at hr
  split at hr
  · cases hr
    refine ⟨resB_W _, by show 0 ≤ _; decide, fun E hN hns hF => ?_⟩
    refine vc_sound none0_sound mixed _ _ _ ?_
    have hN := hN.trans nt_138
    have hp : putAt (cellsW (zerosW 64)) 0 (cellsW kS) = cellsW kS := cellsW_all_put (by rw [zerosW_length, kS_length])
    have ht : (cellsW kS).take 64 = cellsW kS := cellsW_take kS_length.symm
    simp only [runA, ncE, faE, fieldE, extE, cloE, bsE, idxE, okE, okM, entryT, entryMem, cellsAt, List.append_nil, List.nil_append, List.cons_append, loadE, storeE, isSh, intOp, AV.flat, Option.map_some, Option.map_none, ↓reduceIte, Nat.reduceLT, Nat.reduceLeDiff, Nat.reduceEqDiff, Nat.reduceAdd, Nat.reduceMul, Nat.reduceSub, decide_true, decide_false, Option.getD_some, Option.getD_none, objName, rowName, resName, resCell, inObj, inRow, outName, outCell, EP.bind, List.getElem?_cons_zero, List.getElem?_cons_succ, List.length_cons, List.length_nil, List.map_cons, List.map_nil, cndE, reduceCtorEq, and_self, and_true, true_and, List.all_cons, List.all_nil, AV.scal, Bool.and_self, Bool.and_true, List.take, List.drop, Option.bind_some, Option.bind_none, Bool.false_eq_true, callE, argsE, AV.pure?, AV.toPC, toPCs, objsE, cellsE, resAt, backObjs, backCells, freeE, keys, exitMem, shapeOf, oneE, List.nodup_cons, List.mem_cons, List.not_mem_nil, or_false, not_false_eq_true, List.nodup_nil, ext, Nat.reduceBEq, builtinE, lenE, AV.rows, appendE, addedE, newRowE, newObjE, strz, mm, fillE, chunks, List.replicate, List.flatten, guardE, cndQ, List.getElem?_toArray, List.flatMap, List.flatten_cons, List.flatten_nil, Int.reduceLT, Int.reduceLE, Int.reduceToNat, Option.map, Nat.zero_add, Nat.mul_one, Nat.one_mul, Nat.zero_le, Nat.add_zero, List.length_append, beq_true, beq_false, Bool.not_true, Bool.not_false, strOp, beq_self_eq_true, Int.toNat_natCast, indexE, Int.natCast_nonneg, mkE, newMslE, Bool.or_false, Bool.or_true, Bool.false_or, Bool.true_or, look2, denil, List.append_eq, once, without, convO, w_add, w_and, w_or, w_xor, w_xorF, w_not, w_shl8, w_shl16, w_shl24, w_shr3, w_shr8, w_shr10, w_shr16, w_shr24, b_add, b_sub, b_mul, b_quo, b_rem, b_and, b_or, b_xor, b_andNot, b_eql, b_neq, b_lss, b_leq, b_gtr, b_geq, b_str, b_bool, u_neg, u_not, c_bw, c_wb, cellsW_length, cellsW_pure, cellsW_all, cellsE_W, backCells_W, cellsAt_W, cellPairs_W, cellsW_toPCs, cellsW_map, hN, hF, ty_175, ty_176, notIf, isEq, build_k, zrep_W, hp, kS_length, zerosW_length]
    simp only [retQ, retE, RetOK, objPairs, resPairs, cellPairs, objCells, retRen, retMem, exitMem, exitVals, resAt, entryMem, cellsAt, AMds, AMd, CMd, keys, List.append_nil, List.nil_append, List.cons_append, List.map_cons, List.map_nil, List.nodup_cons, List.mem_cons, List.not_mem_nil, or_false, not_false_eq_true, List.nodup_nil, get_mk, mem_mk, look_nil, look_cons, Option.isSome_some, Option.isSome_none, and_self, and_true, true_and, ↓reduceIte, Nat.reduceEqDiff, Nat.reduceAdd, Nat.reduceMul, Option.getD_some, inObj, inRow, outName, outCell, forall_eq_or_imp, forall_eq, implies_true, Nat.reduceBEq, reduceCtorEq, Bool.false_eq_true, andThen_some, andThen_none, Nat.zero_add, List.length_nil, List.length_cons, false_implies, List.length_append, loadE, run_ask, run_ret, run_fail, obind_some, obind_none, List.zip_cons_cons, List.zip_nil_left, List.zip_nil_right, AMd.AMp, List.take, List.drop, List.getElem?_cons_zero, List.getElem?_cons_succ, Nat.reduceLeDiff, Nat.zero_le, List.forall_mem_nil, rs_138, agg_176, sz_176, cellsW_length, kS_length, ht]
    exact cellsW_amp kS
  · cases hr

set_option maxRecDepth 100000 in
set_option maxHeartbeats 4000000 in
theorem first_sound : SoundC Try.prog 154 hC := by
  refine sound_fn Try.func154 (by kernel_rfl) rfl rfl ?_
  intro args objs r hr
  unfold hC at hr
  split at hr
  · cases hr
    refine ⟨resB_W _, by show 0 ≤ _; decide, fun E hN hns hF => ?_⟩
    refine vc_sound none0_sound mixed _ _ _ ?_
    have hN := hN.trans nt_154
    have ht : (cellsW hS).take 8 = cellsW hS := cellsW_take hS_length.symm
    simp only [runA, ncE, faE, fieldE, extE, cloE, bsE, idxE, okE, okM, entryT, entryMem, cellsAt, List.append_nil, List.nil_append, List.cons_append, loadE, storeE, isSh, intOp, AV.flat, Option.map_some, Option.map_none, ↓reduceIte, Nat.reduceLT, Nat.reduceLeDiff, Nat.reduceEqDiff, Nat.reduceAdd, Nat.reduceMul, Nat.reduceSub, decide_true, decide_false, Option.getD_some, Option.getD_none, objName, rowName, resName, resCell, inObj, inRow, outName, outCell, EP.bind, List.getElem?_cons_zero, List.getElem?_cons_succ, List.length_cons, List.length_nil, List.map_cons, List.map_nil, cndE, reduceCtorEq, and_self, and_true, true_and, List.all_cons, List.all_nil, AV.scal, Bool.and_self, Bool.and_true, putAt, List.take, List.drop, Option.bind_some, Option.bind_none, Bool.false_eq_true, callE, argsE, AV.pure?, AV.toPC, toPCs, objsE, cellsE, resAt, backObjs, backCells, freeE, keys, exitMem, shapeOf, oneE, List.nodup_cons, List.mem_cons, List.not_mem_nil, or_false, not_false_eq_true, List.nodup_nil, ext, Nat.reduceBEq, builtinE, lenE, AV.rows, appendE, addedE, newRowE, newObjE, strz, mm, fillE, chunks, List.replicate, List.flatten, guardE, cndQ, List.getElem?_toArray, List.flatMap, List.flatten_cons, List.flatten_nil, Int.reduceLT, Int.reduceLE, Int.reduceToNat, Option.map, Nat.zero_add, Nat.mul_one, Nat.one_mul, Nat.zero_le, Nat.add_zero, List.length_append, beq_true, beq_false, Bool.not_true, Bool.not_false, strOp, beq_self_eq_true, Int.toNat_natCast, indexE, Int.natCast_nonneg, mkE, newMslE, Bool.or_false, Bool.or_true, Bool.false_or, Bool.true_or, look2, denil, List.append_eq, once, without, convO, w_add, w_and, w_or, w_xor, w_xorF, w_not, w_shl8, w_shl16, w_shl24, w_shr3, w_shr8, w_shr10, w_shr16, w_shr24, b_add, b_sub, b_mul, b_quo, b_rem, b_and, b_or, b_xor, b_andNot, b_eql, b_neq, b_lss, b_leq, b_gtr, b_geq, b_str, b_bool, u_neg, u_not, c_bw, c_wb, cellsW_length, cellsW_pure, cellsW_all, cellsE_W, backCells_W, cellsAt_W, cellPairs_W, cellsW_toPCs, cellsW_map, hN, hF, ty_175, ty_193, notIf, isEq, build_h, hS_length]
    simp only [retQ, retE, RetOK, objPairs, resPairs, cellPairs, objCells, retRen, retMem, exitMem, exitVals, resAt, entryMem, cellsAt, AMds, AMd, CMd, keys, List.append_nil, List.nil_append, List.cons_append, List.map_cons, List.map_nil, List.nodup_cons, List.mem_cons, List.not_mem_nil, or_false, not_false_eq_true, List.nodup_nil, get_mk, mem_mk, look_nil, look_cons, Option.isSome_some, Option.isSome_none, and_self, and_true, true_and, ↓reduceIte, Nat.reduceEqDiff, Nat.reduceAdd, Nat.reduceMul, Option.getD_some, inObj, inRow, outName, outCell, forall_eq_or_imp, forall_eq, implies_true, Nat.reduceBEq, reduceCtorEq, Bool.false_eq_true, andThen_some, andThen_none, Nat.zero_add, List.length_nil, List.length_cons, false_implies, List.length_append, loadE, run_ask, run_ret, run_fail, obind_some, obind_none, List.zip_cons_cons, List.zip_nil_left, List.zip_nil_right, AMd.AMp, List.take, List.drop, List.getElem?_cons_zero, List.getElem?_cons_succ, Nat.reduceLeDiff, Nat.zero_le, List.forall_mem_nil, rs_154, agg_193, sz_193, cellsW_length, hS_length, ht]
    exact cellsW_amp hS
  · cases hr

end Go.Proofs.Ytjdokoldiemobaa.AM
