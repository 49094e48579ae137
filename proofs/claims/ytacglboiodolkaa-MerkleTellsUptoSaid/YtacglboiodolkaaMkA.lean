/-
  Merkle: what the laws owe.
-/
import Derived.Test.YtacglboiodolkaaMk9
set_option linter.unusedVariables false
set_option linter.unusedSimpArgs false
namespace Go.Proofs.Ytacglboiodolkaa.AM
open Go

variable {Γ : FuncId → Contract}

noncomputable def alive4C : Contract := mkC (α := Unit) (fun _ => True) (fun _ => []) (fun _ => []) (fun _ => ⟨[.pv (.c (.bool true))], []⟩)
theorem alive4_at : alive4C [] [] = some ⟨[.pv (.c (.bool true))], []⟩ := mkC_at (α := Unit) () trivial (fun _ _ _ _ => rfl)

theorem two_path : pathC [.c (.sl [[.str [97]], [.str [98]]]), .c (.int .i64 1)] [] = some ⟨[.pv (.c (.sl [[.str [97]]])), .pv (.c (.int .i64 0))], []⟩ := by
  have hl : Okl [[97], [98]] := by
    refine ⟨by decide, fun s hs => ?_⟩
    simp at hs
    rcases hs with rfl | rfl <;> decide
  have := path_at [[97], [98]] 1 hl
  have hp : pathS [[97], [98]] 1 = ([[97]], 0) := by
    unfold pathS
    rw [if_neg (by decide), if_pos (by decide)]
    rw [show ((1 : Int).toNat) = 1 from rfl, pathP_gt (by decide), pathP_le (by rw [upS_length]; decide)]
    rfl
  rw [hp] at this
  exact this
theorem one_root : rootC [.c (.sl [[.str [97]]])] [] = some ⟨[.pv (.c (.str [97]))], []⟩ := by
  have hl : Okl [[97]] := ⟨by decide, fun s hs => by simp at hs; subst hs; decide⟩
  have := root_at [[97]] hl
  rw [rootS_le (by decide)] at this
  exact this

set_option maxRecDepth 100000 in
set_option maxHeartbeats 1000000 in
theorem alive4_sound (hΓ : SoundG Try.prog Γ) (h1 : Γ 40 = pathC) (h2 : Γ 39 = rootC) : SoundC Try.prog 37 alive4C := by
  refine sound_fn Try.func37 (by kernel_rfl) rfl rfl ?_
  intro args objs r hr
  obtain ⟨_, _, rfl, rfl, rfl⟩ := mkC_inv hr
  refine ⟨rfl, by show 0 ≤ _; decide, fun E hN hns hF => ?_⟩
  refine vc_sound hΓ mixed _ _ _ ?_
  have hN := hN.trans nt_37
  have q1 := two_path
  have q2 := one_root
  have g1 : ((0 : Int) == 0) = true := rfl
  have g2 : (((1 : Nat) : Int) == 1) = true := rfl
  simp only [vc_skip, vc_region, vc_drawn, vc_seq, vc_cond, vc_block, vc_loop, vc_exit, vc_label, vc_ret, thenA_normal, thenA_ret, thenA_exit, inBlockA_normal, inBlockA_ret, inBlockA_here, aOps_nil, aOps_cons, aStep_eq, dstOK_some, dstOK_none, guardE_none, guardE_some, boolE_c, boolE_tup, run_ret, run_fail, run_ask, run_bind, run_ifE, run_ite, get_mk, mem_mk, step_mk, step_mk', put_mk, put_mk', look_nil, look_cons, eval_tmp, eval_func, eval_int, eval_bool, eval_str, eval_nilsl, eval_nilptr, eval_nilmp, op_move, op_assign, op_pick, pickE_c, op_load, op_store, op_nilCheck, ncE, op_binOp, op_unOp, op_convert, op_fieldAddr, faE, op_field, fieldE, op_indexAddr, op_slice, op_extract, extE, op_alloc, op_box, op_build, op_builtin, op_call, cloE, op_buildSlice, bsE, op_index, idxE, obind_some, obind_none, obind_ifE, okE, okM, entryT, entryMem, cellsAt, List.append_nil, List.nil_append, List.cons_append, loadE, storeE, binE, isSh, intOp, AV.flat, Option.map_some, Option.map_none, ifE_true, ifE_false, ↓reduceIte, Nat.reduceLT, Nat.reduceLeDiff, Nat.reduceEqDiff, Nat.reduceAdd, Nat.reduceMul, Nat.reduceSub, decide_true, decide_false, Option.getD_some, Option.getD_none, objName, rowName, resName, resCell, inObj, inRow, outName, outCell, EP.bind, List.getElem?_cons_zero, List.getElem?_cons_succ, List.length_cons, List.length_nil, List.map_cons, List.map_nil, cndE, reduceCtorEq, and_self, and_true, true_and, List.all_cons, List.all_nil, AV.scal, Bool.and_self, Bool.and_true, putAt, List.take, List.drop, Option.bind_some, Option.bind_none, Bool.false_eq_true, callE, argsE, AV.pure?, AV.toPC, toPCs, objsE, cellsE, resAt, backObjs, backCells, freeE, keys, exitMem, shapeOf, oneE, List.nodup_cons, List.mem_cons, List.not_mem_nil, or_false, not_false_eq_true, List.nodup_nil, ext, unE, Nat.reduceBEq, builtinE, lenE, AV.rows, appendE, addedE, newRowE, newObjE, strz, mm, convE, buildE, fillE, chunks, List.replicate, List.flatten, guardE, cndQ, ifE_self, List.getElem?_toArray, List.flatMap, List.flatten_cons, List.flatten_nil, Int.reduceLT, Int.reduceLE, Int.reduceToNat, Option.map, andThen_some, andThen_none, andThen_ifE, branch_true, branch_false, Nat.zero_add, Nat.mul_one, Nat.one_mul, Nat.zero_le, Nat.add_zero, List.length_append, beq_true, beq_false, Bool.not_true, Bool.not_false, strOp, beq_self_eq_true, Int.toNat_natCast, indexE, Int.natCast_nonneg, hintP_nil, hintP_nil', hintP_cons, hasN_nil, hasN_cons, op_makeSlice, mkE, newMslE, Bool.or_false, Bool.or_true, Bool.false_or, Bool.true_or, look2, denil, List.append_eq, doHint_tidy, pickT_nil, pickT_cons, m_mk, once, without, convO, hN, hF, und_3, agg_3, sz_3, by_3, zero_3, elem_3, arr_3, int_3, str_3, bool_3, ptr_3, map_3, pl_3, und_4, agg_4, sz_4, by_4, zero_4, elem_4, arr_4, int_4, str_4, bool_4, ptr_4, map_4, pl_4, und_9, agg_9, sz_9, by_9, zero_9, elem_9, arr_9, int_9, str_9, bool_9, ptr_9, map_9, pl_9, und_25, agg_25, sz_25, by_25, zero_25, elem_25, arr_25, int_25, str_25, bool_25, ptr_25, map_25, pl_25, und_75, agg_75, sz_75, by_75, zero_75, elem_75, arr_75, int_75, str_75, bool_75, ptr_75, map_75, pl_75, notIf, isEq, h1, h2, q1, q2, g1, g2]
  simp only [retQ, retE, RetOK, objPairs, resPairs, cellPairs, objCells, retRen, retMem, exitMem, exitVals, resAt, entryMem, cellsAt, AMds, AMd, CMd, keys, List.append_nil, List.nil_append, List.cons_append, List.map_cons, List.map_nil, List.nodup_cons, List.mem_cons, List.not_mem_nil, or_false, not_false_eq_true, List.nodup_nil, get_mk, mem_mk, look_nil, look_cons, Option.isSome_some, Option.isSome_none, and_self, and_true, true_and, ↓reduceIte, Nat.reduceEqDiff, Nat.reduceAdd, Nat.reduceMul, Option.getD_some, inObj, inRow, outName, outCell, forall_eq_or_imp, forall_eq, implies_true, Nat.reduceBEq, reduceCtorEq, Bool.false_eq_true, andThen_some, andThen_none, Nat.zero_add, List.length_nil, List.length_cons, false_implies, List.length_append, loadE, run_ask, run_ret, run_fail, obind_some, obind_none, List.zip_cons_cons, List.zip_nil_left, List.zip_nil_right, AMd.AMp, List.take, List.drop, List.getElem?_cons_zero, List.getElem?_cons_succ, Nat.reduceLeDiff, Nat.zero_le, List.forall_mem_nil, rs_37]

/-- Whatever is asked: true. -/
theorem pathP_mem : ∀ (n : Nat) (l : List (List UInt8)) (a : Nat), l.length ≤ n → Okl l → Okl (pathP l a) ∧ (pathP l a).length ≤ l.length
  | 0, l, a, h, hl => by rw [pathP_le (by omega)]; exact ⟨⟨by simp, by simp⟩, by simp⟩
  | n + 1, l, a, h, hl => by
    by_cases h1 : l.length ≤ 1
    · rw [pathP_le h1]; exact ⟨⟨by simp, by simp⟩, by simp⟩
    · have hu := upS_length l
      obtain ⟨h2, h3⟩ := pathP_mem n (upS l) (a / 2) (by omega) (upS_ok hl)
      have h4 := hl.1
      rw [pathP_gt h1]
      refine ⟨⟨by rw [List.length_cons]; omega, fun s hs => ?_⟩, by rw [List.length_cons]; omega⟩
      rcases List.mem_cons.1 hs with rfl | hs
      · unfold List.getD
        cases hg : l[nb a]? with
        | none => simp
        | some x => exact hl.2 x (List.mem_of_getElem? hg)
      · exact h2.2 s hs

structure Te where
  l : List (List UInt8)
  a : Int
  leaf : List UInt8
  path : List (List UInt8)
def teOK (p : Te) : Prop := Okl p.l ∧ p.a < 9223372036854775808 ∧ p.leaf.length ≤ 10995116277 ∧ Okl p.path
noncomputable def tellsC : Contract := mkC (α := Te) teOK (fun p => [.c (.sl (texts p.l)), .c (.int .i64 p.a), .c (.str p.leaf), .c (.sl (texts p.path))]) (fun _ => []) (fun _ => ⟨[.pv (.c (.bool true))], []⟩)
theorem pathS_ok {l : List (List UInt8)} (h : Okl l) (a : Int) : Okl (pathS l a).1 := by
  unfold pathS
  split
  · exact ⟨by simp, by simp⟩
  · split
    · exact (pathP_mem _ l _ (Nat.le_refl _) h).1
    · exact ⟨by simp, by simp⟩

set_option maxRecDepth 100000 in
set_option maxHeartbeats 1000000 in
theorem tells_sound (hΓ : SoundG Try.prog Γ) (h1 : Γ 40 = pathC) (h2 : Γ 41 = pathC) (h3 : Γ 38 = upC) (h4 : Γ 43 = upC) (h5 : Γ 39 = rootC) (h6 : Γ 44 = rootC)
    (h7 : Γ 46 = climbC) (h8 : Γ 47 = climbC) (h9 : Γ 42 = textsC) (h10 : Γ 45 = num4C) (h11 : Γ 37 = alive4C) : SoundC Try.prog 11 tellsC := by
  refine sound_fn Try.func11 (by kernel_rfl) rfl rfl ?_
  intro args objs r hr
  obtain ⟨⟨l, a, leaf, path⟩, ⟨hl, ha, hleaf, hp⟩, rfl, rfl, rfl⟩ := mkC_inv hr
  dsimp only at hl ha hleaf hp
  refine ⟨rfl, by show 4 ≤ _; decide, fun E hN hns hF => ?_⟩
  refine vc_sound hΓ mixed _ _ _ ?_
  have hN := hN.trans nt_11
  have q1 := path_at l a hl
  have hpo := pathS_ok hl a
  have q2 := up_at l hl
  have q3 := root_at l hl
  have q4 := climb_at leaf a path ⟨hleaf, ha, hp⟩
  have q5 := texts_at (upS l) (upS l) (by have := (upS_ok hl).1; omega)
  have q6 := texts_at (pathS l a).1 (pathS l a).1 (by have := hpo.1; omega)
  have q7 := num4_at (pathS l a).2
  have q8 := alive4_at
  have d1 : decide (upS l = upS l) = true := by simp
  have d2 : decide ((pathS l a).1 = (pathS l a).1) = true := by simp
  rw [d1] at q5
  rw [d2] at q6
  generalize pathS l a = pp at q1 q6 q7
  obtain ⟨p1, p2⟩ := pp
  dsimp only at q1 q6 q7 ⊢
  simp only [vc_skip, vc_region, vc_drawn, vc_seq, vc_cond, vc_block, vc_loop, vc_exit, vc_label, vc_ret, thenA_normal, thenA_ret, thenA_exit, inBlockA_normal, inBlockA_ret, inBlockA_here, aOps_nil, aOps_cons, aStep_eq, dstOK_some, dstOK_none, guardE_none, guardE_some, boolE_c, boolE_tup, run_ret, run_fail, run_ask, run_bind, run_ifE, run_ite, get_mk, mem_mk, step_mk, step_mk', put_mk, put_mk', look_nil, look_cons, eval_tmp, eval_func, eval_int, eval_bool, eval_str, eval_nilsl, eval_nilptr, eval_nilmp, op_move, op_assign, op_pick, pickE_c, op_load, op_store, op_nilCheck, ncE, op_binOp, op_unOp, op_convert, op_fieldAddr, faE, op_field, fieldE, op_indexAddr, op_slice, op_extract, extE, op_alloc, op_box, op_build, op_builtin, op_call, cloE, op_buildSlice, bsE, op_index, idxE, obind_some, obind_none, obind_ifE, okE, okM, entryT, entryMem, cellsAt, List.append_nil, List.nil_append, List.cons_append, loadE, storeE, binE, isSh, intOp, AV.flat, Option.map_some, Option.map_none, ifE_true, ifE_false, ↓reduceIte, Nat.reduceLT, Nat.reduceLeDiff, Nat.reduceEqDiff, Nat.reduceAdd, Nat.reduceMul, Nat.reduceSub, decide_true, decide_false, Option.getD_some, Option.getD_none, objName, rowName, resName, resCell, inObj, inRow, outName, outCell, EP.bind, List.getElem?_cons_zero, List.getElem?_cons_succ, List.length_cons, List.length_nil, List.map_cons, List.map_nil, cndE, reduceCtorEq, and_self, and_true, true_and, List.all_cons, List.all_nil, AV.scal, Bool.and_self, Bool.and_true, putAt, List.take, List.drop, Option.bind_some, Option.bind_none, Bool.false_eq_true, callE, argsE, AV.pure?, AV.toPC, toPCs, objsE, cellsE, resAt, backObjs, backCells, freeE, keys, exitMem, shapeOf, oneE, List.nodup_cons, List.mem_cons, List.not_mem_nil, or_false, not_false_eq_true, List.nodup_nil, ext, unE, Nat.reduceBEq, builtinE, lenE, AV.rows, appendE, addedE, newRowE, newObjE, strz, mm, convE, buildE, fillE, chunks, List.replicate, List.flatten, guardE, cndQ, ifE_self, List.getElem?_toArray, List.flatMap, List.flatten_cons, List.flatten_nil, Int.reduceLT, Int.reduceLE, Int.reduceToNat, Option.map, andThen_some, andThen_none, andThen_ifE, branch_true, branch_false, Nat.zero_add, Nat.mul_one, Nat.one_mul, Nat.zero_le, Nat.add_zero, List.length_append, beq_true, beq_false, Bool.not_true, Bool.not_false, strOp, beq_self_eq_true, Int.toNat_natCast, indexE, Int.natCast_nonneg, hintP_nil, hintP_nil', hintP_cons, hasN_nil, hasN_cons, op_makeSlice, mkE, newMslE, Bool.or_false, Bool.or_true, Bool.false_or, Bool.true_or, look2, denil, List.append_eq, doHint_tidy, pickT_nil, pickT_cons, m_mk, once, without, convO, hN, hF, und_3, agg_3, sz_3, by_3, zero_3, elem_3, arr_3, int_3, str_3, bool_3, ptr_3, map_3, pl_3, und_4, agg_4, sz_4, by_4, zero_4, elem_4, arr_4, int_4, str_4, bool_4, ptr_4, map_4, pl_4, und_9, agg_9, sz_9, by_9, zero_9, elem_9, arr_9, int_9, str_9, bool_9, ptr_9, map_9, pl_9, und_25, agg_25, sz_25, by_25, zero_25, elem_25, arr_25, int_25, str_25, bool_25, ptr_25, map_25, pl_25, und_75, agg_75, sz_75, by_75, zero_75, elem_75, arr_75, int_75, str_75, bool_75, ptr_75, map_75, pl_75, notIf, isEq, h1, h2, h3, h4, h5, h6, h7, h8, h9, h10, h11, q1, q2, q3, q4, q5, q6, q7, q8]
  simp only [retQ, retE, RetOK, objPairs, resPairs, cellPairs, objCells, retRen, retMem, exitMem, exitVals, resAt, entryMem, cellsAt, AMds, AMd, CMd, keys, List.append_nil, List.nil_append, List.cons_append, List.map_cons, List.map_nil, List.nodup_cons, List.mem_cons, List.not_mem_nil, or_false, not_false_eq_true, List.nodup_nil, get_mk, mem_mk, look_nil, look_cons, Option.isSome_some, Option.isSome_none, and_self, and_true, true_and, ↓reduceIte, Nat.reduceEqDiff, Nat.reduceAdd, Nat.reduceMul, Option.getD_some, inObj, inRow, outName, outCell, forall_eq_or_imp, forall_eq, implies_true, Nat.reduceBEq, reduceCtorEq, Bool.false_eq_true, andThen_some, andThen_none, Nat.zero_add, List.length_nil, List.length_cons, false_implies, List.length_append, loadE, run_ask, run_ret, run_fail, obind_some, obind_none, List.zip_cons_cons, List.zip_nil_left, List.zip_nil_right, AMd.AMp, List.take, List.drop, List.getElem?_cons_zero, List.getElem?_cons_succ, Nat.reduceLeDiff, Nat.zero_le, List.forall_mem_nil, rs_11]

end Go.Proofs.Ytacglboiodolkaa.AM
