/-
  SHA: words of octets, octets of words.
-/
import Derived.Test.YtjdokoldiemobaaSh2
set_option linter.unusedVariables false
set_option linter.unusedSimpArgs false
namespace Go.Proofs.Ytjdokoldiemobaa.AM
open Go

variable {Γ : FuncId → Contract}

/-- So much of a word of four octets. -/
def wordTo (b : List UInt8) (at_ : Int) : Nat → W32
  | 0 => 0
  | i + 1 => (wordTo b at_ i <<< 8) ||| (if 0 ≤ at_ ∧ at_ < (b.length : Int) - (i : Int) then bw (b.getD (at_.toNat + i) 0) else 0)
def wordS (b : List UInt8) (at_ : Int) : W32 := wordTo b at_ 4

noncomputable def wordC : Contract := mkC (α := List UInt8 × Int) (fun p => p.1.length ≤ 9223372036854775807) (fun p => [.c (.sl (bytes p.1)), .c (.int .i64 p.2)]) (fun _ => []) (fun p => ⟨[.pv (.c (wC (wordS p.1 p.2)))], []⟩)
theorem word_at (b : List UInt8) (n : Int) (h : b.length ≤ 9223372036854775807) : wordC [.c (.sl (bytes b)), .c (.int .i64 n)] [] = some ⟨[.pv (.c (wC (wordS b n)))], []⟩ :=
  mkC_at (α := List UInt8 × Int) (b, n) h (by
    rintro ⟨y, m⟩ _ h _
    simp only [List.cons.injEq, AV.c.injEq, PC.int.injEq, PC.sl.injEq, true_and, and_true] at h
    obtain ⟨e1, e2⟩ := h
    obtain rfl := bytes_inj e1
    obtain rfl := e2
    rfl)

theorem or0 (x : W32) : x ||| 0 = x := by simp

set_option maxHeartbeats 8000000 in
theorem word_sound : SoundC Try.prog 188 wordC := by
  refine sound_fn Try.func188 (by kernel_rfl) rfl rfl ?_
  intro args objs r hr
  obtain ⟨⟨b, n⟩, hl, rfl, rfl, rfl⟩ := mkC_inv hr
  refine ⟨rfl, by show 2 ≤ _; decide, fun E hN hns hF => ?_⟩
  refine vc_sound none0_sound mixed _ _ _ ?_
  have hN := hN.trans nt_188
  dsimp only at hl ⊢
  simp only [runA, ncE, faE, fieldE, extE, cloE, bsE, idxE, okE, okM, entryT, entryMem, cellsAt, List.append_nil, List.nil_append, List.cons_append, loadE, storeE, isSh, intOp, AV.flat, Option.map_some, Option.map_none, ↓reduceIte, Nat.reduceLT, Nat.reduceLeDiff, Nat.reduceEqDiff, Nat.reduceAdd, Nat.reduceMul, Nat.reduceSub, decide_true, decide_false, Option.getD_some, Option.getD_none, objName, rowName, resName, resCell, inObj, inRow, outName, outCell, EP.bind, List.getElem?_cons_zero, List.getElem?_cons_succ, List.length_cons, List.length_nil, List.map_cons, List.map_nil, cndE, reduceCtorEq, and_self, and_true, true_and, List.all_cons, List.all_nil, AV.scal, Bool.and_self, Bool.and_true, putAt, List.take, List.drop, Option.bind_some, Option.bind_none, Bool.false_eq_true, callE, argsE, AV.pure?, AV.toPC, toPCs, objsE, cellsE, resAt, backObjs, backCells, freeE, keys, exitMem, shapeOf, oneE, List.nodup_cons, List.mem_cons, List.not_mem_nil, or_false, not_false_eq_true, List.nodup_nil, ext, Nat.reduceBEq, builtinE, lenE, AV.rows, appendE, addedE, newRowE, newObjE, strz, mm, buildE, fillE, chunks, List.replicate, List.flatten, guardE, cndQ, List.getElem?_toArray, List.flatMap, List.flatten_cons, List.flatten_nil, Int.reduceLT, Int.reduceLE, Int.reduceToNat, Option.map, Nat.zero_add, Nat.mul_one, Nat.one_mul, Nat.zero_le, Nat.add_zero, List.length_append, beq_true, beq_false, Bool.not_true, Bool.not_false, strOp, beq_self_eq_true, Int.toNat_natCast, indexE, Int.natCast_nonneg, mkE, newMslE, Bool.or_false, Bool.or_true, Bool.false_or, Bool.true_or, look2, denil, List.append_eq, once, without, convO, w_add, w_and, w_or, w_xor, w_xorF, w_not, w_shl8, w_shl16, w_shl24, w_shr3, w_shr8, w_shr10, w_shr16, w_shr24, b_add, b_sub, b_mul, b_quo, b_rem, b_and, b_or, b_xor, b_andNot, b_eql, b_neq, b_lss, b_leq, b_gtr, b_geq, b_str, b_bool, u_neg, u_not, c_bw, c_wb, cellsW_length, cellsW_pure, cellsW_all, cellsE_W, backCells_W, cellsAt_W, cellPairs_W, cellsW_toPCs, cellsW_map, hN, hF, ty_3, ty_5, ty_49, ty_175, notIf, isEq]
  refine AWP.loop (fun c s => ∃ i : Nat, i ≤ 4 ∧ c = 4 - i ∧ s = ⟨[(0, .c (.sl (bytes b))), (1, .c (.int .i64 n)), (5, .c (wC (wordTo b n i))), (7, .c (.int .i64 (i : Int)))], []⟩) ⟨4, _, ?w, 0, Nat.zero_le _, rfl, rfl⟩ ?r
  case w =>
    rw [hns]
    simp only [Weak, wkM, wkT, wkRen, AMd, AMds, AMd.AMp, CMd, look_cons, look_nil, get_mk, mem_mk, AS.get, AS.mem, keys, entryMem, cellsAt, List.map_nil, List.map_cons, List.not_mem_nil, List.mem_cons, or_false, false_implies, implies_true, and_true, true_and, and_self, ↓reduceIte, Nat.reduceEqDiff, Option.getD_some, Option.getD_none, Option.map_some, Option.map_none, Option.isSome_some, Option.isSome_none, forall_eq_or_imp, forall_eq, reduceCtorEq, List.append_nil, List.nil_append, List.cons_append, Nat.reduceAdd, Nat.reduceMul, inObj, inRow]
    first | done | exact ⟨rfl, rfl⟩ | rfl
  case r =>
    rintro c s ⟨i, hi, rfl, rfl⟩
    refine vc_sound none0_sound mixed _ _ _ ?_
    by_cases hlt : i < 4
    · have h1 : decide ((i : Int) < 4) = true := by simp; omega
      have e1 : IntKind.i64.wrap ((i : Int) + 1) = (i : Int) + 1 := wrapI (by omega)
      have e2 : IntKind.i64.wrap ((b.length : Int) - (i : Int)) = (b.length : Int) - (i : Int) := wrapI (by omega)
      by_cases h0 : 0 ≤ n
      · have g0 : decide (n ≥ 0) = true := by simpa using h0
        by_cases hin : n < (b.length : Int) - (i : Int)
        · have g1 : decide (n < (b.length : Int) - (i : Int)) = true := by simpa using hin
          have e3 : IntKind.i64.wrap (n + (i : Int)) = n + (i : Int) := wrapI (by omega)
          have e4 : 0 ≤ n + (i : Int) := by omega
          have hnl : n.toNat + i < b.length := by omega
          have e5 : (n + (i : Int)).toNat = n.toNat + i := by omega
          have hb : (bytes b)[n.toNat + i]? = some [PC.int .u8 ((b.getD (n.toNat + i) 0).toNat : Int)] := by simp [bytes, hnl]
          have hw : wordTo b n i <<< 8 ||| bw (b.getD (n.toNat + i) 0) = wordTo b n (i + 1) := by
            show _ = (wordTo b n i <<< 8) ||| _
            rw [if_pos ⟨h0, hin⟩]
          simp only [runA, ncE, faE, fieldE, extE, cloE, bsE, idxE, okE, okM, entryT, entryMem, cellsAt, List.append_nil, List.nil_append, List.cons_append, loadE, storeE, isSh, intOp, AV.flat, Option.map_some, Option.map_none, ↓reduceIte, Nat.reduceLT, Nat.reduceLeDiff, Nat.reduceEqDiff, Nat.reduceAdd, Nat.reduceMul, Nat.reduceSub, decide_true, decide_false, Option.getD_some, Option.getD_none, objName, rowName, resName, resCell, inObj, inRow, outName, outCell, EP.bind, List.getElem?_cons_zero, List.getElem?_cons_succ, List.length_cons, List.length_nil, List.map_cons, List.map_nil, cndE, reduceCtorEq, and_self, and_true, true_and, List.all_cons, List.all_nil, AV.scal, Bool.and_self, Bool.and_true, putAt, List.take, List.drop, Option.bind_some, Option.bind_none, Bool.false_eq_true, callE, argsE, AV.pure?, AV.toPC, toPCs, objsE, cellsE, resAt, backObjs, backCells, freeE, keys, exitMem, shapeOf, oneE, List.nodup_cons, List.mem_cons, List.not_mem_nil, or_false, not_false_eq_true, List.nodup_nil, ext, Nat.reduceBEq, builtinE, lenE, AV.rows, appendE, addedE, newRowE, newObjE, strz, mm, buildE, fillE, chunks, List.replicate, List.flatten, guardE, cndQ, List.getElem?_toArray, List.flatMap, List.flatten_cons, List.flatten_nil, Int.reduceLT, Int.reduceLE, Int.reduceToNat, Option.map, Nat.zero_add, Nat.mul_one, Nat.one_mul, Nat.zero_le, Nat.add_zero, List.length_append, beq_true, beq_false, Bool.not_true, Bool.not_false, strOp, beq_self_eq_true, Int.toNat_natCast, indexE, Int.natCast_nonneg, mkE, newMslE, Bool.or_false, Bool.or_true, Bool.false_or, Bool.true_or, look2, denil, List.append_eq, once, without, convO, w_add, w_and, w_or, w_xor, w_xorF, w_not, w_shl8, w_shl16, w_shl24, w_shr3, w_shr8, w_shr10, w_shr16, w_shr24, b_add, b_sub, b_mul, b_quo, b_rem, b_and, b_or, b_xor, b_andNot, b_eql, b_neq, b_lss, b_leq, b_gtr, b_geq, b_str, b_bool, u_neg, u_not, c_bw, c_wb, cellsW_length, cellsW_pure, cellsW_all, cellsE_W, backCells_W, cellsAt_W, cellPairs_W, cellsW_toPCs, cellsW_map, hN, hF, ty_3, ty_5, ty_49, ty_175, notIf, isEq, intOp, h1, e1, e2, e3, e4, e5, g0, g1, hb, hw, bytes_length]
          refine ⟨4 - (i + 1), _, by omega, ?_, i + 1, by omega, rfl, rfl⟩
          rw [hns]
          simp only [Weak, wkM, wkT, wkRen, AMd, AMds, AMd.AMp, CMd, look_cons, look_nil, get_mk, mem_mk, AS.get, AS.mem, keys, entryMem, cellsAt, List.map_nil, List.map_cons, List.not_mem_nil, List.mem_cons, or_false, false_implies, implies_true, and_true, true_and, and_self, ↓reduceIte, Nat.reduceEqDiff, Option.getD_some, Option.getD_none, Option.map_some, Option.map_none, Option.isSome_some, Option.isSome_none, forall_eq_or_imp, forall_eq, reduceCtorEq, List.append_nil, List.nil_append, List.cons_append, Nat.reduceAdd, Nat.reduceMul, inObj, inRow]
          first | done | simp
        · have g1 : decide (n < (b.length : Int) - (i : Int)) = false := by simp; omega
          have hw : wordTo b n i <<< 8 = wordTo b n (i + 1) := by
            show _ = (wordTo b n i <<< 8) ||| _
            rw [if_neg (fun h => hin h.2), or0]
          simp only [runA, ncE, faE, fieldE, extE, cloE, bsE, idxE, okE, okM, entryT, entryMem, cellsAt, List.append_nil, List.nil_append, List.cons_append, loadE, storeE, isSh, intOp, AV.flat, Option.map_some, Option.map_none, ↓reduceIte, Nat.reduceLT, Nat.reduceLeDiff, Nat.reduceEqDiff, Nat.reduceAdd, Nat.reduceMul, Nat.reduceSub, decide_true, decide_false, Option.getD_some, Option.getD_none, objName, rowName, resName, resCell, inObj, inRow, outName, outCell, EP.bind, List.getElem?_cons_zero, List.getElem?_cons_succ, List.length_cons, List.length_nil, List.map_cons, List.map_nil, cndE, reduceCtorEq, and_self, and_true, true_and, List.all_cons, List.all_nil, AV.scal, Bool.and_self, Bool.and_true, putAt, List.take, List.drop, Option.bind_some, Option.bind_none, Bool.false_eq_true, callE, argsE, AV.pure?, AV.toPC, toPCs, objsE, cellsE, resAt, backObjs, backCells, freeE, keys, exitMem, shapeOf, oneE, List.nodup_cons, List.mem_cons, List.not_mem_nil, or_false, not_false_eq_true, List.nodup_nil, ext, Nat.reduceBEq, builtinE, lenE, AV.rows, appendE, addedE, newRowE, newObjE, strz, mm, buildE, fillE, chunks, List.replicate, List.flatten, guardE, cndQ, List.getElem?_toArray, List.flatMap, List.flatten_cons, List.flatten_nil, Int.reduceLT, Int.reduceLE, Int.reduceToNat, Option.map, Nat.zero_add, Nat.mul_one, Nat.one_mul, Nat.zero_le, Nat.add_zero, List.length_append, beq_true, beq_false, Bool.not_true, Bool.not_false, strOp, beq_self_eq_true, Int.toNat_natCast, indexE, Int.natCast_nonneg, mkE, newMslE, Bool.or_false, Bool.or_true, Bool.false_or, Bool.true_or, look2, denil, List.append_eq, once, without, convO, w_add, w_and, w_or, w_xor, w_xorF, w_not, w_shl8, w_shl16, w_shl24, w_shr3, w_shr8, w_shr10, w_shr16, w_shr24, b_add, b_sub, b_mul, b_quo, b_rem, b_and, b_or, b_xor, b_andNot, b_eql, b_neq, b_lss, b_leq, b_gtr, b_geq, b_str, b_bool, u_neg, u_not, c_bw, c_wb, cellsW_length, cellsW_pure, cellsW_all, cellsE_W, backCells_W, cellsAt_W, cellPairs_W, cellsW_toPCs, cellsW_map, hN, hF, ty_3, ty_5, ty_49, ty_175, notIf, isEq, intOp, h1, e1, e2, g0, g1, hw, bytes_length]
          refine ⟨4 - (i + 1), _, by omega, ?_, i + 1, by omega, rfl, rfl⟩
          rw [hns]
          simp only [Weak, wkM, wkT, wkRen, AMd, AMds, AMd.AMp, CMd, look_cons, look_nil, get_mk, mem_mk, AS.get, AS.mem, keys, entryMem, cellsAt, List.map_nil, List.map_cons, List.not_mem_nil, List.mem_cons, or_false, false_implies, implies_true, and_true, true_and, and_self, ↓reduceIte, Nat.reduceEqDiff, Option.getD_some, Option.getD_none, Option.map_some, Option.map_none, Option.isSome_some, Option.isSome_none, forall_eq_or_imp, forall_eq, reduceCtorEq, List.append_nil, List.nil_append, List.cons_append, Nat.reduceAdd, Nat.reduceMul, inObj, inRow]
          first | done | simp
      · have g0 : decide (n ≥ 0) = false := by simp; omega
        have hw : wordTo b n i <<< 8 = wordTo b n (i + 1) := by
          show _ = (wordTo b n i <<< 8) ||| _
          rw [if_neg (fun h => h0 h.1), or0]
        simp only [runA, ncE, faE, fieldE, extE, cloE, bsE, idxE, okE, okM, entryT, entryMem, cellsAt, List.append_nil, List.nil_append, List.cons_append, loadE, storeE, isSh, intOp, AV.flat, Option.map_some, Option.map_none, ↓reduceIte, Nat.reduceLT, Nat.reduceLeDiff, Nat.reduceEqDiff, Nat.reduceAdd, Nat.reduceMul, Nat.reduceSub, decide_true, decide_false, Option.getD_some, Option.getD_none, objName, rowName, resName, resCell, inObj, inRow, outName, outCell, EP.bind, List.getElem?_cons_zero, List.getElem?_cons_succ, List.length_cons, List.length_nil, List.map_cons, List.map_nil, cndE, reduceCtorEq, and_self, and_true, true_and, List.all_cons, List.all_nil, AV.scal, Bool.and_self, Bool.and_true, putAt, List.take, List.drop, Option.bind_some, Option.bind_none, Bool.false_eq_true, callE, argsE, AV.pure?, AV.toPC, toPCs, objsE, cellsE, resAt, backObjs, backCells, freeE, keys, exitMem, shapeOf, oneE, List.nodup_cons, List.mem_cons, List.not_mem_nil, or_false, not_false_eq_true, List.nodup_nil, ext, Nat.reduceBEq, builtinE, lenE, AV.rows, appendE, addedE, newRowE, newObjE, strz, mm, buildE, fillE, chunks, List.replicate, List.flatten, guardE, cndQ, List.getElem?_toArray, List.flatMap, List.flatten_cons, List.flatten_nil, Int.reduceLT, Int.reduceLE, Int.reduceToNat, Option.map, Nat.zero_add, Nat.mul_one, Nat.one_mul, Nat.zero_le, Nat.add_zero, List.length_append, beq_true, beq_false, Bool.not_true, Bool.not_false, strOp, beq_self_eq_true, Int.toNat_natCast, indexE, Int.natCast_nonneg, mkE, newMslE, Bool.or_false, Bool.or_true, Bool.false_or, Bool.true_or, look2, denil, List.append_eq, once, without, convO, w_add, w_and, w_or, w_xor, w_xorF, w_not, w_shl8, w_shl16, w_shl24, w_shr3, w_shr8, w_shr10, w_shr16, w_shr24, b_add, b_sub, b_mul, b_quo, b_rem, b_and, b_or, b_xor, b_andNot, b_eql, b_neq, b_lss, b_leq, b_gtr, b_geq, b_str, b_bool, u_neg, u_not, c_bw, c_wb, cellsW_length, cellsW_pure, cellsW_all, cellsE_W, backCells_W, cellsAt_W, cellPairs_W, cellsW_toPCs, cellsW_map, hN, hF, ty_3, ty_5, ty_49, ty_175, notIf, isEq, intOp, h1, e1, e2, g0, hw, bytes_length]
        refine ⟨4 - (i + 1), _, by omega, ?_, i + 1, by omega, rfl, rfl⟩
        rw [hns]
        simp only [Weak, wkM, wkT, wkRen, AMd, AMds, AMd.AMp, CMd, look_cons, look_nil, get_mk, mem_mk, AS.get, AS.mem, keys, entryMem, cellsAt, List.map_nil, List.map_cons, List.not_mem_nil, List.mem_cons, or_false, false_implies, implies_true, and_true, true_and, and_self, ↓reduceIte, Nat.reduceEqDiff, Option.getD_some, Option.getD_none, Option.map_some, Option.map_none, Option.isSome_some, Option.isSome_none, forall_eq_or_imp, forall_eq, reduceCtorEq, List.append_nil, List.nil_append, List.cons_append, Nat.reduceAdd, Nat.reduceMul, inObj, inRow]
        first | done | simp
    · have h1 : decide ((i : Int) < 4) = false := by simp; omega
      obtain rfl : i = 4 := by omega
      simp only [runA, ncE, faE, fieldE, extE, cloE, bsE, idxE, okE, okM, entryT, entryMem, cellsAt, List.append_nil, List.nil_append, List.cons_append, loadE, storeE, isSh, intOp, AV.flat, Option.map_some, Option.map_none, ↓reduceIte, Nat.reduceLT, Nat.reduceLeDiff, Nat.reduceEqDiff, Nat.reduceAdd, Nat.reduceMul, Nat.reduceSub, decide_true, decide_false, Option.getD_some, Option.getD_none, objName, rowName, resName, resCell, inObj, inRow, outName, outCell, EP.bind, List.getElem?_cons_zero, List.getElem?_cons_succ, List.length_cons, List.length_nil, List.map_cons, List.map_nil, cndE, reduceCtorEq, and_self, and_true, true_and, List.all_cons, List.all_nil, AV.scal, Bool.and_self, Bool.and_true, putAt, List.take, List.drop, Option.bind_some, Option.bind_none, Bool.false_eq_true, callE, argsE, AV.pure?, AV.toPC, toPCs, objsE, cellsE, resAt, backObjs, backCells, freeE, keys, exitMem, shapeOf, oneE, List.nodup_cons, List.mem_cons, List.not_mem_nil, or_false, not_false_eq_true, List.nodup_nil, ext, Nat.reduceBEq, builtinE, lenE, AV.rows, appendE, addedE, newRowE, newObjE, strz, mm, buildE, fillE, chunks, List.replicate, List.flatten, guardE, cndQ, List.getElem?_toArray, List.flatMap, List.flatten_cons, List.flatten_nil, Int.reduceLT, Int.reduceLE, Int.reduceToNat, Option.map, Nat.zero_add, Nat.mul_one, Nat.one_mul, Nat.zero_le, Nat.add_zero, List.length_append, beq_true, beq_false, Bool.not_true, Bool.not_false, strOp, beq_self_eq_true, Int.toNat_natCast, indexE, Int.natCast_nonneg, mkE, newMslE, Bool.or_false, Bool.or_true, Bool.false_or, Bool.true_or, look2, denil, List.append_eq, once, without, convO, w_add, w_and, w_or, w_xor, w_xorF, w_not, w_shl8, w_shl16, w_shl24, w_shr3, w_shr8, w_shr10, w_shr16, w_shr24, b_add, b_sub, b_mul, b_quo, b_rem, b_and, b_or, b_xor, b_andNot, b_eql, b_neq, b_lss, b_leq, b_gtr, b_geq, b_str, b_bool, u_neg, u_not, c_bw, c_wb, cellsW_length, cellsW_pure, cellsW_all, cellsE_W, backCells_W, cellsAt_W, cellPairs_W, cellsW_toPCs, cellsW_map, hN, hF, ty_3, ty_5, ty_49, ty_175, notIf, isEq, intOp, h1]
      simp only [retQ, retE, RetOK, objPairs, resPairs, cellPairs, objCells, retRen, retMem, exitMem, exitVals, resAt, entryMem, cellsAt, AMds, AMd, CMd, keys, List.append_nil, List.nil_append, List.cons_append, List.map_cons, List.map_nil, List.nodup_cons, List.mem_cons, List.not_mem_nil, or_false, not_false_eq_true, List.nodup_nil, get_mk, mem_mk, look_nil, look_cons, Option.isSome_some, Option.isSome_none, and_self, and_true, true_and, ↓reduceIte, Nat.reduceEqDiff, Nat.reduceAdd, Nat.reduceMul, Option.getD_some, inObj, inRow, outName, outCell, forall_eq_or_imp, forall_eq, implies_true, Nat.reduceBEq, reduceCtorEq, Bool.false_eq_true, andThen_some, andThen_none, Nat.zero_add, List.length_nil, List.length_cons, false_implies, List.length_append, loadE, run_ask, run_ret, run_fail, obind_some, obind_none, List.zip_cons_cons, List.zip_nil_left, List.zip_nil_right, AMd.AMp, List.take, List.drop, List.getElem?_cons_zero, List.getElem?_cons_succ, Nat.reduceLeDiff, Nat.zero_le, List.forall_mem_nil, rs_188, wordS]

/-- Words' octets. -/
def octs (x : W32) : List UInt8 := [wb (x >>> 24), wb (x >>> 16), wb (x >>> 8), wb x]
def octsOf (l : List W32) : List UInt8 := l.flatMap octs
noncomputable def wordsC : Contract := mkC (α := List W32) (fun l => l.length ≤ 1000000) (fun l => [.msl (inObj 0) 0 l.length true]) (fun l => [ovW l]) (fun l => ⟨[.fresh 1 (bytes (octsOf l))], [ovW l]⟩)
theorem words_at (l : List W32) (n : Nat) (hn : n = l.length) (h : l.length ≤ 1000000) : wordsC [.msl (inObj 0) 0 n true] [ovW l] = some ⟨[.fresh 1 (bytes (octsOf l))], [ovW l]⟩ := by
  subst hn
  exact mkC_at (α := List W32) l h (by
    rintro y _ _ h
    simp at h
    rw [ovW_inj h])

theorem octs_rows (x : W32) : [[PC.int .u8 ((wb (x >>> 24)).toNat : Int)], [PC.int .u8 ((wb (x >>> 16)).toNat : Int)], [PC.int .u8 ((wb (x >>> 8)).toNat : Int)], [PC.int .u8 ((wb x).toNat : Int)]] = bytes (octs x) := rfl
theorem octsOf_succ {l : List W32} {i : Nat} {x : W32} (h : l[i]? = some x) : octsOf (l.take (i + 1)) = octsOf (l.take i) ++ octs x := by
  unfold octsOf
  rw [List.take_add_one, h]
  simp
theorem octsOf_length (l : List W32) : (octsOf l).length = 4 * l.length := by
  induction l with
  | nil => rfl
  | cons x l ih => simp [octsOf, octs] at ih ⊢; omega

set_option maxHeartbeats 8000000 in
theorem words_sound : SoundC Try.prog 158 wordsC := by
  refine sound_fn Try.func158 (by kernel_rfl) rfl rfl ?_
  intro args objs r hr
  obtain ⟨l, hl, rfl, rfl, rfl⟩ := mkC_inv hr
  refine ⟨rfl, by show 1 ≤ _; decide, fun E hN hns hF => ?_⟩
  refine vc_sound none0_sound mixed _ _ _ ?_
  have hN := hN.trans nt_158
  have e1 : IntKind.i64.wrap (4 * (l.length : Int)) = 4 * (l.length : Int) := wrapI (by omega)
  have e2 : (0 : Int) ≤ 4 * (l.length : Int) := by omega
  have e3 : 4 * (l.length : Int) ≤ 9223372036854775807 := by omega
  have e4 : 4 * (l.length : Int) * ((1 : Nat) : Int) ≤ 140737488355328 := by omega
  simp only [runA, ncE, faE, fieldE, extE, cloE, bsE, idxE, okE, okM, entryT, entryMem, cellsAt, List.append_nil, List.nil_append, List.cons_append, loadE, storeE, isSh, intOp, AV.flat, Option.map_some, Option.map_none, ↓reduceIte, Nat.reduceLT, Nat.reduceLeDiff, Nat.reduceEqDiff, Nat.reduceAdd, Nat.reduceMul, Nat.reduceSub, decide_true, decide_false, Option.getD_some, Option.getD_none, objName, rowName, resName, resCell, inObj, inRow, outName, outCell, EP.bind, List.getElem?_cons_zero, List.getElem?_cons_succ, List.length_cons, List.length_nil, List.map_cons, List.map_nil, cndE, reduceCtorEq, and_self, and_true, true_and, List.all_cons, List.all_nil, AV.scal, Bool.and_self, Bool.and_true, putAt, List.take, List.drop, Option.bind_some, Option.bind_none, Bool.false_eq_true, callE, argsE, AV.pure?, AV.toPC, toPCs, objsE, cellsE, resAt, backObjs, backCells, freeE, keys, exitMem, shapeOf, oneE, List.nodup_cons, List.mem_cons, List.not_mem_nil, or_false, not_false_eq_true, List.nodup_nil, ext, Nat.reduceBEq, builtinE, lenE, AV.rows, appendE, addedE, newRowE, newObjE, strz, mm, buildE, fillE, chunks, List.replicate, List.flatten, guardE, cndQ, List.getElem?_toArray, List.flatMap, List.flatten_cons, List.flatten_nil, Int.reduceLT, Int.reduceLE, Int.reduceToNat, Option.map, Nat.zero_add, Nat.mul_one, Nat.one_mul, Nat.zero_le, Nat.add_zero, List.length_append, beq_true, beq_false, Bool.not_true, Bool.not_false, strOp, beq_self_eq_true, Int.toNat_natCast, indexE, Int.natCast_nonneg, mkE, newMslE, Bool.or_false, Bool.or_true, Bool.false_or, Bool.true_or, look2, denil, List.append_eq, once, without, convO, w_add, w_and, w_or, w_xor, w_xorF, w_not, w_shl8, w_shl16, w_shl24, w_shr3, w_shr8, w_shr10, w_shr16, w_shr24, b_add, b_sub, b_mul, b_quo, b_rem, b_and, b_or, b_xor, b_andNot, b_eql, b_neq, b_lss, b_leq, b_gtr, b_geq, b_str, b_bool, u_neg, u_not, c_bw, c_wb, cellsW_length, cellsW_pure, cellsW_all, cellsE_W, backCells_W, cellsAt_W, cellPairs_W, cellsW_toPCs, cellsW_map, hN, hF, ty_3, ty_5, ty_49, ty_175, ty_198, notIf, isEq, intOp, e1, e2, e3, e4, Int.le_refl]
  refine AWP.loop (fun c s => ∃ i : Nat, i ≤ l.length ∧ c = l.length - i ∧ s = ⟨[(3, .own 577 1 (bytes (octsOf (l.take i)))), (10, .msl 6400000 0 l.length true), (11, .c (.int .i64 (l.length : Int))), (12, .c (.int .i64 (i : Int)))], [(577, .row 1 (octsOf (l.take i)).length), (6400000, .obj (cellsW l) false)]⟩) ⟨l.length, _, ?w, 0, Nat.zero_le _, rfl, rfl⟩ ?r
  case w =>
    rw [hns]
    simp only [Weak, wkM, wkT, wkRen, AMd, AMds, AMd.AMp, CMd, look_cons, look_nil, get_mk, mem_mk, AS.get, AS.mem, keys, entryMem, cellsAt, List.map_nil, List.map_cons, List.not_mem_nil, List.mem_cons, or_false, false_implies, implies_true, and_true, true_and, and_self, ↓reduceIte, Nat.reduceEqDiff, Option.getD_some, Option.getD_none, Option.map_some, Option.map_none, Option.isSome_some, Option.isSome_none, forall_eq_or_imp, forall_eq, reduceCtorEq, List.append_nil, List.nil_append, List.cons_append, Nat.reduceAdd, Nat.reduceMul, inObj, inRow, cellsAt_W, cellsW_amds]
    simp [octsOf, bytes]
  case r =>
    rintro c s ⟨i, hi, rfl, rfl⟩
    refine vc_sound none0_sound mixed _ _ _ ?_
    by_cases hlt : i < l.length
    · have h1 : decide ((i : Int) < (l.length : Int)) = true := by simpa using hlt
      have h2 : (i : Int) < (l.length : Int) := by omega
      obtain ⟨x, hx⟩ : ∃ x, l[i]? = some x := ⟨l[i], by simp [hlt]⟩
      have hc := cellsW_get hx
      have e1 : IntKind.i64.wrap ((i : Int) + 1) = (i : Int) + 1 := wrapI (by omega)
      have hs := octsOf_succ hx
      have hlen : (octsOf (l.take i)).length + 4 ≤ 140737488355328 := by rw [octsOf_length, List.length_take]; omega
      have hz := rowsOK_bytes
      have h4 : (octs x).length = 4 := rfl
      simp only [runA, ncE, faE, fieldE, extE, cloE, bsE, idxE, okE, okM, entryT, entryMem, cellsAt, List.append_nil, List.nil_append, List.cons_append, loadE, storeE, isSh, intOp, AV.flat, Option.map_some, Option.map_none, ↓reduceIte, Nat.reduceLT, Nat.reduceLeDiff, Nat.reduceEqDiff, Nat.reduceAdd, Nat.reduceMul, Nat.reduceSub, decide_true, decide_false, Option.getD_some, Option.getD_none, objName, rowName, resName, resCell, inObj, inRow, outName, outCell, EP.bind, List.getElem?_cons_zero, List.getElem?_cons_succ, List.length_cons, List.length_nil, List.map_cons, List.map_nil, cndE, reduceCtorEq, and_self, and_true, true_and, List.all_cons, List.all_nil, AV.scal, Bool.and_self, Bool.and_true, putAt, List.take, List.drop, Option.bind_some, Option.bind_none, Bool.false_eq_true, callE, argsE, AV.pure?, AV.toPC, toPCs, objsE, cellsE, resAt, backObjs, backCells, freeE, keys, exitMem, shapeOf, oneE, List.nodup_cons, List.mem_cons, List.not_mem_nil, or_false, not_false_eq_true, List.nodup_nil, ext, Nat.reduceBEq, builtinE, lenE, AV.rows, appendE, addedE, newRowE, newObjE, strz, mm, buildE, fillE, chunks, List.replicate, List.flatten, guardE, cndQ, List.getElem?_toArray, List.flatMap, List.flatten_cons, List.flatten_nil, Int.reduceLT, Int.reduceLE, Int.reduceToNat, Option.map, Nat.zero_add, Nat.mul_one, Nat.one_mul, Nat.zero_le, Nat.add_zero, List.length_append, beq_true, beq_false, Bool.not_true, Bool.not_false, strOp, beq_self_eq_true, Int.toNat_natCast, indexE, Int.natCast_nonneg, mkE, newMslE, Bool.or_false, Bool.or_true, Bool.false_or, Bool.true_or, look2, denil, List.append_eq, once, without, convO, w_add, w_and, w_or, w_xor, w_xorF, w_not, w_shl8, w_shl16, w_shl24, w_shr3, w_shr8, w_shr10, w_shr16, w_shr24, b_add, b_sub, b_mul, b_quo, b_rem, b_and, b_or, b_xor, b_andNot, b_eql, b_neq, b_lss, b_leq, b_gtr, b_geq, b_str, b_bool, u_neg, u_not, c_bw, c_wb, cellsW_length, cellsW_pure, cellsW_all, cellsE_W, backCells_W, cellsAt_W, cellPairs_W, cellsW_toPCs, cellsW_map, hN, hF, ty_3, ty_5, ty_49, ty_175, ty_198, notIf, isEq, intOp, h1, h2, hc, e1, octs_rows, hz, hlen, h4, bytes_length, bytes_app, ← hs]
      refine ⟨l.length - (i + 1), _, by omega, ?_, i + 1, by omega, rfl, rfl⟩
      rw [hns]
      simp only [Weak, wkM, wkT, wkRen, AMd, AMds, AMd.AMp, CMd, look_cons, look_nil, get_mk, mem_mk, AS.get, AS.mem, keys, entryMem, cellsAt, List.map_nil, List.map_cons, List.not_mem_nil, List.mem_cons, or_false, false_implies, implies_true, and_true, true_and, and_self, ↓reduceIte, Nat.reduceEqDiff, Option.getD_some, Option.getD_none, Option.map_some, Option.map_none, Option.isSome_some, Option.isSome_none, forall_eq_or_imp, forall_eq, reduceCtorEq, List.append_nil, List.nil_append, List.cons_append, Nat.reduceAdd, Nat.reduceMul, inObj, inRow, cellsAt_W, cellsW_amds]
      first | done | (rw [hs]; simp [octs])
    · have h1 : decide ((i : Int) < (l.length : Int)) = false := by simpa using hlt
      obtain rfl : i = l.length := by omega
      simp only [runA, ncE, faE, fieldE, extE, cloE, bsE, idxE, okE, okM, entryT, entryMem, cellsAt, List.append_nil, List.nil_append, List.cons_append, loadE, storeE, isSh, intOp, AV.flat, Option.map_some, Option.map_none, ↓reduceIte, Nat.reduceLT, Nat.reduceLeDiff, Nat.reduceEqDiff, Nat.reduceAdd, Nat.reduceMul, Nat.reduceSub, decide_true, decide_false, Option.getD_some, Option.getD_none, objName, rowName, resName, resCell, inObj, inRow, outName, outCell, EP.bind, List.getElem?_cons_zero, List.getElem?_cons_succ, List.length_cons, List.length_nil, List.map_cons, List.map_nil, cndE, reduceCtorEq, and_self, and_true, true_and, List.all_cons, List.all_nil, AV.scal, Bool.and_self, Bool.and_true, putAt, List.take, List.drop, Option.bind_some, Option.bind_none, Bool.false_eq_true, callE, argsE, AV.pure?, AV.toPC, toPCs, objsE, cellsE, resAt, backObjs, backCells, freeE, keys, exitMem, shapeOf, oneE, List.nodup_cons, List.mem_cons, List.not_mem_nil, or_false, not_false_eq_true, List.nodup_nil, ext, Nat.reduceBEq, builtinE, lenE, AV.rows, appendE, addedE, newRowE, newObjE, strz, mm, buildE, fillE, chunks, List.replicate, List.flatten, guardE, cndQ, List.getElem?_toArray, List.flatMap, List.flatten_cons, List.flatten_nil, Int.reduceLT, Int.reduceLE, Int.reduceToNat, Option.map, Nat.zero_add, Nat.mul_one, Nat.one_mul, Nat.zero_le, Nat.add_zero, List.length_append, beq_true, beq_false, Bool.not_true, Bool.not_false, strOp, beq_self_eq_true, Int.toNat_natCast, indexE, Int.natCast_nonneg, mkE, newMslE, Bool.or_false, Bool.or_true, Bool.false_or, Bool.true_or, look2, denil, List.append_eq, once, without, convO, w_add, w_and, w_or, w_xor, w_xorF, w_not, w_shl8, w_shl16, w_shl24, w_shr3, w_shr8, w_shr10, w_shr16, w_shr24, b_add, b_sub, b_mul, b_quo, b_rem, b_and, b_or, b_xor, b_andNot, b_eql, b_neq, b_lss, b_leq, b_gtr, b_geq, b_str, b_bool, u_neg, u_not, c_bw, c_wb, cellsW_length, cellsW_pure, cellsW_all, cellsE_W, backCells_W, cellsAt_W, cellPairs_W, cellsW_toPCs, cellsW_map, hN, hF, ty_3, ty_5, ty_49, ty_175, ty_198, notIf, isEq, intOp, h1]
      simp only [retQ, retE, RetOK, objPairs, resPairs, cellPairs, objCells, retRen, retMem, exitMem, exitVals, resAt, entryMem, cellsAt, AMds, AMd, CMd, keys, List.append_nil, List.nil_append, List.cons_append, List.map_cons, List.map_nil, List.nodup_cons, List.mem_cons, List.not_mem_nil, or_false, not_false_eq_true, List.nodup_nil, get_mk, mem_mk, look_nil, look_cons, Option.isSome_some, Option.isSome_none, and_self, and_true, true_and, ↓reduceIte, Nat.reduceEqDiff, Nat.reduceAdd, Nat.reduceMul, Option.getD_some, inObj, inRow, outName, outCell, forall_eq_or_imp, forall_eq, implies_true, Nat.reduceBEq, reduceCtorEq, Bool.false_eq_true, andThen_some, andThen_none, Nat.zero_add, List.length_nil, List.length_cons, false_implies, List.length_append, loadE, run_ask, run_ret, run_fail, obind_some, obind_none, List.zip_cons_cons, List.zip_nil_left, List.zip_nil_right, AMd.AMp, List.take, List.drop, List.getElem?_cons_zero, List.getElem?_cons_succ, Nat.reduceLeDiff, Nat.zero_le, List.forall_mem_nil, rs_158, bytes_length, List.take_length, cellsAt_W, cellPairs_W, cellsW_amds]

end Go.Proofs.Ytjdokoldiemobaa.AM
