/-
  PACK: the document's own functions.
-/
import Derived.Test.YtjdokoldiemobaaPut
set_option linter.unusedVariables false
set_option linter.unusedSimpArgs false
namespace Go.Proofs.Ytjdokoldiemobaa.AM
open Go

variable {Γ : FuncId → Contract}

/-- The octets that have come when so many rounds are over. -/
def putTo (n : Int) (k i : Nat) : List UInt8 := (List.range i).map fun (j : Nat) => UInt8.ofNat ((IntKind.u64.wrap n).toNat / 256 ^ (k - 1 - j) % 256)
theorem putTo_all (n : Int) (k : Nat) (hk : k ≤ 8) : putTo n k k = putB n (k : Int) := by
  unfold putTo putB
  have : (min (max (k : Int) 0) 8).toNat = k := by omega
  rw [this]

set_option maxHeartbeats 4000000 in
theorem refPut_sound (hΓ : SoundG Try.prog Γ) : SoundC Try.prog 92 putC := by
  refine sound_fn Try.func92 (by kernel_rfl) rfl rfl ?_
  intro args objs r hr
  unfold putC at hr
  split at hr
  · rename_i n size
    split at hr
    · rename_i hs
      cases hr
      refine ⟨rfl, by show 2 ≤ _; decide, fun E hN hns hF => ?_⟩
      refine vc_sound hΓ mixed _ _ _ ?_
      have hN := hN.trans nt_92
      obtain ⟨k, hk⟩ : ∃ k : Nat, size = (k : Int) := ⟨size.toNat, by omega⟩
      subst hk
      have hk8 : k ≤ 8 := by omega
      have g1 : ¬ ((0 : Int) > (k : Int)) := by omega
      have g2 : ¬ ((8 : Int) < (k : Int)) := by omega
      simp only [runA, ncE, faE, fieldE, extE, cloE, bsE, idxE, okE, okM, entryT, entryMem, cellsAt, List.append_nil, List.nil_append, List.cons_append, loadE, storeE, binE, isSh, intOp, AV.flat, Option.map_some, Option.map_none, ↓reduceIte, Nat.reduceLT, Nat.reduceLeDiff, Nat.reduceEqDiff, Nat.reduceAdd, Nat.reduceMul, Nat.reduceSub, decide_true, decide_false, Option.getD_some, Option.getD_none, objName, rowName, resName, resCell, inObj, inRow, outName, outCell, EP.bind, List.getElem?_cons_zero, List.getElem?_cons_succ, List.length_cons, List.length_nil, List.map_cons, List.map_nil, cndE, reduceCtorEq, and_self, and_true, true_and, List.all_cons, List.all_nil, AV.scal, Bool.and_self, Bool.and_true, putAt, List.take, List.drop, Option.bind_some, Option.bind_none, Bool.false_eq_true, callE, argsE, AV.pure?, AV.toPC, toPCs, objsE, cellsE, resAt, backObjs, backCells, freeE, keys, exitMem, shapeOf, oneE, List.nodup_cons, List.mem_cons, List.not_mem_nil, or_false, not_false_eq_true, List.nodup_nil, ext, unE, Nat.reduceBEq, builtinE, lenE, AV.rows, appendE, addedE, newRowE, newObjE, strz, mm, convE, buildE, fillE, chunks, List.replicate, List.flatten, guardE, cndQ, List.getElem?_toArray, List.flatMap, List.flatten_cons, List.flatten_nil, Int.reduceLT, Int.reduceLE, Int.reduceToNat, Option.map, Nat.zero_add, Nat.mul_one, Nat.one_mul, Nat.zero_le, Nat.add_zero, List.length_append, beq_true, beq_false, Bool.not_true, Bool.not_false, strOp, beq_self_eq_true, Int.toNat_natCast, indexE, Int.natCast_nonneg, mkE, newMslE, Bool.or_false, Bool.or_true, Bool.false_or, Bool.true_or, look2, denil, List.append_eq, once, without, convO, hN, hF, ty_3, ty_5, ty_49, ty_120, ty_164, notIf, isEq, g1, g2, Bool.false_eq_true]
      refine AWP.loop (fun c s => ∃ i : Nat, i ≤ k ∧ c = k - i ∧ s = ⟨[(0, .c (.int .i64 n)), (1, .c (.int .i64 (k : Int))), (5, .own 1729 1 (bytes (putTo n k i))), (6, .c (.int .i64 (i : Int)))], [(1729, .row 1 i)]⟩) ⟨k, _, ?w, 0, Nat.zero_le _, rfl, rfl⟩ ?r
      case w =>
        rw [hns]
        simp only [Weak, wkM, wkT, wkRen, AMd, AMds, AMd.AMp, CMd, look_cons, look_nil, get_mk, mem_mk, AS.get, AS.mem, keys, entryMem, cellsAt, List.map_nil, List.map_cons, List.not_mem_nil, List.mem_cons, or_false, false_implies, implies_true, and_true, true_and, and_self, ↓reduceIte, Nat.reduceEqDiff, Option.getD_some, Option.getD_none, Option.map_some, Option.map_none, Option.isSome_some, Option.isSome_none, forall_eq_or_imp, forall_eq, reduceCtorEq, List.append_nil, List.nil_append, List.cons_append, Nat.reduceAdd, Nat.reduceMul, inObj, inRow]
        refine ⟨rfl, rfl⟩
      case r =>
        rintro c s ⟨i, hi, rfl, rfl⟩
        refine vc_sound hΓ mixed _ _ _ ?_
        by_cases hlt : i < k
        · have h1 : decide ((i : Int) < (k : Int)) = true := by simpa using hlt
          have e1 : IntKind.i64.wrap ((k : Int) - 1) = (k : Int) - 1 := wrapI (by omega)
          have e2 : IntKind.i64.wrap ((k : Int) - 1 - i) = (k : Int) - 1 - i := wrapI (by omega)
          have e3 : IntKind.i64.wrap (8 * ((k : Int) - 1 - i)) = 8 * ((k : Int) - 1 - i) := wrapI (by omega)
          have e4 : IntKind.u64.wrap (8 * ((k : Int) - 1 - i)) = 8 * ((k : Int) - 1 - i) := wrapU (by omega)
          have e5 : IntKind.i64.wrap ((i : Int) + 1) = (i : Int) + 1 := wrapI (by omega)
          have hsh : shOp .shr .u64 (IntKind.u64.wrap n) (8 * ((k : Int) - 1 - i)) = some (.int .u64 (IntKind.u64.wrap n / 256 ^ (k - 1 - i))) := by
            have hb : ¬ (8 * ((k : Int) - 1 - i) < 0) := by omega
            have hm : min (8 * ((k : Int) - 1 - i)).toNat IntKind.u64.bits = 8 * (k - 1 - i) := by
              have : IntKind.u64.bits = 64 := rfl
              omega
            simp only [shOp, if_neg hb, hm]
            rw [Int.pow_mul, show (2 : Int) ^ 8 = 256 from rfl, Int.fdiv_eq_ediv_of_nonneg _ (Int.le_of_lt (Int.pow_pos (by decide)))]
          have hz : ∀ v : Int, rowsOK 1 [[PC.int .u8 v]] := fun v r hr => by simp at hr; subst hr; rfl
          have hrow : bytes (putTo n k i) ++ [[PC.int .u8 (IntKind.u64.wrap n / 256 ^ (k - 1 - i) % 256)]] = bytes (putTo n k (i + 1)) := by
            have hU : 0 ≤ IntKind.u64.wrap n := wrap_u64_nonneg n
            rw [show putTo n k (i + 1) = putTo n k i ++ [UInt8.ofNat ((IntKind.u64.wrap n).toNat / 256 ^ (k - 1 - i) % 256)] from by simp [putTo, List.range_succ], bytes_append]
            congr 1
            simp only [bytes, List.map_cons, List.map_nil]
            rw [UInt8.toNat_ofNat_of_lt' (Nat.mod_lt _ (by decide))]
            have e : (((IntKind.u64.wrap n).toNat / 256 ^ (k - 1 - i) % 256 : Nat) : Int) = IntKind.u64.wrap n / 256 ^ (k - 1 - i) % 256 := by
              rw [Int.natCast_emod, Int.natCast_ediv, Int.natCast_pow, Int.toNat_of_nonneg hU]
              rfl
            rw [e]
          have hlen : (putTo n k i).length = i := by simp [putTo]
          have hL : i ≤ 140737488355327 := by omega
          simp only [runA, ncE, faE, fieldE, extE, cloE, bsE, idxE, okE, okM, entryT, entryMem, cellsAt, List.append_nil, List.nil_append, List.cons_append, loadE, storeE, binE, isSh, intOp, AV.flat, Option.map_some, Option.map_none, ↓reduceIte, Nat.reduceLT, Nat.reduceLeDiff, Nat.reduceEqDiff, Nat.reduceAdd, Nat.reduceMul, Nat.reduceSub, decide_true, decide_false, Option.getD_some, Option.getD_none, objName, rowName, resName, resCell, inObj, inRow, outName, outCell, EP.bind, List.getElem?_cons_zero, List.getElem?_cons_succ, List.length_cons, List.length_nil, List.map_cons, List.map_nil, cndE, reduceCtorEq, and_self, and_true, true_and, List.all_cons, List.all_nil, AV.scal, Bool.and_self, Bool.and_true, putAt, List.take, List.drop, Option.bind_some, Option.bind_none, Bool.false_eq_true, callE, argsE, AV.pure?, AV.toPC, toPCs, objsE, cellsE, resAt, backObjs, backCells, freeE, keys, exitMem, shapeOf, oneE, List.nodup_cons, List.mem_cons, List.not_mem_nil, or_false, not_false_eq_true, List.nodup_nil, ext, unE, Nat.reduceBEq, builtinE, lenE, AV.rows, appendE, addedE, newRowE, newObjE, strz, mm, convE, buildE, fillE, chunks, List.replicate, List.flatten, guardE, cndQ, List.getElem?_toArray, List.flatMap, List.flatten_cons, List.flatten_nil, Int.reduceLT, Int.reduceLE, Int.reduceToNat, Option.map, Nat.zero_add, Nat.mul_one, Nat.one_mul, Nat.zero_le, Nat.add_zero, List.length_append, beq_true, beq_false, Bool.not_true, Bool.not_false, strOp, beq_self_eq_true, Int.toNat_natCast, indexE, Int.natCast_nonneg, mkE, newMslE, Bool.or_false, Bool.or_true, Bool.false_or, Bool.true_or, look2, denil, List.append_eq, once, without, convO, hN, hF, ty_3, ty_5, ty_49, ty_120, ty_164, notIf, isEq, h1, e1, e2, e3, e4, e5, hsh, hz, wrapB, hrow, bytes_length, hlen, hL]
          refine ⟨k - (i + 1), _, by omega, ?_, i + 1, by omega, rfl, rfl⟩
          rw [hns]
          simp only [Weak, wkM, wkT, wkRen, AMd, AMds, AMd.AMp, CMd, look_cons, look_nil, get_mk, mem_mk, AS.get, AS.mem, keys, entryMem, cellsAt, List.map_nil, List.map_cons, List.not_mem_nil, List.mem_cons, or_false, false_implies, implies_true, and_true, true_and, and_self, ↓reduceIte, Nat.reduceEqDiff, Option.getD_some, Option.getD_none, Option.map_some, Option.map_none, Option.isSome_some, Option.isSome_none, forall_eq_or_imp, forall_eq, reduceCtorEq, List.append_nil, List.nil_append, List.cons_append, Nat.reduceAdd, Nat.reduceMul, inObj, inRow]
          first | done | rfl
        · have h1 : decide ((i : Int) < (k : Int)) = false := by simpa using hlt
          simp only [runA, ncE, faE, fieldE, extE, cloE, bsE, idxE, okE, okM, entryT, entryMem, cellsAt, List.append_nil, List.nil_append, List.cons_append, loadE, storeE, binE, isSh, intOp, AV.flat, Option.map_some, Option.map_none, ↓reduceIte, Nat.reduceLT, Nat.reduceLeDiff, Nat.reduceEqDiff, Nat.reduceAdd, Nat.reduceMul, Nat.reduceSub, decide_true, decide_false, Option.getD_some, Option.getD_none, objName, rowName, resName, resCell, inObj, inRow, outName, outCell, EP.bind, List.getElem?_cons_zero, List.getElem?_cons_succ, List.length_cons, List.length_nil, List.map_cons, List.map_nil, cndE, reduceCtorEq, and_self, and_true, true_and, List.all_cons, List.all_nil, AV.scal, Bool.and_self, Bool.and_true, putAt, List.take, List.drop, Option.bind_some, Option.bind_none, Bool.false_eq_true, callE, argsE, AV.pure?, AV.toPC, toPCs, objsE, cellsE, resAt, backObjs, backCells, freeE, keys, exitMem, shapeOf, oneE, List.nodup_cons, List.mem_cons, List.not_mem_nil, or_false, not_false_eq_true, List.nodup_nil, ext, unE, Nat.reduceBEq, builtinE, lenE, AV.rows, appendE, addedE, newRowE, newObjE, strz, mm, convE, buildE, fillE, chunks, List.replicate, List.flatten, guardE, cndQ, List.getElem?_toArray, List.flatMap, List.flatten_cons, List.flatten_nil, Int.reduceLT, Int.reduceLE, Int.reduceToNat, Option.map, Nat.zero_add, Nat.mul_one, Nat.one_mul, Nat.zero_le, Nat.add_zero, List.length_append, beq_true, beq_false, Bool.not_true, Bool.not_false, strOp, beq_self_eq_true, Int.toNat_natCast, indexE, Int.natCast_nonneg, mkE, newMslE, Bool.or_false, Bool.or_true, Bool.false_or, Bool.true_or, look2, denil, List.append_eq, once, without, convO, hN, hF, ty_3, ty_5, ty_49, ty_120, ty_164, notIf, isEq, h1]
          obtain rfl : i = k := by omega
          rw [← putTo_all n i hk8]
          have hlen : (putTo n i i).length = i := by simp [putTo]
          simp only [retQ, retE, RetOK, objPairs, resPairs, cellPairs, objCells, retRen, retMem, exitMem, exitVals, resAt, entryMem, cellsAt, AMds, AMd, CMd, keys, List.append_nil, List.nil_append, List.cons_append, List.map_cons, List.map_nil, List.nodup_cons, List.mem_cons, List.not_mem_nil, or_false, not_false_eq_true, List.nodup_nil, get_mk, mem_mk, look_nil, look_cons, Option.isSome_some, Option.isSome_none, and_self, and_true, true_and, ↓reduceIte, Nat.reduceEqDiff, Nat.reduceAdd, Nat.reduceMul, Option.getD_some, inObj, inRow, outName, outCell, forall_eq_or_imp, forall_eq, implies_true, Nat.reduceBEq, reduceCtorEq, Bool.false_eq_true, andThen_some, andThen_none, Nat.zero_add, List.length_nil, List.length_cons, false_implies, List.length_append, loadE, run_ask, run_ret, run_fail, obind_some, obind_none, List.zip_cons_cons, List.zip_nil_left, List.zip_nil_right, AMd.AMp, List.take, List.drop, List.getElem?_cons_zero, List.getElem?_cons_succ, Nat.reduceLeDiff, Nat.zero_le, List.forall_mem_nil, rs_92, bytes_length, hlen]
    · cases hr
  · cases hr

end Go.Proofs.Ytjdokoldiemobaa.AM
