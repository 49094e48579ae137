/-
  SHA: the reference's padding; words of four octets.
-/
import Derived.Test.YtjdokoldiemobaaSh7
import Derived.Test.YtjdokoldiemobaaPk3
set_option linter.unusedVariables false
set_option linter.unusedSimpArgs false
namespace Go.Proofs.Ytjdokoldiemobaa.AM
open Go

variable {Γ : FuncId → Contract}

theorem bw_toNat (c : UInt8) : (bw c).toNat = c.toNat := by
  have := c.toNat_lt
  unfold bw
  rw [BitVec.toNat_ofNat]
  omega
theorem or_step (x : W32) (hx : x.toNat < 16777216) (c : UInt8) : ((x <<< 8) ||| bw c).toNat = x.toNat * 256 + c.toNat := by
  have hc := c.toNat_lt
  rw [BitVec.toNat_or, bw_toNat, BitVec.toNat_shiftLeft]
  have h1 : x.toNat <<< 8 % 2 ^ 32 = x.toNat <<< 8 := by rw [Nat.shiftLeft_eq]; omega
  rw [h1, ← Nat.shiftLeft_add_eq_or_of_lt (by omega), Nat.shiftLeft_eq]
theorem be4 (a b c d : UInt8) : ((bw a <<< 24 + bw b <<< 16) + bw c <<< 8) + bw d = (((((0 : W32) <<< 8 ||| bw a) <<< 8 ||| bw b) <<< 8 ||| bw c) <<< 8 ||| bw d) := by
  have ha := a.toNat_lt; have hb := b.toNat_lt; have hc := c.toNat_lt; have hd := d.toNat_lt
  have z : (0 : W32).toNat = 0 := rfl
  have s1 := or_step 0 (by rw [z]; decide) a
  have s2 := or_step ((0 : W32) <<< 8 ||| bw a) (by rw [s1, z]; omega) b
  have s3 := or_step (((0 : W32) <<< 8 ||| bw a) <<< 8 ||| bw b) (by rw [s2, s1, z]; omega) c
  have s4 := or_step ((((0 : W32) <<< 8 ||| bw a) <<< 8 ||| bw b) <<< 8 ||| bw c) (by rw [s3, s2, s1, z]; omega) d
  apply BitVec.eq_of_toNat_eq
  rw [s4, s3, s2, s1, z]
  simp only [BitVec.toNat_add, BitVec.toNat_shiftLeft, bw_toNat, Nat.shiftLeft_eq]
  omega
theorem wordS_full (b : List UInt8) (n : Nat) (h : n + 3 < b.length) : wordS b (n : Int) = ((bw (b.getD n 0) <<< 24 + bw (b.getD (n + 1) 0) <<< 16) + bw (b.getD (n + 2) 0) <<< 8) + bw (b.getD (n + 3) 0) := by
  rw [be4]
  unfold wordS
  simp only [wordTo]
  rw [if_pos ⟨by omega, by omega⟩, if_pos ⟨by omega, by omega⟩, if_pos ⟨by omega, by omega⟩, if_pos ⟨by omega, by omega⟩]
  simp only [Int.toNat_natCast, Nat.add_zero]

set_option maxRecDepth 100000 in
set_option maxHeartbeats 1000000 in
theorem refPad_sound (hΓ : SoundG Try.prog Γ) (h54 : Γ 92 = putC) : SoundC Try.prog 139 padC := by
  refine sound_fn Try.func139 (by kernel_rfl) rfl rfl ?_
  intro args objs r hr
  obtain ⟨b, hl, rfl, rfl, rfl⟩ := mkC_inv hr
  refine ⟨rfl, by show 1 ≤ _; decide, fun E hN hns hF => ?_⟩
  refine vc_sound hΓ mixed _ _ _ ?_
  have hN := hN.trans nt_139
  obtain ⟨k, hk⟩ : ∃ k, k = (119 - b.length % 64) % 64 := ⟨_, rfl⟩
  have hk64 : k < 64 := by omega
  have hz := rowsOK_bytes
  have hL0 : b.length ≤ 140737488355328 := by omega
  have hL1 : b.length + 1 ≤ 140737488355328 := by omega
  have h128 : [[PC.int .u8 128]] = bytes [128] := rfl
  simp only [runA, ncE, faE, fieldE, extE, cloE, bsE, idxE, okE, okM, entryT, entryMem, cellsAt, List.append_nil, List.nil_append, List.cons_append, loadE, storeE, binE, isSh, intOp, AV.flat, Option.map_some, Option.map_none, ↓reduceIte, Nat.reduceLT, Nat.reduceLeDiff, Nat.reduceEqDiff, Nat.reduceAdd, Nat.reduceMul, Nat.reduceSub, decide_true, decide_false, Option.getD_some, Option.getD_none, objName, rowName, resName, resCell, inObj, inRow, outName, outCell, EP.bind, List.getElem?_cons_zero, List.getElem?_cons_succ, List.length_cons, List.length_nil, List.map_cons, List.map_nil, cndE, reduceCtorEq, and_self, and_true, true_and, List.all_cons, List.all_nil, AV.scal, Bool.and_self, Bool.and_true, putAt, List.take, List.drop, Option.bind_some, Option.bind_none, Bool.false_eq_true, callE, argsE, AV.pure?, AV.toPC, toPCs, objsE, cellsE, resAt, backObjs, backCells, freeE, keys, exitMem, shapeOf, oneE, List.nodup_cons, List.mem_cons, List.not_mem_nil, or_false, not_false_eq_true, List.nodup_nil, ext, unE, Nat.reduceBEq, builtinE, lenE, AV.rows, appendE, addedE, newRowE, newObjE, strz, mm, convE, buildE, fillE, chunks, List.replicate, List.flatten, guardE, cndQ, List.getElem?_toArray, List.flatMap, List.flatten_cons, List.flatten_nil, Int.reduceLT, Int.reduceLE, Int.reduceToNat, Option.map, Nat.zero_add, Nat.mul_one, Nat.one_mul, Nat.zero_le, Nat.add_zero, List.length_append, beq_true, beq_false, Bool.not_true, Bool.not_false, strOp, beq_self_eq_true, Int.toNat_natCast, indexE, Int.natCast_nonneg, mkE, newMslE, Bool.or_false, Bool.or_true, Bool.false_or, Bool.true_or, look2, denil, List.append_eq, once, without, convO, hN, hF, ty_3, ty_5, ty_49, notIf, isEq, hz, hL0, hL1, h128, bytes_length, bytes_app]
  refine AWP.loop (fun c s => ∃ j : Nat, j ≤ k ∧ c = k - j ∧ s = ⟨[(0, .c (.sl (bytes b))), (3, .own 385 1 (bytes ((b ++ [128]) ++ List.replicate j 0)))], [(385, .row 1 ((b ++ [128]) ++ List.replicate j 0).length)]⟩) ⟨k, _, ?w, 0, Nat.zero_le _, rfl, rfl⟩ ?r
  case w =>
    rw [hns]
    simp only [Weak, wkM, wkT, wkRen, AMd, AMds, AMd.AMp, CMd, look_cons, look_nil, get_mk, mem_mk, AS.get, AS.mem, keys, entryMem, cellsAt, List.map_nil, List.map_cons, List.not_mem_nil, List.mem_cons, or_false, false_implies, implies_true, and_true, true_and, and_self, ↓reduceIte, Nat.reduceEqDiff, Option.getD_some, Option.getD_none, Option.map_some, Option.map_none, Option.isSome_some, Option.isSome_none, forall_eq_or_imp, forall_eq, reduceCtorEq, List.append_nil, List.nil_append, List.cons_append, Nat.reduceAdd, Nat.reduceMul, inObj, inRow]
    simp
  case r =>
    rintro c s ⟨j, hj, rfl, rfl⟩
    refine vc_sound hΓ mixed _ _ _ ?_
    have hlen : ((b ++ [128]) ++ List.replicate j (0 : UInt8)).length = b.length + 1 + j := by simp; omega
    have e1 : (((b.length + 1 + j : Nat) : Int).tmod 64) = (((b.length + 1 + j) % 64 : Nat) : Int) := rfl
    by_cases hlt : j < k
    · have h1 : ((((b.length + 1 + j) % 64 : Nat) : Int) != 56) = true := by simp; omega
      have h0 : [[PC.int .u8 0]] = bytes [0] := rfl
      have hL : b.length + 1 + j + 1 ≤ 140737488355328 := by omega
      have happ : ((b ++ [128]) ++ List.replicate j (0 : UInt8)) ++ [0] = (b ++ [128]) ++ List.replicate (j + 1) 0 := by rw [List.append_assoc, List.replicate_succ']
      generalize hq : (b ++ [128]) ++ List.replicate j (0 : UInt8) = q at hlen happ ⊢
      simp only [runA, ncE, faE, fieldE, extE, cloE, bsE, idxE, okE, okM, entryT, entryMem, cellsAt, List.append_nil, List.nil_append, List.cons_append, loadE, storeE, binE, isSh, intOp, AV.flat, Option.map_some, Option.map_none, ↓reduceIte, Nat.reduceLT, Nat.reduceLeDiff, Nat.reduceEqDiff, Nat.reduceAdd, Nat.reduceMul, Nat.reduceSub, decide_true, decide_false, Option.getD_some, Option.getD_none, objName, rowName, resName, resCell, inObj, inRow, outName, outCell, EP.bind, List.getElem?_cons_zero, List.getElem?_cons_succ, List.length_cons, List.length_nil, List.map_cons, List.map_nil, cndE, reduceCtorEq, and_self, and_true, true_and, List.all_cons, List.all_nil, AV.scal, Bool.and_self, Bool.and_true, putAt, List.take, List.drop, Option.bind_some, Option.bind_none, Bool.false_eq_true, callE, argsE, AV.pure?, AV.toPC, toPCs, objsE, cellsE, resAt, backObjs, backCells, freeE, keys, exitMem, shapeOf, oneE, List.nodup_cons, List.mem_cons, List.not_mem_nil, or_false, not_false_eq_true, List.nodup_nil, ext, unE, Nat.reduceBEq, builtinE, lenE, AV.rows, appendE, addedE, newRowE, newObjE, strz, mm, convE, buildE, fillE, chunks, List.replicate, List.flatten, guardE, cndQ, List.getElem?_toArray, List.flatMap, List.flatten_cons, List.flatten_nil, Int.reduceLT, Int.reduceLE, Int.reduceToNat, Option.map, Nat.zero_add, Nat.mul_one, Nat.one_mul, Nat.zero_le, Nat.add_zero, List.length_append, beq_true, beq_false, Bool.not_true, Bool.not_false, strOp, beq_self_eq_true, Int.toNat_natCast, indexE, Int.natCast_nonneg, mkE, newMslE, Bool.or_false, Bool.or_true, Bool.false_or, Bool.true_or, look2, denil, List.append_eq, once, without, convO, hN, hF, ty_3, ty_5, ty_49, notIf, isEq, hlen, e1, h1, h0, hz, hL, bytes_length, bytes_app, happ, Int.reduceEq]
      refine ⟨k - (j + 1), _, by omega, ?_, j + 1, by omega, rfl, rfl⟩
      rw [hns]
      have hlen' : ((b ++ [128]) ++ List.replicate (j + 1) (0 : UInt8)).length = b.length + 1 + j + 1 := by simp; omega
      simp only [Weak, wkM, wkT, wkRen, AMd, AMds, AMd.AMp, CMd, look_cons, look_nil, get_mk, mem_mk, AS.get, AS.mem, keys, entryMem, cellsAt, List.map_nil, List.map_cons, List.not_mem_nil, List.mem_cons, or_false, false_implies, implies_true, and_true, true_and, and_self, ↓reduceIte, Nat.reduceEqDiff, Option.getD_some, Option.getD_none, Option.map_some, Option.map_none, Option.isSome_some, Option.isSome_none, forall_eq_or_imp, forall_eq, reduceCtorEq, List.append_nil, List.nil_append, List.cons_append, Nat.reduceAdd, Nat.reduceMul, inObj, inRow, hlen']
      simp [List.replicate_succ, Nat.add_assoc]
    · obtain rfl : j = k := by omega
      have h1 : ((((b.length + 1 + j) % 64 : Nat) : Int) != 56) = false := by simp; omega
      have e4 : IntKind.i64.wrap (8 * (b.length : Int)) = 8 * (b.length : Int) := wrapI (by omega)
      have hpl : (putB (8 * (b.length : Int)) 8).length = 8 := by rw [putB_length]; rfl
      have hL : b.length + 1 + j + 8 ≤ 140737488355328 := by omega
      have hpad : ((b ++ [128]) ++ List.replicate j (0 : UInt8)) ++ putB (8 * (b.length : Int)) 8 = padS b := by rw [padS_eq, hk]; simp
      generalize hq : (b ++ [128]) ++ List.replicate j (0 : UInt8) = q at hlen hpad ⊢
      simp only [runA, ncE, faE, fieldE, extE, cloE, bsE, idxE, okE, okM, entryT, entryMem, cellsAt, List.append_nil, List.nil_append, List.cons_append, loadE, storeE, binE, isSh, intOp, AV.flat, Option.map_some, Option.map_none, ↓reduceIte, Nat.reduceLT, Nat.reduceLeDiff, Nat.reduceEqDiff, Nat.reduceAdd, Nat.reduceMul, Nat.reduceSub, decide_true, decide_false, Option.getD_some, Option.getD_none, objName, rowName, resName, resCell, inObj, inRow, outName, outCell, EP.bind, List.getElem?_cons_zero, List.getElem?_cons_succ, List.length_cons, List.length_nil, List.map_cons, List.map_nil, cndE, reduceCtorEq, and_self, and_true, true_and, List.all_cons, List.all_nil, AV.scal, Bool.and_self, Bool.and_true, putAt, List.take, List.drop, Option.bind_some, Option.bind_none, Bool.false_eq_true, callE, argsE, AV.pure?, AV.toPC, toPCs, objsE, cellsE, resAt, backObjs, backCells, freeE, keys, exitMem, shapeOf, oneE, List.nodup_cons, List.mem_cons, List.not_mem_nil, or_false, not_false_eq_true, List.nodup_nil, ext, unE, Nat.reduceBEq, builtinE, lenE, AV.rows, appendE, addedE, newRowE, newObjE, strz, mm, convE, buildE, fillE, chunks, List.replicate, List.flatten, guardE, cndQ, List.getElem?_toArray, List.flatMap, List.flatten_cons, List.flatten_nil, Int.reduceLT, Int.reduceLE, Int.reduceToNat, Option.map, Nat.zero_add, Nat.mul_one, Nat.one_mul, Nat.zero_le, Nat.add_zero, List.length_append, beq_true, beq_false, Bool.not_true, Bool.not_false, strOp, beq_self_eq_true, Int.toNat_natCast, indexE, Int.natCast_nonneg, mkE, newMslE, Bool.or_false, Bool.or_true, Bool.false_or, Bool.true_or, look2, denil, List.append_eq, once, without, convO, hN, hF, ty_3, ty_5, ty_49, notIf, isEq, hlen, e1, e4, h1, hz, hL, hpl, h54, putC, bytes_length, bytes_app, hpad, Int.reduceEq]
      simp only [retQ, retE, RetOK, objPairs, resPairs, cellPairs, objCells, retRen, retMem, exitMem, exitVals, resAt, entryMem, cellsAt, AMds, AMd, CMd, keys, List.append_nil, List.nil_append, List.cons_append, List.map_cons, List.map_nil, List.nodup_cons, List.mem_cons, List.not_mem_nil, or_false, not_false_eq_true, List.nodup_nil, get_mk, mem_mk, look_nil, look_cons, Option.isSome_some, Option.isSome_none, and_self, and_true, true_and, ↓reduceIte, Nat.reduceEqDiff, Nat.reduceAdd, Nat.reduceMul, Option.getD_some, inObj, inRow, outName, outCell, forall_eq_or_imp, forall_eq, implies_true, Nat.reduceBEq, reduceCtorEq, Bool.false_eq_true, andThen_some, andThen_none, Nat.zero_add, List.length_nil, List.length_cons, false_implies, List.length_append, loadE, run_ask, run_ret, run_fail, obind_some, obind_none, List.zip_cons_cons, List.zip_nil_left, List.zip_nil_right, AMd.AMp, List.take, List.drop, List.getElem?_cons_zero, List.getElem?_cons_succ, Nat.reduceLeDiff, Nat.zero_le, List.forall_mem_nil, rs_139, bytes_length]
      first | done | (rw [← hpad]; simp [hlen, hpl])

end Go.Proofs.Ytjdokoldiemobaa.AM
