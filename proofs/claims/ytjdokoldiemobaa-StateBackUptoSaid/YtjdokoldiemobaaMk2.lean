/-
  Merkle: the row above, the reference's root, climbing, lists against each other.
-/
import Derived.Test.YtjdokoldiemobaaMk1
set_option linter.unusedVariables false
set_option linter.unusedSimpArgs false
namespace Go.Proofs.Ytjdokoldiemobaa.AM
open Go

variable {Γ : FuncId → Contract}

noncomputable def upC : Contract := mkC (α := List (List UInt8)) Okl (fun l => [.c (.sl (texts l))]) (fun _ => []) (fun l => ⟨[.pv (.c (.sl (texts (upS l))))], []⟩)
theorem up_at (l : List (List UInt8)) (h : Okl l) : upC [.c (.sl (texts l))] [] = some ⟨[.pv (.c (.sl (texts (upS l))))], []⟩ :=
  mkC_at (α := List (List UInt8)) l h (fun y _ h1 _ => by
    simp at h1
    rw [texts_inj h1])

/-- The pairs' part of the row above. -/
noncomputable def upP (l : List (List UInt8)) (i : Nat) : List (List UInt8) := (upS l).take i
theorem upP_succ (l : List (List UInt8)) (i : Nat) (h : 2 * i + 1 < l.length) : upP l (i + 1) = upP l i ++ [shortS (l[2 * i]'(by omega) ++ l[2 * i + 1]'h)] := by
  unfold upP
  have := upS_get l i h
  rw [List.take_add_one, this]
  simp only [List.getD, List.getElem?_eq_getElem h, List.getElem?_eq_getElem (show 2 * i < l.length by omega), Option.getD_some, Option.toList_some]
theorem upP_length (l : List (List UInt8)) (i : Nat) (h : 2 * i ≤ l.length) : (upP l i).length = i := by
  unfold upP
  rw [List.length_take, upS_length]
  omega
theorem upP_done (l : List (List UInt8)) (i : Nat) (h : 2 * i ≤ l.length) (h2 : l.length ≤ 2 * i + 1) : upP l i ++ l.drop (2 * i) = upS l := by
  have hl := upS_length l
  have hp : (upP l i).length = i := upP_length l i h
  apply List.ext_getElem?
  intro j
  by_cases hj : j < i
  · rw [List.getElem?_append_left (by omega), upP, List.getElem?_take, if_pos hj]
  · rw [List.getElem?_append_right (by omega), hp, List.getElem?_drop]
    by_cases e : l.length = 2 * i
    · rw [List.getElem?_eq_none (by omega), List.getElem?_eq_none (by omega)]
    · by_cases e2 : j = i
      · subst e2
        rw [upS_last l j (by omega)]
        congr 1; omega
      · rw [List.getElem?_eq_none (by omega), List.getElem?_eq_none (by omega)]

set_option maxRecDepth 100000 in
set_option maxHeartbeats 1000000 in
theorem up_sound (hΓ : SoundG Try.prog Γ) (h2 : Γ 96 = shortC) : SoundC Try.prog 152 upC := by
  refine sound_fn Try.func152 (by kernel_rfl) rfl rfl ?_
  intro args objs r hr
  obtain ⟨l, hl, rfl, rfl, rfl⟩ := mkC_inv hr
  refine ⟨rfl, by show 1 ≤ _; decide, fun E hN hns hF => ?_⟩
  refine vc_sound hΓ mixed _ _ _ ?_
  have hN := hN.trans nt_152
  obtain ⟨hl1, hl2⟩ := hl
  simp only [runA, ncE, faE, fieldE, extE, cloE, bsE, idxE, okE, okM, entryT, entryMem, cellsAt, List.append_nil, List.nil_append, List.cons_append, loadE, storeE, binE, isSh, intOp, AV.flat, Option.map_some, Option.map_none, ↓reduceIte, Nat.reduceLT, Nat.reduceLeDiff, Nat.reduceEqDiff, Nat.reduceAdd, Nat.reduceMul, Nat.reduceSub, decide_true, decide_false, Option.getD_some, Option.getD_none, objName, rowName, resName, resCell, inObj, inRow, outName, outCell, EP.bind, List.getElem?_cons_zero, List.getElem?_cons_succ, List.length_cons, List.length_nil, List.map_cons, List.map_nil, cndE, reduceCtorEq, and_self, and_true, true_and, List.all_cons, List.all_nil, AV.scal, Bool.and_self, Bool.and_true, putAt, List.take, List.drop, Option.bind_some, Option.bind_none, Bool.false_eq_true, callE, argsE, AV.pure?, AV.toPC, toPCs, objsE, cellsE, resAt, backObjs, backCells, freeE, keys, exitMem, shapeOf, oneE, List.nodup_cons, List.mem_cons, List.not_mem_nil, or_false, not_false_eq_true, List.nodup_nil, ext, unE, Nat.reduceBEq, builtinE, lenE, AV.rows, appendE, addedE, newRowE, newObjE, strz, mm, convE, buildE, fillE, chunks, List.replicate, List.flatten, guardE, cndQ, List.getElem?_toArray, List.flatMap, List.flatten_cons, List.flatten_nil, Int.reduceLT, Int.reduceLE, Int.reduceToNat, Option.map, Nat.zero_add, Nat.mul_one, Nat.one_mul, Nat.zero_le, Nat.add_zero, List.length_append, beq_true, beq_false, Bool.not_true, Bool.not_false, strOp, beq_self_eq_true, Int.toNat_natCast, indexE, Int.natCast_nonneg, mkE, newMslE, Bool.or_false, Bool.or_true, Bool.false_or, Bool.true_or, look2, denil, List.append_eq, once, without, convO, hN, hF, ty_3, ty_5, ty_9, ty_23, ty_49, ty_167, notIf, isEq]
  refine AWP.loop (fun c st => ∃ i : Nat, 2 * i ≤ l.length ∧ c = l.length - 2 * i ∧ st = ⟨[(0, .c (.sl (texts (l.drop (2 * i))))), (3, .own 1217 1 (texts (upP l i)))], [(1217, .row 1 i)]⟩) ⟨l.length, _, ?w, 0, by omega, by omega, rfl⟩ ?r
  case w =>
    rw [hns]
    simp only [Weak, wkM, wkT, wkRen, AMd, AMds, AMd.AMp, CMd, look_cons, look_nil, get_mk, mem_mk, AS.get, AS.mem, keys, entryMem, cellsAt, List.map_nil, List.map_cons, List.not_mem_nil, List.mem_cons, or_false, false_implies, implies_true, and_true, true_and, and_self, ↓reduceIte, Nat.reduceEqDiff, Option.getD_some, Option.getD_none, Option.map_some, Option.map_none, Option.isSome_some, Option.isSome_none, forall_eq_or_imp, forall_eq, reduceCtorEq, List.append_nil, List.nil_append, List.cons_append, Nat.reduceAdd, Nat.reduceMul, inObj, inRow]
    simp [upP, texts]
  case r =>
    rintro c st ⟨i, hi, rfl, rfl⟩
    refine vc_sound hΓ mixed _ _ _ ?_
    have hpl := upP_length l i hi
    have hdl : (l.drop (2 * i)).length = l.length - 2 * i := by simp
    by_cases hlt : 2 * i + 1 < l.length
    · have hd : l.drop (2 * i) = l[2 * i]'(by omega) :: l[2 * i + 1] :: l.drop (2 * (i + 1)) := by
        rw [List.drop_eq_getElem_cons (by omega), List.drop_eq_getElem_cons (by omega)]; congr 3
      have hsucc := upP_succ l i hlt
      have hm1 := hl2 _ (List.getElem_mem (show 2 * i < l.length by omega))
      have hm2 := hl2 _ (List.getElem_mem hlt)
      generalize l[2 * i]'(by omega) = a at hd hsucc hm1
      generalize l[2 * i + 1]'hlt = b at hd hsucc hm2
      obtain ⟨tl, htl⟩ : ∃ tl, l.drop (2 * (i + 1)) = tl := ⟨_, rfl⟩
      have ht : texts (l.drop (2 * i)) = [.str a] :: [.str b] :: texts tl := by rw [hd, htl]; rfl
      have hll : tl.length = l.length - 2 * (i + 1) := by rw [← htl]; simp
      have g1 : decide (((tl.length + 1 + 1 : Nat) : Int) > (1 : Int)) = true := by simp; omega
      have g2 : (2 : Int) ≤ ((tl.length + 1 + 1 : Nat) : Int) := by omega
      have hz2 : rowsOK 1 ([PC.str a] :: [PC.str b] :: texts tl) := rowsOK_texts (a :: b :: tl)
      have htk : (texts tl).take tl.length = texts tl := by rw [← texts_length tl, List.take_length]
      have z0 : (0 : Int) ≤ 2 := by decide
      have hs := short_at [a, b] ⟨by simp; omega, by simp⟩
      have hf : [a, b].flatten = a ++ b := by simp
      rw [hf] at hs
      have hsl : [[PC.sl (bytes a)], [PC.sl (bytes b)]] = slices [a, b] := rfl
      have hz := rowsOK_texts
      have hL : (i + 1) * 16 ≤ 140737488355328 := by omega
      rw [ht]
      simp only [runA, ncE, faE, fieldE, extE, cloE, bsE, idxE, okE, okM, entryT, entryMem, cellsAt, List.append_nil, List.nil_append, List.cons_append, loadE, storeE, binE, isSh, intOp, AV.flat, Option.map_some, Option.map_none, ↓reduceIte, Nat.reduceLT, Nat.reduceLeDiff, Nat.reduceEqDiff, Nat.reduceAdd, Nat.reduceMul, Nat.reduceSub, decide_true, decide_false, Option.getD_some, Option.getD_none, objName, rowName, resName, resCell, inObj, inRow, outName, outCell, EP.bind, List.getElem?_cons_zero, List.getElem?_cons_succ, List.length_cons, List.length_nil, List.map_cons, List.map_nil, cndE, reduceCtorEq, and_self, and_true, true_and, List.all_cons, List.all_nil, AV.scal, Bool.and_self, Bool.and_true, putAt, List.take, List.drop, Option.bind_some, Option.bind_none, Bool.false_eq_true, callE, argsE, AV.pure?, AV.toPC, toPCs, objsE, cellsE, resAt, backObjs, backCells, freeE, keys, exitMem, shapeOf, oneE, List.nodup_cons, List.mem_cons, List.not_mem_nil, or_false, not_false_eq_true, List.nodup_nil, ext, unE, Nat.reduceBEq, builtinE, lenE, AV.rows, appendE, addedE, newRowE, newObjE, strz, mm, convE, buildE, fillE, chunks, List.replicate, List.flatten, guardE, cndQ, List.getElem?_toArray, List.flatMap, List.flatten_cons, List.flatten_nil, Int.reduceLT, Int.reduceLE, Int.reduceToNat, Option.map, Nat.zero_add, Nat.mul_one, Nat.one_mul, Nat.zero_le, Nat.add_zero, List.length_append, beq_true, beq_false, Bool.not_true, Bool.not_false, strOp, beq_self_eq_true, Int.toNat_natCast, indexE, Int.natCast_nonneg, mkE, newMslE, Bool.or_false, Bool.or_true, Bool.false_or, Bool.true_or, look2, denil, List.append_eq, once, without, convO, hN, hF, ty_3, ty_5, ty_9, ty_23, ty_49, ty_167, notIf, isEq, g1, h2, hsl, hs, texts1, texts_app, ← hsucc, hz, hL, texts_length, hpl]
      refine drawnP_intro (by kernel_rfl) (by kernel_rfl) ?_
      simp only [runA, ncE, faE, fieldE, extE, cloE, bsE, idxE, okE, okM, entryT, entryMem, cellsAt, List.append_nil, List.nil_append, List.cons_append, loadE, storeE, binE, isSh, intOp, AV.flat, Option.map_some, Option.map_none, ↓reduceIte, Nat.reduceLT, Nat.reduceLeDiff, Nat.reduceEqDiff, Nat.reduceAdd, Nat.reduceMul, Nat.reduceSub, decide_true, decide_false, Option.getD_some, Option.getD_none, objName, rowName, resName, resCell, inObj, inRow, outName, outCell, EP.bind, List.getElem?_cons_zero, List.getElem?_cons_succ, List.length_cons, List.length_nil, List.map_cons, List.map_nil, cndE, reduceCtorEq, and_self, and_true, true_and, List.all_cons, List.all_nil, AV.scal, Bool.and_self, Bool.and_true, putAt, List.take, List.drop, Option.bind_some, Option.bind_none, Bool.false_eq_true, callE, argsE, AV.pure?, AV.toPC, toPCs, objsE, cellsE, resAt, backObjs, backCells, freeE, keys, exitMem, shapeOf, oneE, List.nodup_cons, List.mem_cons, List.not_mem_nil, or_false, not_false_eq_true, List.nodup_nil, ext, unE, Nat.reduceBEq, builtinE, lenE, AV.rows, appendE, addedE, newRowE, newObjE, strz, mm, convE, buildE, fillE, chunks, List.replicate, List.flatten, guardE, cndQ, List.getElem?_toArray, List.flatMap, List.flatten_cons, List.flatten_nil, Int.reduceLT, Int.reduceLE, Int.reduceToNat, Option.map, Nat.zero_add, Nat.mul_one, Nat.one_mul, Nat.zero_le, Nat.add_zero, List.length_append, beq_true, beq_false, Bool.not_true, Bool.not_false, strOp, beq_self_eq_true, Int.toNat_natCast, indexE, Int.natCast_nonneg, mkE, newMslE, Bool.or_false, Bool.or_true, Bool.false_or, Bool.true_or, look2, denil, List.append_eq, once, without, convO, hN, hF, ty_3, ty_5, ty_9, ty_23, ty_49, ty_167, notIf, isEq, g2, hz2, htk, z0, sliceE, boundE, Int.le_refl, texts_length]
      refine ⟨l.length - 2 * (i + 1), _, by omega, ?_, i + 1, by omega, rfl, rfl⟩
      rw [hns, htl]
      simp only [Weak, wkM, wkT, wkRen, AMd, AMds, AMd.AMp, CMd, look_cons, look_nil, get_mk, mem_mk, AS.get, AS.mem, keys, entryMem, cellsAt, List.map_nil, List.map_cons, List.not_mem_nil, List.mem_cons, or_false, false_implies, implies_true, and_true, true_and, and_self, ↓reduceIte, Nat.reduceEqDiff, Option.getD_some, Option.getD_none, Option.map_some, Option.map_none, Option.isSome_some, Option.isSome_none, forall_eq_or_imp, forall_eq, reduceCtorEq, List.append_nil, List.nil_append, List.cons_append, Nat.reduceAdd, Nat.reduceMul, inObj, inRow]
      first | done | simp
    · obtain ⟨tl, htl⟩ : ∃ tl, l.drop (2 * i) = tl := ⟨_, rfl⟩
      have hdone := upP_done l i hi (by omega)
      have hll : tl.length ≤ 1 := by rw [← htl]; simp; omega
      have g1 : decide ((tl.length : Int) > (1 : Int)) = false := by simp; omega
      have hz := rowsOK_texts
      have hL : (i + tl.length) * 16 ≤ 140737488355328 := by omega
      rw [htl] at hdone ⊢
      simp only [runA, ncE, faE, fieldE, extE, cloE, bsE, idxE, okE, okM, entryT, entryMem, cellsAt, List.append_nil, List.nil_append, List.cons_append, loadE, storeE, binE, isSh, intOp, AV.flat, Option.map_some, Option.map_none, ↓reduceIte, Nat.reduceLT, Nat.reduceLeDiff, Nat.reduceEqDiff, Nat.reduceAdd, Nat.reduceMul, Nat.reduceSub, decide_true, decide_false, Option.getD_some, Option.getD_none, objName, rowName, resName, resCell, inObj, inRow, outName, outCell, EP.bind, List.getElem?_cons_zero, List.getElem?_cons_succ, List.length_cons, List.length_nil, List.map_cons, List.map_nil, cndE, reduceCtorEq, and_self, and_true, true_and, List.all_cons, List.all_nil, AV.scal, Bool.and_self, Bool.and_true, putAt, List.take, List.drop, Option.bind_some, Option.bind_none, Bool.false_eq_true, callE, argsE, AV.pure?, AV.toPC, toPCs, objsE, cellsE, resAt, backObjs, backCells, freeE, keys, exitMem, shapeOf, oneE, List.nodup_cons, List.mem_cons, List.not_mem_nil, or_false, not_false_eq_true, List.nodup_nil, ext, unE, Nat.reduceBEq, builtinE, lenE, AV.rows, appendE, addedE, newRowE, newObjE, strz, mm, convE, buildE, fillE, chunks, List.replicate, List.flatten, guardE, cndQ, List.getElem?_toArray, List.flatMap, List.flatten_cons, List.flatten_nil, Int.reduceLT, Int.reduceLE, Int.reduceToNat, Option.map, Nat.zero_add, Nat.mul_one, Nat.one_mul, Nat.zero_le, Nat.add_zero, List.length_append, beq_true, beq_false, Bool.not_true, Bool.not_false, strOp, beq_self_eq_true, Int.toNat_natCast, indexE, Int.natCast_nonneg, mkE, newMslE, Bool.or_false, Bool.or_true, Bool.false_or, Bool.true_or, look2, denil, List.append_eq, once, without, convO, hN, hF, ty_3, ty_5, ty_9, ty_23, ty_49, ty_167, notIf, isEq, g1, hz, hL, texts_length, texts_app, hdone, hpl]
      simp only [retQ, retE, RetOK, objPairs, resPairs, cellPairs, objCells, retRen, retMem, exitMem, exitVals, resAt, entryMem, cellsAt, AMds, AMd, CMd, keys, List.append_nil, List.nil_append, List.cons_append, List.map_cons, List.map_nil, List.nodup_cons, List.mem_cons, List.not_mem_nil, or_false, not_false_eq_true, List.nodup_nil, get_mk, mem_mk, look_nil, look_cons, Option.isSome_some, Option.isSome_none, and_self, and_true, true_and, ↓reduceIte, Nat.reduceEqDiff, Nat.reduceAdd, Nat.reduceMul, Option.getD_some, inObj, inRow, outName, outCell, forall_eq_or_imp, forall_eq, implies_true, Nat.reduceBEq, reduceCtorEq, Bool.false_eq_true, andThen_some, andThen_none, Nat.zero_add, List.length_nil, List.length_cons, false_implies, List.length_append, loadE, run_ask, run_ret, run_fail, obind_some, obind_none, List.zip_cons_cons, List.zip_nil_left, List.zip_nil_right, AMd.AMp, List.take, List.drop, List.getElem?_cons_zero, List.getElem?_cons_succ, Nat.reduceLeDiff, Nat.zero_le, List.forall_mem_nil, rs_152]

end Go.Proofs.Ytjdokoldiemobaa.AM
