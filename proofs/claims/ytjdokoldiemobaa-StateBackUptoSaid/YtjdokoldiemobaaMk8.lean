/-
  Merkle: the root.
-/
import Derived.Test.YtjdokoldiemobaaMk7
set_option linter.unusedVariables false
set_option linter.unusedSimpArgs false
namespace Go.Proofs.Ytjdokoldiemobaa.AM
open Go

variable {Γ : FuncId → Contract}

noncomputable def upN (l : List (List UInt8)) : Nat → List (List UInt8)
  | 0 => l
  | i + 1 => upS (upN l i)
theorem upN_up (l : List (List UInt8)) : ∀ i, upN (upS l) i = upN l (i + 1)
  | 0 => rfl
  | i + 1 => by rw [upN, upN_up l i]; rfl
theorem upN_ok {l : List (List UInt8)} (h : Okl l) : ∀ i, Okl (upN l i)
  | 0 => h
  | i + 1 => upS_ok (upN_ok h i)
theorem depth : ∀ (n : Nat) (l : List (List UInt8)), l.length ≤ n → ∃ k, (∀ i, i < k → 1 < (upN l i).length) ∧ (upN l k).length ≤ 1
  | 0, l, h => ⟨0, fun i hi => by omega, by show l.length ≤ 1; omega⟩
  | n + 1, l, h => by
    by_cases h1 : l.length ≤ 1
    · exact ⟨0, fun i hi => by omega, h1⟩
    · have hl := upS_length l
      obtain ⟨k, h2, h3⟩ := depth n (upS l) (by omega)
      refine ⟨k + 1, fun i hi => ?_, by rw [← upN_up]; exact h3⟩
      cases i with
      | zero => show 1 < l.length; omega
      | succ i => rw [← upN_up]; exact h2 i (by omega)
theorem root_upN {l : List (List UInt8)} {k : Nat} (h : ∀ i, i < k → 1 < (upN l i).length) : ∀ i, i ≤ k → rootS (upN l i) = rootS l
  | 0, _ => rfl
  | i + 1, hi => by
    rw [← root_upN h i (by omega), rootS_gt (l := upN l i) (by have := h i (by omega); omega)]
    rfl

set_option maxRecDepth 100000 in
set_option maxHeartbeats 1000000 in
theorem root_sound (hΓ : SoundG Try.prog Γ) (h2 : Γ 152 = upC) (hS : SoundC Try.prog 152 upC) : SoundC Try.prog 97 rootC := by
  refine sound_fnM ⟨[], []⟩ Try.func97 (by kernel_rfl) rfl rfl ?_ ?_
  · rw [rs_97]; intro r hr; simp at hr; exact ⟨_, hr⟩
  intro args objs r hr
  obtain ⟨l, hl, rfl, rfl, rfl⟩ := mkC_inv hr
  refine ⟨rfl, by show 1 ≤ _; decide, fun E hro hN hns hF => ?_⟩
  have hN := hN.trans nt_97
  refine AWPm.seq (AWPm.of fun E' hE hns' => vc_sound hΓ mixed _ _ _ ?_)
  have hN' : E'.N.n = _ := (congrArg Lim.n hE).trans hN
  have hF' : E'.N.adv = _ := (congrArg Lim.adv hE).trans hF
  simp only [runA, ncE, faE, fieldE, extE, cloE, bsE, idxE, okE, okM, entryT, entryMem, cellsAt, List.append_nil, List.nil_append, List.cons_append, loadE, storeE, binE, isSh, intOp, AV.flat, Option.map_some, Option.map_none, ↓reduceIte, Nat.reduceLT, Nat.reduceLeDiff, Nat.reduceEqDiff, Nat.reduceAdd, Nat.reduceMul, Nat.reduceSub, decide_true, decide_false, Option.getD_some, Option.getD_none, objName, rowName, resName, resCell, inObj, inRow, outName, outCell, EP.bind, List.getElem?_cons_zero, List.getElem?_cons_succ, List.length_cons, List.length_nil, List.map_cons, List.map_nil, cndE, reduceCtorEq, and_self, and_true, true_and, List.all_cons, List.all_nil, AV.scal, Bool.and_self, Bool.and_true, putAt, List.take, List.drop, Option.bind_some, Option.bind_none, Bool.false_eq_true, callE, argsE, AV.pure?, AV.toPC, toPCs, objsE, cellsE, resAt, backObjs, backCells, freeE, keys, exitMem, shapeOf, oneE, List.nodup_cons, List.mem_cons, List.not_mem_nil, or_false, not_false_eq_true, List.nodup_nil, ext, unE, Nat.reduceBEq, builtinE, lenE, AV.rows, appendE, addedE, newRowE, newObjE, strz, mm, convE, buildE, fillE, chunks, List.replicate, List.flatten, guardE, cndQ, List.getElem?_toArray, List.flatMap, List.flatten_cons, List.flatten_nil, Int.reduceLT, Int.reduceLE, Int.reduceToNat, Option.map, Nat.zero_add, Nat.mul_one, Nat.one_mul, Nat.zero_le, Nat.add_zero, List.length_append, beq_true, beq_false, Bool.not_true, Bool.not_false, strOp, beq_self_eq_true, Int.toNat_natCast, indexE, Int.natCast_nonneg, mkE, newMslE, Bool.or_false, Bool.or_true, Bool.false_or, Bool.true_or, look2, denil, List.append_eq, once, without, convO, hN', hF', ty_3, ty_9, ty_23, notIf, isEq, thenM_normal]
  refine AWPm.seq (AWPm.of fun E' hE hns' => vc_sound hΓ mixed _ _ _ ?_)
  have hN' : E'.N.n = _ := (congrArg Lim.n hE).trans hN
  have hF' : E'.N.adv = _ := (congrArg Lim.adv hE).trans hF
  simp only [runA, ncE, faE, fieldE, extE, cloE, bsE, idxE, okE, okM, entryT, entryMem, cellsAt, List.append_nil, List.nil_append, List.cons_append, loadE, storeE, binE, isSh, intOp, AV.flat, Option.map_some, Option.map_none, ↓reduceIte, Nat.reduceLT, Nat.reduceLeDiff, Nat.reduceEqDiff, Nat.reduceAdd, Nat.reduceMul, Nat.reduceSub, decide_true, decide_false, Option.getD_some, Option.getD_none, objName, rowName, resName, resCell, inObj, inRow, outName, outCell, EP.bind, List.getElem?_cons_zero, List.getElem?_cons_succ, List.length_cons, List.length_nil, List.map_cons, List.map_nil, cndE, reduceCtorEq, and_self, and_true, true_and, List.all_cons, List.all_nil, AV.scal, Bool.and_self, Bool.and_true, putAt, List.take, List.drop, Option.bind_some, Option.bind_none, Bool.false_eq_true, callE, argsE, AV.pure?, AV.toPC, toPCs, objsE, cellsE, resAt, backObjs, backCells, freeE, keys, exitMem, shapeOf, oneE, List.nodup_cons, List.mem_cons, List.not_mem_nil, or_false, not_false_eq_true, List.nodup_nil, ext, unE, Nat.reduceBEq, builtinE, lenE, AV.rows, appendE, addedE, newRowE, newObjE, strz, mm, convE, buildE, fillE, chunks, List.replicate, List.flatten, guardE, cndQ, List.getElem?_toArray, List.flatMap, List.flatten_cons, List.flatten_nil, Int.reduceLT, Int.reduceLE, Int.reduceToNat, Option.map, Nat.zero_add, Nat.mul_one, Nat.one_mul, Nat.zero_le, Nat.add_zero, List.length_append, beq_true, beq_false, Bool.not_true, Bool.not_false, strOp, beq_self_eq_true, Int.toNat_natCast, indexE, Int.natCast_nonneg, mkE, newMslE, Bool.or_false, Bool.or_true, Bool.false_or, Bool.true_or, look2, denil, List.append_eq, once, without, convO, hN', hF', ty_3, ty_9, ty_23, notIf, isEq, thenM_normal]
  refine AWPm.weak (s2 := ⟨[(3, .ptr 192 0), (0, .c (.sl (texts l)))], [(192, .obj [.c (.str [])] false)]⟩) (by rw [hns]; simp only [Weak, wkM, wkT, wkRen, AMd, AMds, AMd.AMp, CMd, look_cons, look_nil, get_mk, mem_mk, AS.get, AS.mem, keys, entryMem, cellsAt, List.map_nil, List.map_cons, List.not_mem_nil, List.mem_cons, or_false, false_implies, implies_true, and_true, true_and, and_self, ↓reduceIte, Nat.reduceEqDiff, Option.getD_some, Option.getD_none, Option.map_some, Option.map_none, Option.isSome_some, Option.isSome_none, forall_eq_or_imp, forall_eq, reduceCtorEq, List.append_nil, List.nil_append, List.cons_append, Nat.reduceAdd, Nat.reduceMul, inObj, inRow]; first | done | simp) ?_
  obtain ⟨k, hk1, hk2⟩ := depth l.length l (Nat.le_refl _)
  have hroot := root_upN hk1
  refine AWPm.seq (AWPm.rows hS hro (l := l) rfl rfl rfl rfl rfl rfl rfl rfl rfl (by rw [hN]; decide) (by rw [hN]; decide) (by rw [hN]; decide) rfl k 384 (upN l) rfl (fun _ => rfl) (upN_ok hl) hk1 hk2 rfl
    (fun i => [(192, .obj [.c (.str (if i ≤ k then [] else rootS l))] false)]) (by simp)
    (fun i => ⟨[(4, .c (.sl (texts (upN l i)))), (7, .c (.sl (texts (upN l i)))), (6, .undef), (5, .undef), (3, .ptr 192 0), (0, .c (.sl (texts l)))], [(384, .obj [.c (.sl (texts (upN l i)))] false), (192, .obj [.c (.str (if i ≤ k then [] else rootS l))] false)]⟩) ?hA ?hB ?hQ)
  case hA =>
    intro i hi E' hE hns'
    have hN' : E'.N.n = _ := (congrArg Lim.n hE).trans hN
    have hF' : E'.N.adv = _ := (congrArg Lim.adv hE).trans hF
    refine vc_sound hΓ mixed _ _ _ ?_
    simp only [runA, ncE, faE, fieldE, extE, cloE, bsE, idxE, okE, okM, entryT, entryMem, cellsAt, List.append_nil, List.nil_append, List.cons_append, loadE, storeE, binE, isSh, intOp, AV.flat, Option.map_some, Option.map_none, ↓reduceIte, Nat.reduceLT, Nat.reduceLeDiff, Nat.reduceEqDiff, Nat.reduceAdd, Nat.reduceMul, Nat.reduceSub, decide_true, decide_false, Option.getD_some, Option.getD_none, objName, rowName, resName, resCell, inObj, inRow, outName, outCell, EP.bind, List.getElem?_cons_zero, List.getElem?_cons_succ, List.length_cons, List.length_nil, List.map_cons, List.map_nil, cndE, reduceCtorEq, and_self, and_true, true_and, List.all_cons, List.all_nil, AV.scal, Bool.and_self, Bool.and_true, putAt, List.take, List.drop, Option.bind_some, Option.bind_none, Bool.false_eq_true, callE, argsE, AV.pure?, AV.toPC, toPCs, objsE, cellsE, resAt, backObjs, backCells, freeE, keys, exitMem, shapeOf, oneE, List.nodup_cons, List.mem_cons, List.not_mem_nil, or_false, not_false_eq_true, List.nodup_nil, ext, unE, Nat.reduceBEq, builtinE, lenE, AV.rows, appendE, addedE, newRowE, newObjE, strz, mm, convE, buildE, fillE, chunks, List.replicate, List.flatten, guardE, cndQ, List.getElem?_toArray, List.flatMap, List.flatten_cons, List.flatten_nil, Int.reduceLT, Int.reduceLE, Int.reduceToNat, Option.map, Nat.zero_add, Nat.mul_one, Nat.one_mul, Nat.zero_le, Nat.add_zero, List.length_append, beq_true, beq_false, Bool.not_true, Bool.not_false, strOp, beq_self_eq_true, Int.toNat_natCast, indexE, Int.natCast_nonneg, mkE, newMslE, Bool.or_false, Bool.or_true, Bool.false_or, Bool.true_or, look2, denil, List.append_eq, once, without, convO, hN', hF', ty_3, ty_9, ty_23, notIf, isEq]
  case hB =>
    intro i hi E' hE hns'
    have hN' : E'.N.n = _ := (congrArg Lim.n hE).trans hN
    have hF' : E'.N.adv = _ := (congrArg Lim.adv hE).trans hF
    refine vc_sound hΓ mixed _ _ _ ?_
    rw [if_pos hi]
    by_cases h1 : (upN l i).length = 1
    · have hik : i = k := by
        rcases Nat.lt_or_ge i k with h | h
        · have := hk1 i h; omega
        · omega
      subst hik
      have g1 : (((upN l i).length : Int) == 1) = true := by simp [h1]
      have hr := hroot i (Nat.le_refl _)
      rw [rootS_le (by omega)] at hr
      obtain ⟨x, hx⟩ := List.length_eq_one_iff.1 h1
      rw [hx] at hr g1 ⊢
      have hr : x = rootS l := hr
      have hi1 : ¬ (i + 1 ≤ i) := by omega
      have g2 : (((1 : Nat) : Int) == 1) = true := rfl
      rw [if_neg hi1, ← hr]
      simp only [runA, ncE, faE, fieldE, extE, cloE, bsE, idxE, okE, okM, entryT, entryMem, cellsAt, List.append_nil, List.nil_append, List.cons_append, loadE, storeE, binE, isSh, intOp, AV.flat, Option.map_some, Option.map_none, ↓reduceIte, Nat.reduceLT, Nat.reduceLeDiff, Nat.reduceEqDiff, Nat.reduceAdd, Nat.reduceMul, Nat.reduceSub, decide_true, decide_false, Option.getD_some, Option.getD_none, objName, rowName, resName, resCell, inObj, inRow, outName, outCell, EP.bind, List.getElem?_cons_zero, List.getElem?_cons_succ, List.length_cons, List.length_nil, List.map_cons, List.map_nil, cndE, reduceCtorEq, and_self, and_true, true_and, List.all_cons, List.all_nil, AV.scal, Bool.and_self, Bool.and_true, putAt, List.take, List.drop, Option.bind_some, Option.bind_none, Bool.false_eq_true, callE, argsE, AV.pure?, AV.toPC, toPCs, objsE, cellsE, resAt, backObjs, backCells, freeE, keys, exitMem, shapeOf, oneE, List.nodup_cons, List.mem_cons, List.not_mem_nil, or_false, not_false_eq_true, List.nodup_nil, ext, unE, Nat.reduceBEq, builtinE, lenE, AV.rows, appendE, addedE, newRowE, newObjE, strz, mm, convE, buildE, fillE, chunks, List.replicate, List.flatten, guardE, cndQ, List.getElem?_toArray, List.flatMap, List.flatten_cons, List.flatten_nil, Int.reduceLT, Int.reduceLE, Int.reduceToNat, Option.map, Nat.zero_add, Nat.mul_one, Nat.one_mul, Nat.zero_le, Nat.add_zero, List.length_append, beq_true, beq_false, Bool.not_true, Bool.not_false, strOp, beq_self_eq_true, Int.toNat_natCast, indexE, Int.natCast_nonneg, mkE, newMslE, Bool.or_false, Bool.or_true, Bool.false_or, Bool.true_or, look2, denil, List.append_eq, once, without, convO, hN', hF', ty_3, ty_9, ty_23, notIf, isEq, g2, texts]
      simp only [Weak, wkM, wkT, wkRen, AMd, AMds, AMd.AMp, CMd, look_cons, look_nil, get_mk, mem_mk, AS.get, AS.mem, keys, entryMem, cellsAt, List.map_nil, List.map_cons, List.not_mem_nil, List.mem_cons, or_false, false_implies, implies_true, and_true, true_and, and_self, ↓reduceIte, Nat.reduceEqDiff, Option.getD_some, Option.getD_none, Option.map_some, Option.map_none, Option.isSome_some, Option.isSome_none, forall_eq_or_imp, forall_eq, reduceCtorEq, List.append_nil, List.nil_append, List.cons_append, Nat.reduceAdd, Nat.reduceMul, inObj, inRow]
      first | done | simp
    · have g1 : (((upN l i).length : Int) == 1) = false := by simp; omega
      have hif : (if i + 1 ≤ k then ([] : List UInt8) else rootS l) = [] := by
        split
        · rfl
        · obtain rfl : i = k := by omega
          have hr := hroot i (Nat.le_refl _)
          rw [rootS_le (by omega)] at hr
          have : upN l i = [] := List.eq_nil_of_length_eq_zero (by omega)
          rw [this] at hr
          exact hr.symm
      rw [hif]
      simp only [runA, ncE, faE, fieldE, extE, cloE, bsE, idxE, okE, okM, entryT, entryMem, cellsAt, List.append_nil, List.nil_append, List.cons_append, loadE, storeE, binE, isSh, intOp, AV.flat, Option.map_some, Option.map_none, ↓reduceIte, Nat.reduceLT, Nat.reduceLeDiff, Nat.reduceEqDiff, Nat.reduceAdd, Nat.reduceMul, Nat.reduceSub, decide_true, decide_false, Option.getD_some, Option.getD_none, objName, rowName, resName, resCell, inObj, inRow, outName, outCell, EP.bind, List.getElem?_cons_zero, List.getElem?_cons_succ, List.length_cons, List.length_nil, List.map_cons, List.map_nil, cndE, reduceCtorEq, and_self, and_true, true_and, List.all_cons, List.all_nil, AV.scal, Bool.and_self, Bool.and_true, putAt, List.take, List.drop, Option.bind_some, Option.bind_none, Bool.false_eq_true, callE, argsE, AV.pure?, AV.toPC, toPCs, objsE, cellsE, resAt, backObjs, backCells, freeE, keys, exitMem, shapeOf, oneE, List.nodup_cons, List.mem_cons, List.not_mem_nil, or_false, not_false_eq_true, List.nodup_nil, ext, unE, Nat.reduceBEq, builtinE, lenE, AV.rows, appendE, addedE, newRowE, newObjE, strz, mm, convE, buildE, fillE, chunks, List.replicate, List.flatten, guardE, cndQ, List.getElem?_toArray, List.flatMap, List.flatten_cons, List.flatten_nil, Int.reduceLT, Int.reduceLE, Int.reduceToNat, Option.map, Nat.zero_add, Nat.mul_one, Nat.one_mul, Nat.zero_le, Nat.add_zero, List.length_append, beq_true, beq_false, Bool.not_true, Bool.not_false, strOp, beq_self_eq_true, Int.toNat_natCast, indexE, Int.natCast_nonneg, mkE, newMslE, Bool.or_false, Bool.or_true, Bool.false_or, Bool.true_or, look2, denil, List.append_eq, once, without, convO, hN', hF', ty_3, ty_9, ty_23, notIf, isEq, g1, texts_length]
      simp only [Weak, wkM, wkT, wkRen, AMd, AMds, AMd.AMp, CMd, look_cons, look_nil, get_mk, mem_mk, AS.get, AS.mem, keys, entryMem, cellsAt, List.map_nil, List.map_cons, List.not_mem_nil, List.mem_cons, or_false, false_implies, implies_true, and_true, true_and, and_self, ↓reduceIte, Nat.reduceEqDiff, Option.getD_some, Option.getD_none, Option.map_some, Option.map_none, Option.isSome_some, Option.isSome_none, forall_eq_or_imp, forall_eq, reduceCtorEq, List.append_nil, List.nil_append, List.cons_append, Nat.reduceAdd, Nat.reduceMul, inObj, inRow]
      first | done | simp
  case hQ =>
    rw [if_neg (by omega), thenM_normal]
    refine AWPm.of fun E' hE hns' => vc_sound hΓ mixed _ _ _ ?_
    have hN' : E'.N.n = _ := (congrArg Lim.n hE).trans hN
    have hF' : E'.N.adv = _ := (congrArg Lim.adv hE).trans hF
    simp only [runA, ncE, faE, fieldE, extE, cloE, bsE, idxE, okE, okM, entryT, entryMem, cellsAt, List.append_nil, List.nil_append, List.cons_append, loadE, storeE, binE, isSh, intOp, AV.flat, Option.map_some, Option.map_none, ↓reduceIte, Nat.reduceLT, Nat.reduceLeDiff, Nat.reduceEqDiff, Nat.reduceAdd, Nat.reduceMul, Nat.reduceSub, decide_true, decide_false, Option.getD_some, Option.getD_none, objName, rowName, resName, resCell, inObj, inRow, outName, outCell, EP.bind, List.getElem?_cons_zero, List.getElem?_cons_succ, List.length_cons, List.length_nil, List.map_cons, List.map_nil, cndE, reduceCtorEq, and_self, and_true, true_and, List.all_cons, List.all_nil, AV.scal, Bool.and_self, Bool.and_true, putAt, List.take, List.drop, Option.bind_some, Option.bind_none, Bool.false_eq_true, callE, argsE, AV.pure?, AV.toPC, toPCs, objsE, cellsE, resAt, backObjs, backCells, freeE, keys, exitMem, shapeOf, oneE, List.nodup_cons, List.mem_cons, List.not_mem_nil, or_false, not_false_eq_true, List.nodup_nil, ext, unE, Nat.reduceBEq, builtinE, lenE, AV.rows, appendE, addedE, newRowE, newObjE, strz, mm, convE, buildE, fillE, chunks, List.replicate, List.flatten, guardE, cndQ, List.getElem?_toArray, List.flatMap, List.flatten_cons, List.flatten_nil, Int.reduceLT, Int.reduceLE, Int.reduceToNat, Option.map, Nat.zero_add, Nat.mul_one, Nat.one_mul, Nat.zero_le, Nat.add_zero, List.length_append, beq_true, beq_false, Bool.not_true, Bool.not_false, strOp, beq_self_eq_true, Int.toNat_natCast, indexE, Int.natCast_nonneg, mkE, newMslE, Bool.or_false, Bool.or_true, Bool.false_or, Bool.true_or, look2, denil, List.append_eq, once, without, convO, hN', hF', ty_3, ty_9, ty_23, notIf, isEq]
    simp only [retQ, retE, RetOK, objPairs, resPairs, cellPairs, objCells, retRen, retMem, exitMem, exitVals, resAt, entryMem, cellsAt, AMds, AMd, CMd, keys, List.append_nil, List.nil_append, List.cons_append, List.map_cons, List.map_nil, List.nodup_cons, List.mem_cons, List.not_mem_nil, or_false, not_false_eq_true, List.nodup_nil, get_mk, mem_mk, look_nil, look_cons, Option.isSome_some, Option.isSome_none, and_self, and_true, true_and, ↓reduceIte, Nat.reduceEqDiff, Nat.reduceAdd, Nat.reduceMul, Option.getD_some, inObj, inRow, outName, outCell, forall_eq_or_imp, forall_eq, implies_true, Nat.reduceBEq, reduceCtorEq, Bool.false_eq_true, andThen_some, andThen_none, Nat.zero_add, List.length_nil, List.length_cons, false_implies, List.length_append, loadE, run_ask, run_ret, run_fail, obind_some, obind_none, List.zip_cons_cons, List.zip_nil_left, List.zip_nil_right, AMd.AMp, List.take, List.drop, List.getElem?_cons_zero, List.getElem?_cons_succ, Nat.reduceLeDiff, Nat.zero_le, List.forall_mem_nil, rs_97]

end Go.Proofs.Ytjdokoldiemobaa.AM
