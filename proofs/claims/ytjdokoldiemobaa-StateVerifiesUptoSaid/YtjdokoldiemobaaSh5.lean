/-
  SHA: a block's words: the schedule.
-/
import Derived.Test.YtjdokoldiemobaaSh4
set_option linter.unusedVariables false
set_option linter.unusedSimpArgs false
namespace Go.Proofs.Ytjdokoldiemobaa.AM
open Go

variable {Γ : FuncId → Contract}

/-! a block's words -/
def nextW (b : List UInt8) (l : List W32) (t : Nat) : W32 :=
  if t < 16 then wordS b (4 * (t : Int)) else
    (((rotr (l.getD (t - 2) 0) 17 ^^^ rotr (l.getD (t - 2) 0) 19) ^^^ (l.getD (t - 2) 0 >>> 10)) + l.getD (t - 7) 0 + ((rotr (l.getD (t - 15) 0) 7 ^^^ rotr (l.getD (t - 15) 0) 18) ^^^ (l.getD (t - 15) 0 >>> 3))) + l.getD (t - 16) 0
def wS (b : List UInt8) : Nat → List W32
  | 0 => []
  | t + 1 => wS b t ++ [nextW b (wS b t) t]
theorem wS_length (b : List UInt8) : ∀ t, (wS b t).length = t
  | 0 => rfl
  | t + 1 => by simp [wS, wS_length b t]
def wCells (b : List UInt8) (t : Nat) : List W32 := wS b t ++ zerosW (64 - t)
theorem wCells_length (b : List UInt8) (t : Nat) (h : t ≤ 64) : (wCells b t).length = 64 := by
  simp [wCells, wS_length, zerosW_length]; omega
theorem wCells_get (b : List UInt8) (t i : Nat) (h : i < t) : (wCells b t)[i]? = some ((wS b t).getD i 0) := by
  have hl : i < (wS b t).length := by rw [wS_length]; exact h
  unfold wCells
  rw [List.getElem?_append_left hl, List.getD_eq_getElem?_getD]
  simp [hl]
theorem wCells_set (b : List UInt8) (t : Nat) (h : t < 64) : (wCells b t).set t (nextW b (wS b t) t) = wCells b (t + 1) := by
  unfold wCells
  have hz : zerosW (64 - t) = 0 :: zerosW (64 - (t + 1)) := by
    unfold zerosW
    rw [show 64 - t = (64 - (t + 1)) + 1 from by omega, List.replicate_succ]
  rw [hz, List.set_append_right _ _ (by rw [wS_length]; exact Nat.le_refl _), wS_length, Nat.sub_self, List.set_cons_zero, wS, List.append_assoc]
  rfl
theorem wCells_end (b : List UInt8) : wCells b 64 = wS b 64 := by simp [wCells, zerosW]

noncomputable def schedC : Contract := mkC (α := List UInt8) (fun b => b.length ≤ 9223372036854775807) (fun b => [.c (.sl (bytes b))]) (fun _ => []) (fun b => ⟨[.pv (.agg (cellsW (wS b 64)))], []⟩)
theorem sched_at (b : List UInt8) (h : b.length ≤ 9223372036854775807) : schedC [.c (.sl (bytes b))] [] = some ⟨[.pv (.agg (cellsW (wS b 64)))], []⟩ :=
  mkC_at (α := List UInt8) b h (by
    rintro y _ h _
    simp at h
    rw [bytes_inj h])

set_option maxRecDepth 100000 in
set_option maxHeartbeats 2000000 in
theorem sched_sound (hΓ : SoundG Try.prog Γ) (h88 : Γ 188 = wordC) (h86 : Γ 179 = rightC) : SoundC Try.prog 178 schedC := by
  refine sound_fn Try.func178 (by kernel_rfl) rfl rfl ?_
  intro args objs r hr
  obtain ⟨b, hl, rfl, rfl, rfl⟩ := mkC_inv hr
  refine ⟨resB_W _, by show 1 ≤ _; decide, fun E hN hns hF => ?_⟩
  refine vc_sound hΓ mixed _ _ _ ?_
  have hN := hN.trans nt_178
  simp only [runA, ncE, faE, fieldE, extE, cloE, bsE, idxE, okE, okM, entryT, entryMem, cellsAt, List.append_nil, List.nil_append, List.cons_append, loadE, storeE, isSh, intOp, AV.flat, Option.map_some, Option.map_none, ↓reduceIte, Nat.reduceLT, Nat.reduceLeDiff, Nat.reduceEqDiff, Nat.reduceAdd, Nat.reduceMul, Nat.reduceSub, decide_true, decide_false, Option.getD_some, Option.getD_none, objName, rowName, resName, resCell, inObj, inRow, outName, outCell, EP.bind, List.getElem?_cons_zero, List.getElem?_cons_succ, List.length_cons, List.length_nil, List.map_cons, List.map_nil, cndE, reduceCtorEq, and_self, and_true, true_and, List.all_cons, List.all_nil, AV.scal, Bool.and_self, Bool.and_true, putAt, List.take, List.drop, Option.bind_some, Option.bind_none, Bool.false_eq_true, callE, argsE, AV.pure?, AV.toPC, toPCs, objsE, cellsE, resAt, backObjs, backCells, freeE, keys, exitMem, shapeOf, oneE, List.nodup_cons, List.mem_cons, List.not_mem_nil, or_false, not_false_eq_true, List.nodup_nil, ext, Nat.reduceBEq, builtinE, lenE, AV.rows, appendE, addedE, newRowE, newObjE, strz, mm, buildE, fillE, chunks, List.replicate, List.flatten, guardE, cndQ, List.getElem?_toArray, List.flatMap, List.flatten_cons, List.flatten_nil, Int.reduceLT, Int.reduceLE, Int.reduceToNat, Option.map, Nat.zero_add, Nat.mul_one, Nat.one_mul, Nat.zero_le, Nat.add_zero, List.length_append, beq_true, beq_false, Bool.not_true, Bool.not_false, strOp, beq_self_eq_true, Int.toNat_natCast, indexE, Int.natCast_nonneg, mkE, newMslE, Bool.or_false, Bool.or_true, Bool.false_or, Bool.true_or, look2, denil, List.append_eq, once, without, convO, w_add, w_and, w_or, w_xor, w_xorF, w_not, w_shl8, w_shl16, w_shl24, w_shr3, w_shr8, w_shr10, w_shr16, w_shr24, b_add, b_sub, b_mul, b_quo, b_rem, b_and, b_or, b_xor, b_andNot, b_eql, b_neq, b_lss, b_leq, b_gtr, b_geq, b_str, b_bool, u_neg, u_not, c_bw, c_wb, cellsW_length, cellsW_pure, cellsW_all, cellsE_W, backCells_W, cellsAt_W, cellPairs_W, cellsW_toPCs, cellsW_map, hN, hF, ty_3, ty_5, ty_49, ty_175, ty_176, notIf, isEq, zrep_W]
  refine AWP.loop (fun c s => ∃ i : Nat, i ≤ 16 ∧ c = 16 - i ∧ s = ⟨[(0, .c (.sl (bytes b))), (2, .ptr 128 0), (3, .ptr 192 0), (10, .c (.int .i64 (i : Int)))], [(192, .obj (cellsW (wCells b i)) false), (128, .obj (cellsW (zerosW 64)) false)]⟩) ⟨16, _, ?w, 0, Nat.zero_le _, rfl, rfl⟩ ?r
  case w =>
    rw [hns]
    simp only [Weak, wkM, wkT, wkRen, AMd, AMds, AMd.AMp, CMd, look_cons, look_nil, get_mk, mem_mk, AS.get, AS.mem, keys, entryMem, cellsAt, List.map_nil, List.map_cons, List.not_mem_nil, List.mem_cons, or_false, false_implies, implies_true, and_true, true_and, and_self, ↓reduceIte, Nat.reduceEqDiff, Option.getD_some, Option.getD_none, Option.map_some, Option.map_none, Option.isSome_some, Option.isSome_none, forall_eq_or_imp, forall_eq, reduceCtorEq, List.append_nil, List.nil_append, List.cons_append, Nat.reduceAdd, Nat.reduceMul, inObj, inRow, cellsW_amds]
    first | done | (simp [wCells, wS, cellsW_amds])
  case r =>
    rintro c s ⟨i, hi, rfl, rfl⟩
    refine vc_sound hΓ mixed _ _ _ ?_
    have hcl := wCells_length b i (by omega)
    by_cases hlt : i < 16
    · have h1 : decide ((i : Int) < 16) = true := by simp; omega
      have e1 : IntKind.i64.wrap ((i : Int) + 1) = (i : Int) + 1 := wrapI (by omega)
      have e2 : IntKind.i64.wrap (4 * (i : Int)) = 4 * (i : Int) := wrapI (by omega)
      have e3 : (i : Int) < ((64 : Nat) : Int) := by omega
      have hw := word_at b (4 * (i : Int)) hl
      have hp := cellsW_put (l := wCells b i) (i := i) (wordS b (4 * (i : Int))) (by omega)
      have hq : (wCells b i).set i (wordS b (4 * (i : Int))) = wCells b (i + 1) := by
        rw [← wCells_set b i (by omega), nextW, if_pos hlt]
      have e4 : i + 1 ≤ 64 := by omega
      simp only [runA, ncE, faE, fieldE, extE, cloE, bsE, idxE, okE, okM, entryT, entryMem, cellsAt, List.append_nil, List.nil_append, List.cons_append, loadE, storeE, isSh, intOp, AV.flat, Option.map_some, Option.map_none, ↓reduceIte, Nat.reduceLT, Nat.reduceLeDiff, Nat.reduceEqDiff, Nat.reduceAdd, Nat.reduceMul, Nat.reduceSub, decide_true, decide_false, Option.getD_some, Option.getD_none, objName, rowName, resName, resCell, inObj, inRow, outName, outCell, EP.bind, List.getElem?_cons_zero, List.getElem?_cons_succ, List.length_cons, List.length_nil, List.map_cons, List.map_nil, cndE, reduceCtorEq, and_self, and_true, true_and, List.all_cons, List.all_nil, AV.scal, Bool.and_self, Bool.and_true, List.take, List.drop, Option.bind_some, Option.bind_none, Bool.false_eq_true, callE, argsE, AV.pure?, AV.toPC, toPCs, objsE, cellsE, resAt, backObjs, backCells, freeE, keys, exitMem, shapeOf, oneE, List.nodup_cons, List.mem_cons, List.not_mem_nil, or_false, not_false_eq_true, List.nodup_nil, ext, Nat.reduceBEq, builtinE, lenE, AV.rows, appendE, addedE, newRowE, newObjE, strz, mm, buildE, fillE, chunks, List.replicate, List.flatten, guardE, cndQ, List.getElem?_toArray, List.flatMap, List.flatten_cons, List.flatten_nil, Int.reduceLT, Int.reduceLE, Int.reduceToNat, Option.map, Nat.zero_add, Nat.mul_one, Nat.one_mul, Nat.zero_le, Nat.add_zero, List.length_append, beq_true, beq_false, Bool.not_true, Bool.not_false, strOp, beq_self_eq_true, Int.toNat_natCast, indexE, Int.natCast_nonneg, mkE, newMslE, Bool.or_false, Bool.or_true, Bool.false_or, Bool.true_or, look2, denil, List.append_eq, once, without, convO, w_add, w_and, w_or, w_xor, w_xorF, w_not, w_shl8, w_shl16, w_shl24, w_shr3, w_shr8, w_shr10, w_shr16, w_shr24, b_add, b_sub, b_mul, b_quo, b_rem, b_and, b_or, b_xor, b_andNot, b_eql, b_neq, b_lss, b_leq, b_gtr, b_geq, b_str, b_bool, u_neg, u_not, c_bw, c_wb, cellsW_length, cellsW_pure, cellsW_all, cellsE_W, backCells_W, cellsAt_W, cellPairs_W, cellsW_toPCs, cellsW_map, hN, hF, ty_3, ty_5, ty_49, ty_175, ty_176, notIf, isEq, intOp, h1, e1, e2, e3, e4, h88, hw, hp, hq, hcl]
      refine ⟨16 - (i + 1), _, by omega, ?_, i + 1, by omega, rfl, rfl⟩
      rw [hns]
      simp only [Weak, wkM, wkT, wkRen, AMd, AMds, AMd.AMp, CMd, look_cons, look_nil, get_mk, mem_mk, AS.get, AS.mem, keys, entryMem, cellsAt, List.map_nil, List.map_cons, List.not_mem_nil, List.mem_cons, or_false, false_implies, implies_true, and_true, true_and, and_self, ↓reduceIte, Nat.reduceEqDiff, Option.getD_some, Option.getD_none, Option.map_some, Option.map_none, Option.isSome_some, Option.isSome_none, forall_eq_or_imp, forall_eq, reduceCtorEq, List.append_nil, List.nil_append, List.cons_append, Nat.reduceAdd, Nat.reduceMul, inObj, inRow, cellsW_amds]
      first | done | simp
    · have h1 : decide ((i : Int) < 16) = false := by simp; omega
      obtain rfl : i = 16 := by omega
      simp only [runA, ncE, faE, fieldE, extE, cloE, bsE, idxE, okE, okM, entryT, entryMem, cellsAt, List.append_nil, List.nil_append, List.cons_append, loadE, storeE, isSh, intOp, AV.flat, Option.map_some, Option.map_none, ↓reduceIte, Nat.reduceLT, Nat.reduceLeDiff, Nat.reduceEqDiff, Nat.reduceAdd, Nat.reduceMul, Nat.reduceSub, decide_true, decide_false, Option.getD_some, Option.getD_none, objName, rowName, resName, resCell, inObj, inRow, outName, outCell, EP.bind, List.getElem?_cons_zero, List.getElem?_cons_succ, List.length_cons, List.length_nil, List.map_cons, List.map_nil, cndE, reduceCtorEq, and_self, and_true, true_and, List.all_cons, List.all_nil, AV.scal, Bool.and_self, Bool.and_true, putAt, List.take, List.drop, Option.bind_some, Option.bind_none, Bool.false_eq_true, callE, argsE, AV.pure?, AV.toPC, toPCs, objsE, cellsE, resAt, backObjs, backCells, freeE, keys, exitMem, shapeOf, oneE, List.nodup_cons, List.mem_cons, List.not_mem_nil, or_false, not_false_eq_true, List.nodup_nil, ext, Nat.reduceBEq, builtinE, lenE, AV.rows, appendE, addedE, newRowE, newObjE, strz, mm, buildE, fillE, chunks, List.replicate, List.flatten, guardE, cndQ, List.getElem?_toArray, List.flatMap, List.flatten_cons, List.flatten_nil, Int.reduceLT, Int.reduceLE, Int.reduceToNat, Option.map, Nat.zero_add, Nat.mul_one, Nat.one_mul, Nat.zero_le, Nat.add_zero, List.length_append, beq_true, beq_false, Bool.not_true, Bool.not_false, strOp, beq_self_eq_true, Int.toNat_natCast, indexE, Int.natCast_nonneg, mkE, newMslE, Bool.or_false, Bool.or_true, Bool.false_or, Bool.true_or, look2, denil, List.append_eq, once, without, convO, w_add, w_and, w_or, w_xor, w_xorF, w_not, w_shl8, w_shl16, w_shl24, w_shr3, w_shr8, w_shr10, w_shr16, w_shr24, b_add, b_sub, b_mul, b_quo, b_rem, b_and, b_or, b_xor, b_andNot, b_eql, b_neq, b_lss, b_leq, b_gtr, b_geq, b_str, b_bool, u_neg, u_not, c_bw, c_wb, cellsW_length, cellsW_pure, cellsW_all, cellsE_W, backCells_W, cellsAt_W, cellPairs_W, cellsW_toPCs, cellsW_map, hN, hF, ty_3, ty_5, ty_49, ty_175, ty_176, notIf, isEq, intOp, h1]
      refine AWP.loop (fun c s => ∃ i : Nat, 16 ≤ i ∧ i ≤ 64 ∧ c = 64 - i ∧ s = ⟨[(2, .ptr 128 0), (3, .ptr 192 0), (5, .c (.int .i64 (i : Int)))], [(192, .obj (cellsW (wCells b i)) false), (128, .obj (cellsW (zerosW 64)) false)]⟩) ⟨48, _, ?w2, 16, by omega, by omega, rfl, rfl⟩ ?r2
      case w2 =>
        rw [hns]
        simp only [Weak, wkM, wkT, wkRen, AMd, AMds, AMd.AMp, CMd, look_cons, look_nil, get_mk, mem_mk, AS.get, AS.mem, keys, entryMem, cellsAt, List.map_nil, List.map_cons, List.not_mem_nil, List.mem_cons, or_false, false_implies, implies_true, and_true, true_and, and_self, ↓reduceIte, Nat.reduceEqDiff, Option.getD_some, Option.getD_none, Option.map_some, Option.map_none, Option.isSome_some, Option.isSome_none, forall_eq_or_imp, forall_eq, reduceCtorEq, List.append_nil, List.nil_append, List.cons_append, Nat.reduceAdd, Nat.reduceMul, inObj, inRow, cellsW_amds]
        first | done | rfl | simp
      case r2 =>
        rintro c s ⟨i, hi16, hi, rfl, rfl⟩
        refine vc_sound hΓ mixed _ _ _ ?_
        have hcl := wCells_length b i (by omega)
        by_cases hlt : i < 64
        · have h1 : decide ((i : Int) < 64) = true := by simp; omega
          have e1 : IntKind.i64.wrap ((i : Int) + 1) = (i : Int) + 1 := wrapI (by omega)
          have a15 : IntKind.i64.wrap ((i : Int) - 15) = ((i - 15 : Nat) : Int) := by rw [wrapI (by omega)]; omega
          have a2 : IntKind.i64.wrap ((i : Int) - 2) = ((i - 2 : Nat) : Int) := by rw [wrapI (by omega)]; omega
          have a7 : IntKind.i64.wrap ((i : Int) - 7) = ((i - 7 : Nat) : Int) := by rw [wrapI (by omega)]; omega
          have a16 : IntKind.i64.wrap ((i : Int) - 16) = ((i - 16 : Nat) : Int) := by rw [wrapI (by omega)]; omega
          have l0 : (i : Int) < ((64 : Nat) : Int) := by omega
          have l15 : ((i - 15 : Nat) : Int) < ((64 : Nat) : Int) := by omega
          have l2 : ((i - 2 : Nat) : Int) < ((64 : Nat) : Int) := by omega
          have l7 : ((i - 7 : Nat) : Int) < ((64 : Nat) : Int) := by omega
          have l16 : ((i - 16 : Nat) : Int) < ((64 : Nat) : Int) := by omega
          have g15 := cellsW_get (wCells_get b i (i - 15) (by omega))
          have g2 := cellsW_get (wCells_get b i (i - 2) (by omega))
          have g7 := cellsW_get (wCells_get b i (i - 7) (by omega))
          have g16 := cellsW_get (wCells_get b i (i - 16) (by omega))
          have r7 : ∀ x, rightC [.c (wC x), .c (.int .i64 7)] [] = _ := fun x => right_at x 7 (by decide) (by decide)
          have r18 : ∀ x, rightC [.c (wC x), .c (.int .i64 18)] [] = _ := fun x => right_at x 18 (by decide) (by decide)
          have r17 : ∀ x, rightC [.c (wC x), .c (.int .i64 17)] [] = _ := fun x => right_at x 17 (by decide) (by decide)
          have r19 : ∀ x, rightC [.c (wC x), .c (.int .i64 19)] [] = _ := fun x => right_at x 19 (by decide) (by decide)
          have hp := cellsW_put (l := wCells b i) (i := i) (nextW b (wS b i) i) (by omega)
          have hq := wCells_set b i hlt
          have hnw : (((rotr ((wS b i).getD (i - 2) 0) 17 ^^^ rotr ((wS b i).getD (i - 2) 0) 19) ^^^ ((wS b i).getD (i - 2) 0 >>> 10)) + (wS b i).getD (i - 7) 0 + ((rotr ((wS b i).getD (i - 15) 0) 7 ^^^ rotr ((wS b i).getD (i - 15) 0) 18) ^^^ ((wS b i).getD (i - 15) 0 >>> 3))) + (wS b i).getD (i - 16) 0 = nextW b (wS b i) i := by
            rw [nextW, if_neg (by omega)]
          have e4 : i + 1 ≤ 64 := by omega
          simp only [runA, ncE, faE, fieldE, extE, cloE, bsE, idxE, okE, okM, entryT, entryMem, cellsAt, List.append_nil, List.nil_append, List.cons_append, loadE, storeE, isSh, intOp, AV.flat, Option.map_some, Option.map_none, ↓reduceIte, Nat.reduceLT, Nat.reduceLeDiff, Nat.reduceEqDiff, Nat.reduceAdd, Nat.reduceMul, Nat.reduceSub, decide_true, decide_false, Option.getD_some, Option.getD_none, objName, rowName, resName, resCell, inObj, inRow, outName, outCell, EP.bind, List.getElem?_cons_zero, List.getElem?_cons_succ, List.length_cons, List.length_nil, List.map_cons, List.map_nil, cndE, reduceCtorEq, and_self, and_true, true_and, List.all_cons, List.all_nil, AV.scal, Bool.and_self, Bool.and_true, List.take, List.drop, Option.bind_some, Option.bind_none, Bool.false_eq_true, callE, argsE, AV.pure?, AV.toPC, toPCs, objsE, cellsE, resAt, backObjs, backCells, freeE, keys, exitMem, shapeOf, oneE, List.nodup_cons, List.mem_cons, List.not_mem_nil, or_false, not_false_eq_true, List.nodup_nil, ext, Nat.reduceBEq, builtinE, lenE, AV.rows, appendE, addedE, newRowE, newObjE, strz, mm, buildE, fillE, chunks, List.replicate, List.flatten, guardE, cndQ, List.getElem?_toArray, List.flatMap, List.flatten_cons, List.flatten_nil, Int.reduceLT, Int.reduceLE, Int.reduceToNat, Option.map, Nat.zero_add, Nat.mul_one, Nat.one_mul, Nat.zero_le, Nat.add_zero, List.length_append, beq_true, beq_false, Bool.not_true, Bool.not_false, strOp, beq_self_eq_true, Int.toNat_natCast, indexE, Int.natCast_nonneg, mkE, newMslE, Bool.or_false, Bool.or_true, Bool.false_or, Bool.true_or, look2, denil, List.append_eq, once, without, convO, w_add, w_and, w_or, w_xor, w_xorF, w_not, w_shl8, w_shl16, w_shl24, w_shr3, w_shr8, w_shr10, w_shr16, w_shr24, b_add, b_sub, b_mul, b_quo, b_rem, b_and, b_or, b_xor, b_andNot, b_eql, b_neq, b_lss, b_leq, b_gtr, b_geq, b_str, b_bool, u_neg, u_not, c_bw, c_wb, cellsW_length, cellsW_pure, cellsW_all, cellsE_W, backCells_W, cellsAt_W, cellPairs_W, cellsW_toPCs, cellsW_map, hN, hF, ty_3, ty_5, ty_49, ty_175, ty_176, notIf, isEq, intOp, h1, e1, a15, a2, a7, a16, l0, l15, l2, l7, l16, g15, g2, g7, g16, r7, r18, r17, r19, h86, hcl, e4, hnw, hp, hq]
          refine drawnP_intro (by kernel_rfl) (by kernel_rfl) ?_
          simp only [runA, ncE, faE, fieldE, extE, cloE, bsE, idxE, okE, okM, entryT, entryMem, cellsAt, List.append_nil, List.nil_append, List.cons_append, loadE, storeE, isSh, intOp, AV.flat, Option.map_some, Option.map_none, ↓reduceIte, Nat.reduceLT, Nat.reduceLeDiff, Nat.reduceEqDiff, Nat.reduceAdd, Nat.reduceMul, Nat.reduceSub, decide_true, decide_false, Option.getD_some, Option.getD_none, objName, rowName, resName, resCell, inObj, inRow, outName, outCell, EP.bind, List.getElem?_cons_zero, List.getElem?_cons_succ, List.length_cons, List.length_nil, List.map_cons, List.map_nil, cndE, reduceCtorEq, and_self, and_true, true_and, List.all_cons, List.all_nil, AV.scal, Bool.and_self, Bool.and_true, List.take, List.drop, Option.bind_some, Option.bind_none, Bool.false_eq_true, callE, argsE, AV.pure?, AV.toPC, toPCs, objsE, cellsE, resAt, backObjs, backCells, freeE, keys, exitMem, shapeOf, oneE, List.nodup_cons, List.mem_cons, List.not_mem_nil, or_false, not_false_eq_true, List.nodup_nil, ext, Nat.reduceBEq, builtinE, lenE, AV.rows, appendE, addedE, newRowE, newObjE, strz, mm, buildE, fillE, chunks, List.replicate, List.flatten, guardE, cndQ, List.getElem?_toArray, List.flatMap, List.flatten_cons, List.flatten_nil, Int.reduceLT, Int.reduceLE, Int.reduceToNat, Option.map, Nat.zero_add, Nat.mul_one, Nat.one_mul, Nat.zero_le, Nat.add_zero, List.length_append, beq_true, beq_false, Bool.not_true, Bool.not_false, strOp, beq_self_eq_true, Int.toNat_natCast, indexE, Int.natCast_nonneg, mkE, newMslE, Bool.or_false, Bool.or_true, Bool.false_or, Bool.true_or, look2, denil, List.append_eq, once, without, convO, w_add, w_and, w_or, w_xor, w_xorF, w_not, w_shl8, w_shl16, w_shl24, w_shr3, w_shr8, w_shr10, w_shr16, w_shr24, b_add, b_sub, b_mul, b_quo, b_rem, b_and, b_or, b_xor, b_andNot, b_eql, b_neq, b_lss, b_leq, b_gtr, b_geq, b_str, b_bool, u_neg, u_not, c_bw, c_wb, cellsW_length, cellsW_pure, cellsW_all, cellsE_W, backCells_W, cellsAt_W, cellPairs_W, cellsW_toPCs, cellsW_map, hN, hF, ty_3, ty_5, ty_49, ty_175, ty_176, notIf, isEq, intOp, h1, e1, a15, a2, a7, a16, l0, l15, l2, l7, l16, g15, g2, g7, g16, r7, r18, r17, r19, h86, hcl, e4, hnw, hp, hq]
          refine drawnP_intro (by kernel_rfl) (by kernel_rfl) ?_
          simp only [runA, ncE, faE, fieldE, extE, cloE, bsE, idxE, okE, okM, entryT, entryMem, cellsAt, List.append_nil, List.nil_append, List.cons_append, loadE, storeE, isSh, intOp, AV.flat, Option.map_some, Option.map_none, ↓reduceIte, Nat.reduceLT, Nat.reduceLeDiff, Nat.reduceEqDiff, Nat.reduceAdd, Nat.reduceMul, Nat.reduceSub, decide_true, decide_false, Option.getD_some, Option.getD_none, objName, rowName, resName, resCell, inObj, inRow, outName, outCell, EP.bind, List.getElem?_cons_zero, List.getElem?_cons_succ, List.length_cons, List.length_nil, List.map_cons, List.map_nil, cndE, reduceCtorEq, and_self, and_true, true_and, List.all_cons, List.all_nil, AV.scal, Bool.and_self, Bool.and_true, List.take, List.drop, Option.bind_some, Option.bind_none, Bool.false_eq_true, callE, argsE, AV.pure?, AV.toPC, toPCs, objsE, cellsE, resAt, backObjs, backCells, freeE, keys, exitMem, shapeOf, oneE, List.nodup_cons, List.mem_cons, List.not_mem_nil, or_false, not_false_eq_true, List.nodup_nil, ext, Nat.reduceBEq, builtinE, lenE, AV.rows, appendE, addedE, newRowE, newObjE, strz, mm, buildE, fillE, chunks, List.replicate, List.flatten, guardE, cndQ, List.getElem?_toArray, List.flatMap, List.flatten_cons, List.flatten_nil, Int.reduceLT, Int.reduceLE, Int.reduceToNat, Option.map, Nat.zero_add, Nat.mul_one, Nat.one_mul, Nat.zero_le, Nat.add_zero, List.length_append, beq_true, beq_false, Bool.not_true, Bool.not_false, strOp, beq_self_eq_true, Int.toNat_natCast, indexE, Int.natCast_nonneg, mkE, newMslE, Bool.or_false, Bool.or_true, Bool.false_or, Bool.true_or, look2, denil, List.append_eq, once, without, convO, w_add, w_and, w_or, w_xor, w_xorF, w_not, w_shl8, w_shl16, w_shl24, w_shr3, w_shr8, w_shr10, w_shr16, w_shr24, b_add, b_sub, b_mul, b_quo, b_rem, b_and, b_or, b_xor, b_andNot, b_eql, b_neq, b_lss, b_leq, b_gtr, b_geq, b_str, b_bool, u_neg, u_not, c_bw, c_wb, cellsW_length, cellsW_pure, cellsW_all, cellsE_W, backCells_W, cellsAt_W, cellPairs_W, cellsW_toPCs, cellsW_map, hN, hF, ty_3, ty_5, ty_49, ty_175, ty_176, notIf, isEq, intOp, e1]
          refine ⟨64 - (i + 1), _, by omega, ?_, i + 1, by omega, by omega, rfl, rfl⟩
          rw [hns]
          simp only [Weak, wkM, wkT, wkRen, AMd, AMds, AMd.AMp, CMd, look_cons, look_nil, get_mk, mem_mk, AS.get, AS.mem, keys, entryMem, cellsAt, List.map_nil, List.map_cons, List.not_mem_nil, List.mem_cons, or_false, false_implies, implies_true, and_true, true_and, and_self, ↓reduceIte, Nat.reduceEqDiff, Option.getD_some, Option.getD_none, Option.map_some, Option.map_none, Option.isSome_some, Option.isSome_none, forall_eq_or_imp, forall_eq, reduceCtorEq, List.append_nil, List.nil_append, List.cons_append, Nat.reduceAdd, Nat.reduceMul, inObj, inRow, cellsW_amds]
          first | done | simp
        · have h1 : decide ((i : Int) < 64) = false := by simp; omega
          obtain rfl : i = 64 := by omega
          rw [wCells_end] at hcl
          have hp : putAt (cellsW (zerosW 64)) 0 (cellsW (wS b 64)) = cellsW (wS b 64) := cellsW_all_put (by rw [zerosW_length, hcl])
          have ht : (cellsW (wS b 64)).take 64 = cellsW (wS b 64) := cellsW_take hcl.symm
          simp only [runA, ncE, faE, fieldE, extE, cloE, bsE, idxE, okE, okM, entryT, entryMem, cellsAt, List.append_nil, List.nil_append, List.cons_append, loadE, storeE, isSh, intOp, AV.flat, Option.map_some, Option.map_none, ↓reduceIte, Nat.reduceLT, Nat.reduceLeDiff, Nat.reduceEqDiff, Nat.reduceAdd, Nat.reduceMul, Nat.reduceSub, decide_true, decide_false, Option.getD_some, Option.getD_none, objName, rowName, resName, resCell, inObj, inRow, outName, outCell, EP.bind, List.getElem?_cons_zero, List.getElem?_cons_succ, List.length_cons, List.length_nil, List.map_cons, List.map_nil, cndE, reduceCtorEq, and_self, and_true, true_and, List.all_cons, List.all_nil, AV.scal, Bool.and_self, Bool.and_true, List.take, List.drop, Option.bind_some, Option.bind_none, Bool.false_eq_true, callE, argsE, AV.pure?, AV.toPC, toPCs, objsE, cellsE, resAt, backObjs, backCells, freeE, keys, exitMem, shapeOf, oneE, List.nodup_cons, List.mem_cons, List.not_mem_nil, or_false, not_false_eq_true, List.nodup_nil, ext, Nat.reduceBEq, builtinE, lenE, AV.rows, appendE, addedE, newRowE, newObjE, strz, mm, buildE, fillE, chunks, List.replicate, List.flatten, guardE, cndQ, List.getElem?_toArray, List.flatMap, List.flatten_cons, List.flatten_nil, Int.reduceLT, Int.reduceLE, Int.reduceToNat, Option.map, Nat.zero_add, Nat.mul_one, Nat.one_mul, Nat.zero_le, Nat.add_zero, List.length_append, beq_true, beq_false, Bool.not_true, Bool.not_false, strOp, beq_self_eq_true, Int.toNat_natCast, indexE, Int.natCast_nonneg, mkE, newMslE, Bool.or_false, Bool.or_true, Bool.false_or, Bool.true_or, look2, denil, List.append_eq, once, without, convO, w_add, w_and, w_or, w_xor, w_xorF, w_not, w_shl8, w_shl16, w_shl24, w_shr3, w_shr8, w_shr10, w_shr16, w_shr24, b_add, b_sub, b_mul, b_quo, b_rem, b_and, b_or, b_xor, b_andNot, b_eql, b_neq, b_lss, b_leq, b_gtr, b_geq, b_str, b_bool, u_neg, u_not, c_bw, c_wb, cellsW_length, cellsW_pure, cellsW_all, cellsE_W, backCells_W, cellsAt_W, cellPairs_W, cellsW_toPCs, cellsW_map, hN, hF, ty_3, ty_5, ty_49, ty_175, ty_176, notIf, isEq, intOp, h1, hp, ht, hcl, zerosW_length, wCells_end]
          simp only [retQ, retE, RetOK, objPairs, resPairs, cellPairs, objCells, retRen, retMem, exitMem, exitVals, resAt, entryMem, cellsAt, AMds, AMd, CMd, keys, List.append_nil, List.nil_append, List.cons_append, List.map_cons, List.map_nil, List.nodup_cons, List.mem_cons, List.not_mem_nil, or_false, not_false_eq_true, List.nodup_nil, get_mk, mem_mk, look_nil, look_cons, Option.isSome_some, Option.isSome_none, and_self, and_true, true_and, ↓reduceIte, Nat.reduceEqDiff, Nat.reduceAdd, Nat.reduceMul, Option.getD_some, inObj, inRow, outName, outCell, forall_eq_or_imp, forall_eq, implies_true, Nat.reduceBEq, reduceCtorEq, Bool.false_eq_true, andThen_some, andThen_none, Nat.zero_add, List.length_nil, List.length_cons, false_implies, List.length_append, loadE, run_ask, run_ret, run_fail, obind_some, obind_none, List.zip_cons_cons, List.zip_nil_left, List.zip_nil_right, AMd.AMp, List.take, List.drop, List.getElem?_cons_zero, List.getElem?_cons_succ, Nat.reduceLeDiff, Nat.zero_le, List.forall_mem_nil, rs_178, agg_176, sz_176, cellsW_length, hcl, ht, wCells_end]
          exact cellsW_amp (wS b 64)

end Go.Proofs.Ytjdokoldiemobaa.AM
