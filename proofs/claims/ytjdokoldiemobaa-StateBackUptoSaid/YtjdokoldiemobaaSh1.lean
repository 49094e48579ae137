/-
  SHA: words are turned.
-/
import Derived.Test.YtjdokoldiemobaaSh0
set_option linter.unusedVariables false
set_option linter.unusedSimpArgs false
namespace Go.Proofs.Ytjdokoldiemobaa.AM
open Go

variable {Γ : FuncId → Contract}

/-- A word, turned right. -/
def rotr (x : W32) (n : Nat) : W32 := x >>> n ||| x <<< (32 - n)
theorem rotr_comm (x : W32) (n : Nat) : x <<< (32 - n) ||| x >>> n = rotr x n := BitVec.or_comm _ _

noncomputable def rotC : Contract := mkC (α := W32 × Nat) (fun p => 0 < p.2 ∧ p.2 < 32) (fun p => [.c (wC p.1), .c (.int .i64 (0 - (p.2 : Int)))]) (fun _ => []) (fun p => ⟨[.pv (.c (wC (rotr p.1 p.2)))], []⟩)
theorem rot_at (x : W32) (n : Nat) (h0 : 0 < n) (h1 : n < 32) : rotC [.c (wC x), .c (.int .i64 (0 - (n : Int)))] [] = some ⟨[.pv (.c (wC (rotr x n)))], []⟩ :=
  mkC_at (α := W32 × Nat) (x, n) ⟨h0, h1⟩ (by
    rintro ⟨y, m⟩ _ h _
    simp only [List.cons.injEq, AV.c.injEq, PC.int.injEq, true_and, and_true] at h
    obtain ⟨e1, e2⟩ := h
    obtain rfl := wC_inj e1
    obtain rfl : m = n := by omega
    rfl)

theorem and31 : ∀ n : Nat, n < 32 → 0 < n → (IntKind.u64.wrap (BitVec.ofInt IntKind.u64.bits (IntKind.u64.wrap (0 - (n : Int))) &&& BitVec.ofInt IntKind.u64.bits 31).toNat) = ((32 - n : Nat) : Int) := by decide +kernel

set_option maxHeartbeats 4000000 in
theorem rot_sound : SoundC Try.prog 189 rotC := by
  refine sound_fn Try.func189 (by kernel_rfl) rfl rfl ?_
  intro args objs r hr
  obtain ⟨⟨x, n⟩, ⟨h0, h1⟩, rfl, rfl, rfl⟩ := mkC_inv hr
  refine ⟨rfl, by show 2 ≤ _; decide, fun E hN hns hF => ?_⟩
  refine vc_sound none0_sound mixed _ _ _ ?_
  have hN := hN.trans nt_189
  dsimp only at h0 h1 ⊢
  have e1 := and31 n h1 h0
  have e2 : ∀ P t, binE P .shl t (.c (wC x)) (.c (.int .u64 ((32 - n : Nat) : Int))) = some (.c (wC (x <<< (32 - n)))) := fun P t => w_shl x _ (by omega)
  have e3 : IntKind.u64.wrap (32 - ((32 - n : Nat) : Int)) = (n : Int) := by rw [wrapU (by omega)]; omega
  have e4 : ∀ P t, binE P .shr t (.c (wC x)) (.c (.int .u64 (n : Int))) = some (.c (wC (x >>> n))) := fun P t => w_shr x _ (by omega)
  have e5 : ∀ P s d k, tyInt P d = some .u64 → (P.underlying s).isSome = true → convE P s d (.c (.int .i64 k)) = some (.c (.int .u64 (IntKind.u64.wrap k))) := fun P s d k h1 h2 => by simp [convE, h1, h2]
  simp only [runA, ncE, faE, fieldE, extE, cloE, bsE, idxE, okE, okM, entryT, entryMem, cellsAt, List.append_nil, List.nil_append, List.cons_append, loadE, storeE, isSh, intOp, AV.flat, Option.map_some, Option.map_none, ↓reduceIte, Nat.reduceLT, Nat.reduceLeDiff, Nat.reduceEqDiff, Nat.reduceAdd, Nat.reduceMul, Nat.reduceSub, decide_true, decide_false, Option.getD_some, Option.getD_none, objName, rowName, resName, resCell, inObj, inRow, outName, outCell, EP.bind, List.getElem?_cons_zero, List.getElem?_cons_succ, List.length_cons, List.length_nil, List.map_cons, List.map_nil, cndE, reduceCtorEq, and_self, and_true, true_and, List.all_cons, List.all_nil, AV.scal, Bool.and_self, Bool.and_true, putAt, List.take, List.drop, Option.bind_some, Option.bind_none, Bool.false_eq_true, callE, argsE, AV.pure?, AV.toPC, toPCs, objsE, cellsE, resAt, backObjs, backCells, freeE, keys, exitMem, shapeOf, oneE, List.nodup_cons, List.mem_cons, List.not_mem_nil, or_false, not_false_eq_true, List.nodup_nil, ext, Nat.reduceBEq, builtinE, lenE, AV.rows, appendE, addedE, newRowE, newObjE, strz, mm, buildE, fillE, chunks, List.replicate, List.flatten, guardE, cndQ, List.getElem?_toArray, List.flatMap, List.flatten_cons, List.flatten_nil, Int.reduceLT, Int.reduceLE, Int.reduceToNat, Option.map, Nat.zero_add, Nat.mul_one, Nat.one_mul, Nat.zero_le, Nat.add_zero, List.length_append, beq_true, beq_false, Bool.not_true, Bool.not_false, strOp, beq_self_eq_true, Int.toNat_natCast, indexE, Int.natCast_nonneg, mkE, newMslE, Bool.or_false, Bool.or_true, Bool.false_or, Bool.true_or, look2, denil, List.append_eq, once, without, convO, w_add, w_and, w_or, w_xor, w_xorF, w_not, w_shl8, w_shl16, w_shl24, w_shr3, w_shr8, w_shr10, w_shr16, w_shr24, b_add, b_sub, b_mul, b_quo, b_rem, b_and, b_or, b_xor, b_andNot, b_eql, b_neq, b_lss, b_leq, b_gtr, b_geq, b_str, b_bool, u_neg, u_not, c_bw, c_wb, cellsW_length, cellsW_pure, cellsW_all, cellsE_W, backCells_W, cellsAt_W, cellPairs_W, cellsW_toPCs, cellsW_map, hN, hF, ty_3, ty_120, ty_175, notIf, isEq, e1, e2, e3, e4, e5, intOp]
  simp only [retQ, retE, RetOK, objPairs, resPairs, cellPairs, objCells, retRen, retMem, exitMem, exitVals, resAt, entryMem, cellsAt, AMds, AMd, CMd, keys, List.append_nil, List.nil_append, List.cons_append, List.map_cons, List.map_nil, List.nodup_cons, List.mem_cons, List.not_mem_nil, or_false, not_false_eq_true, List.nodup_nil, get_mk, mem_mk, look_nil, look_cons, Option.isSome_some, Option.isSome_none, and_self, and_true, true_and, ↓reduceIte, Nat.reduceEqDiff, Nat.reduceAdd, Nat.reduceMul, Option.getD_some, inObj, inRow, outName, outCell, forall_eq_or_imp, forall_eq, implies_true, Nat.reduceBEq, reduceCtorEq, Bool.false_eq_true, andThen_some, andThen_none, Nat.zero_add, List.length_nil, List.length_cons, false_implies, List.length_append, loadE, run_ask, run_ret, run_fail, obind_some, obind_none, List.zip_cons_cons, List.zip_nil_left, List.zip_nil_right, AMd.AMp, List.take, List.drop, List.getElem?_cons_zero, List.getElem?_cons_succ, Nat.reduceLeDiff, Nat.zero_le, List.forall_mem_nil, rs_189, rotr_comm]

noncomputable def rightC : Contract := mkC (α := W32 × Nat) (fun p => 0 < p.2 ∧ p.2 < 32) (fun p => [.c (wC p.1), .c (.int .i64 (p.2 : Int))]) (fun _ => []) (fun p => ⟨[.pv (.c (wC (rotr p.1 p.2)))], []⟩)
theorem right_at (x : W32) (n : Nat) (h0 : 0 < n) (h1 : n < 32) : rightC [.c (wC x), .c (.int .i64 (n : Int))] [] = some ⟨[.pv (.c (wC (rotr x n)))], []⟩ :=
  mkC_at (α := W32 × Nat) (x, n) ⟨h0, h1⟩ (by
    rintro ⟨y, m⟩ _ h _
    simp only [List.cons.injEq, AV.c.injEq, PC.int.injEq, true_and, and_true] at h
    obtain ⟨e1, e2⟩ := h
    obtain rfl := wC_inj e1
    obtain rfl : m = n := by omega
    rfl)

set_option maxHeartbeats 4000000 in
theorem right_sound (hΓ : SoundG Try.prog Γ) (h89 : Γ 189 = rotC) : SoundC Try.prog 179 rightC := by
  refine sound_fn Try.func179 (by kernel_rfl) rfl rfl ?_
  intro args objs r hr
  obtain ⟨⟨x, n⟩, ⟨h0, h1⟩, rfl, rfl, rfl⟩ := mkC_inv hr
  refine ⟨rfl, by show 2 ≤ _; decide, fun E hN hns hF => ?_⟩
  refine vc_sound hΓ mixed _ _ _ ?_
  have hN := hN.trans nt_179
  dsimp only at h0 h1 ⊢
  have e1 : IntKind.i64.wrap (0 - (n : Int)) = 0 - (n : Int) := wrapI (by omega)
  have e2 := rot_at x n h0 h1
  simp only [runA, ncE, faE, fieldE, extE, cloE, bsE, idxE, okE, okM, entryT, entryMem, cellsAt, List.append_nil, List.nil_append, List.cons_append, loadE, storeE, isSh, intOp, AV.flat, Option.map_some, Option.map_none, ↓reduceIte, Nat.reduceLT, Nat.reduceLeDiff, Nat.reduceEqDiff, Nat.reduceAdd, Nat.reduceMul, Nat.reduceSub, decide_true, decide_false, Option.getD_some, Option.getD_none, objName, rowName, resName, resCell, inObj, inRow, outName, outCell, EP.bind, List.getElem?_cons_zero, List.getElem?_cons_succ, List.length_cons, List.length_nil, List.map_cons, List.map_nil, cndE, reduceCtorEq, and_self, and_true, true_and, List.all_cons, List.all_nil, AV.scal, Bool.and_self, Bool.and_true, putAt, List.take, List.drop, Option.bind_some, Option.bind_none, Bool.false_eq_true, callE, argsE, AV.pure?, AV.toPC, toPCs, objsE, cellsE, resAt, backObjs, backCells, freeE, keys, exitMem, shapeOf, oneE, List.nodup_cons, List.mem_cons, List.not_mem_nil, or_false, not_false_eq_true, List.nodup_nil, ext, Nat.reduceBEq, builtinE, lenE, AV.rows, appendE, addedE, newRowE, newObjE, strz, mm, buildE, fillE, chunks, List.replicate, List.flatten, guardE, cndQ, List.getElem?_toArray, List.flatMap, List.flatten_cons, List.flatten_nil, Int.reduceLT, Int.reduceLE, Int.reduceToNat, Option.map, Nat.zero_add, Nat.mul_one, Nat.one_mul, Nat.zero_le, Nat.add_zero, List.length_append, beq_true, beq_false, Bool.not_true, Bool.not_false, strOp, beq_self_eq_true, Int.toNat_natCast, indexE, Int.natCast_nonneg, mkE, newMslE, Bool.or_false, Bool.or_true, Bool.false_or, Bool.true_or, look2, denil, List.append_eq, once, without, convO, w_add, w_and, w_or, w_xor, w_xorF, w_not, w_shl8, w_shl16, w_shl24, w_shr3, w_shr8, w_shr10, w_shr16, w_shr24, b_add, b_sub, b_mul, b_quo, b_rem, b_and, b_or, b_xor, b_andNot, b_eql, b_neq, b_lss, b_leq, b_gtr, b_geq, b_str, b_bool, u_neg, u_not, c_bw, c_wb, cellsW_length, cellsW_pure, cellsW_all, cellsE_W, backCells_W, cellsAt_W, cellPairs_W, cellsW_toPCs, cellsW_map, hN, hF, ty_3, ty_175, notIf, isEq, h89, e1, e2]
  simp only [retQ, retE, RetOK, objPairs, resPairs, cellPairs, objCells, retRen, retMem, exitMem, exitVals, resAt, entryMem, cellsAt, AMds, AMd, CMd, keys, List.append_nil, List.nil_append, List.cons_append, List.map_cons, List.map_nil, List.nodup_cons, List.mem_cons, List.not_mem_nil, or_false, not_false_eq_true, List.nodup_nil, get_mk, mem_mk, look_nil, look_cons, Option.isSome_some, Option.isSome_none, and_self, and_true, true_and, ↓reduceIte, Nat.reduceEqDiff, Nat.reduceAdd, Nat.reduceMul, Option.getD_some, inObj, inRow, outName, outCell, forall_eq_or_imp, forall_eq, implies_true, Nat.reduceBEq, reduceCtorEq, Bool.false_eq_true, andThen_some, andThen_none, Nat.zero_add, List.length_nil, List.length_cons, false_implies, List.length_append, loadE, run_ask, run_ret, run_fail, obind_some, obind_none, List.zip_cons_cons, List.zip_nil_left, List.zip_nil_right, AMd.AMp, List.take, List.drop, List.getElem?_cons_zero, List.getElem?_cons_succ, Nat.reduceLeDiff, Nat.zero_le, List.forall_mem_nil, rs_179]

noncomputable def turnC : Contract := mkC (α := W32 × Nat) (fun p => 0 < p.2 ∧ p.2 < 32) (fun p => [.c (wC p.1), .c (.int .u64 (p.2 : Int))]) (fun _ => []) (fun p => ⟨[.pv (.c (wC (rotr p.1 p.2)))], []⟩)
theorem turn_at (x : W32) (n : Nat) (h0 : 0 < n) (h1 : n < 32) : turnC [.c (wC x), .c (.int .u64 (n : Int))] [] = some ⟨[.pv (.c (wC (rotr x n)))], []⟩ :=
  mkC_at (α := W32 × Nat) (x, n) ⟨h0, h1⟩ (by
    rintro ⟨y, m⟩ _ h _
    simp only [List.cons.injEq, AV.c.injEq, PC.int.injEq, true_and, and_true] at h
    obtain ⟨e1, e2⟩ := h
    obtain rfl := wC_inj e1
    obtain rfl : m = n := by omega
    rfl)

set_option maxHeartbeats 4000000 in
theorem turn_sound : SoundC Try.prog 140 turnC := by
  refine sound_fn Try.func140 (by kernel_rfl) rfl rfl ?_
  intro args objs r hr
  obtain ⟨⟨x, n⟩, ⟨h0, h1⟩, rfl, rfl, rfl⟩ := mkC_inv hr
  refine ⟨rfl, by show 2 ≤ _; decide, fun E hN hns hF => ?_⟩
  refine vc_sound none0_sound mixed _ _ _ ?_
  have hN := hN.trans nt_140
  dsimp only at h0 h1 ⊢
  have e2 : ∀ P t, binE P .shl t (.c (wC x)) (.c (.int .u64 (32 - (n : Int)))) = some (.c (wC (x <<< (32 - n)))) := fun P t => by
    have := w_shl (P := P) (t := t) x (32 - n) (by omega)
    rwa [show ((32 - n : Nat) : Int) = 32 - (n : Int) from by omega] at this
  have e3 : IntKind.u64.wrap (32 - (n : Int)) = 32 - (n : Int) := wrapU (by omega)
  have e4 : ∀ P t, binE P .shr t (.c (wC x)) (.c (.int .u64 (n : Int))) = some (.c (wC (x >>> n))) := fun P t => w_shr x _ (by omega)
  simp only [runA, ncE, faE, fieldE, extE, cloE, bsE, idxE, okE, okM, entryT, entryMem, cellsAt, List.append_nil, List.nil_append, List.cons_append, loadE, storeE, isSh, intOp, AV.flat, Option.map_some, Option.map_none, ↓reduceIte, Nat.reduceLT, Nat.reduceLeDiff, Nat.reduceEqDiff, Nat.reduceAdd, Nat.reduceMul, Nat.reduceSub, decide_true, decide_false, Option.getD_some, Option.getD_none, objName, rowName, resName, resCell, inObj, inRow, outName, outCell, EP.bind, List.getElem?_cons_zero, List.getElem?_cons_succ, List.length_cons, List.length_nil, List.map_cons, List.map_nil, cndE, reduceCtorEq, and_self, and_true, true_and, List.all_cons, List.all_nil, AV.scal, Bool.and_self, Bool.and_true, putAt, List.take, List.drop, Option.bind_some, Option.bind_none, Bool.false_eq_true, callE, argsE, AV.pure?, AV.toPC, toPCs, objsE, cellsE, resAt, backObjs, backCells, freeE, keys, exitMem, shapeOf, oneE, List.nodup_cons, List.mem_cons, List.not_mem_nil, or_false, not_false_eq_true, List.nodup_nil, ext, Nat.reduceBEq, builtinE, lenE, AV.rows, appendE, addedE, newRowE, newObjE, strz, mm, buildE, fillE, chunks, List.replicate, List.flatten, guardE, cndQ, List.getElem?_toArray, List.flatMap, List.flatten_cons, List.flatten_nil, Int.reduceLT, Int.reduceLE, Int.reduceToNat, Option.map, Nat.zero_add, Nat.mul_one, Nat.one_mul, Nat.zero_le, Nat.add_zero, List.length_append, beq_true, beq_false, Bool.not_true, Bool.not_false, strOp, beq_self_eq_true, Int.toNat_natCast, indexE, Int.natCast_nonneg, mkE, newMslE, Bool.or_false, Bool.or_true, Bool.false_or, Bool.true_or, look2, denil, List.append_eq, once, without, convO, w_add, w_and, w_or, w_xor, w_xorF, w_not, w_shl8, w_shl16, w_shl24, w_shr3, w_shr8, w_shr10, w_shr16, w_shr24, b_add, b_sub, b_mul, b_quo, b_rem, b_and, b_or, b_xor, b_andNot, b_eql, b_neq, b_lss, b_leq, b_gtr, b_geq, b_str, b_bool, u_neg, u_not, c_bw, c_wb, cellsW_length, cellsW_pure, cellsW_all, cellsE_W, backCells_W, cellsAt_W, cellPairs_W, cellsW_toPCs, cellsW_map, hN, hF, ty_120, ty_175, notIf, isEq, e2, e3, e4, intOp]
  simp only [retQ, retE, RetOK, objPairs, resPairs, cellPairs, objCells, retRen, retMem, exitMem, exitVals, resAt, entryMem, cellsAt, AMds, AMd, CMd, keys, List.append_nil, List.nil_append, List.cons_append, List.map_cons, List.map_nil, List.nodup_cons, List.mem_cons, List.not_mem_nil, or_false, not_false_eq_true, List.nodup_nil, get_mk, mem_mk, look_nil, look_cons, Option.isSome_some, Option.isSome_none, and_self, and_true, true_and, ↓reduceIte, Nat.reduceEqDiff, Nat.reduceAdd, Nat.reduceMul, Option.getD_some, inObj, inRow, outName, outCell, forall_eq_or_imp, forall_eq, implies_true, Nat.reduceBEq, reduceCtorEq, Bool.false_eq_true, andThen_some, andThen_none, Nat.zero_add, List.length_nil, List.length_cons, false_implies, List.length_append, loadE, run_ask, run_ret, run_fail, obind_some, obind_none, List.zip_cons_cons, List.zip_nil_left, List.zip_nil_right, AMd.AMp, List.take, List.drop, List.getElem?_cons_zero, List.getElem?_cons_succ, Nat.reduceLeDiff, Nat.zero_le, List.forall_mem_nil, rs_140, rotr]

end Go.Proofs.Ytjdokoldiemobaa.AM
