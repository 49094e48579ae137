/-
  State: an account's leaf, all accounts' leaves, root, path.
-/
import Derived.Test.YtjdokoldiemobaaMk9
import Derived.Test.YtjdokoldiemobaaPkN
set_option linter.unusedVariables false
set_option linter.unusedSimpArgs false
namespace Go.Proofs.Ytjdokoldiemobaa.AM
open Go

variable {Γ : FuncId → Contract}

abbrev Acc := Int × Int
def arrA (c : Int) (a : Acc) (i : Nat) : Int := if i = 0 then c else if i = 1 then a.1 else a.2
def wsN (c : Int) (a : Acc) : Nat → WS
  | 0 => ⟨[], 0⟩
  | i + 1 => wNum (wsN c a i) (arrA c a i)
theorem wsN_len (c : Int) (a : Acc) : ∀ i, (wsN c a i).b.length ≤ 6 * i
  | 0 => by simp [wsN]
  | i + 1 => by
    have := wsN_len c a i
    rw [wsN]
    unfold wNum
    split
    · dsimp only; omega
    · split
      · dsimp only
        rw [List.length_append, putB_length]
        have : (min (max (6 : Int) 0) 8).toNat = 6 := rfl
        omega
      · omega
/-- An account's leaf. -/
def leafA (c : Int) (a : Acc) : List UInt8 := shortS (doneR (wsN c a 3)).1
theorem leafA_length (c : Int) (a : Acc) : (leafA c a).length = 8 := shortS_length _
def accV (a : Acc) : AV := .agg [.c (.int .i64 a.1), .c (.int .i64 a.2)]
def accP (a : Acc) : List PC := [.int .i64 a.1, .int .i64 a.2]
structure Lf where
  c : Int
  a : Acc
noncomputable def lfC : Contract := mkC (α := Lf) (fun _ => True) (fun p => [.c (.int .i64 p.c), .agg [.c (.int .i64 p.a.1), .c (.int .i64 p.a.2)]]) (fun _ => []) (fun p => ⟨[.pv (.c (.str (leafA p.c p.a)))], []⟩)
theorem lf_at (c : Int) (x y : Int) : lfC [.c (.int .i64 c), .agg [.c (.int .i64 x), .c (.int .i64 y)]] [] = some ⟨[.pv (.c (.str (leafA c (x, y))))], []⟩ :=
  mkC_at (α := Lf) ⟨c, (x, y)⟩ trivial (by
    rintro ⟨c', x', y'⟩ _ h _
    simp only [List.cons.injEq, AV.c.injEq, PC.int.injEq, AV.agg.injEq, true_and, and_true] at h
    obtain ⟨rfl, rfl, rfl⟩ := h
    rfl)

theorem num_at6 (b : List UInt8) (e n : Int) (h : b.length ≤ 100000) : numC [.ptr 6400000 0, .c (.int .i64 n)] [[.own 1 (bytes b), .c (.int .i64 e), .c (.bool true)]] = some ⟨[], [wOV (wNum ⟨b, e⟩ n).b (wNum ⟨b, e⟩ n).e true]⟩ := by
  simp [numC, asB_bytes, inObj, h]
theorem done_at (b : List UInt8) (e : Int) : doneC [.ptr 6400000 0] [[.own 1 (bytes b), .c (.int .i64 e), .c (.bool true)]] = some ⟨[.fresh 1 (bytes (doneR ⟨b, e⟩).1), .pv (.c (.int .i64 (doneR ⟨b, e⟩).2))], [wOV b e true]⟩ := by
  simp [doneC, asB_bytes, inObj]

set_option maxRecDepth 100000 in
set_option maxHeartbeats 2000000 in
theorem stLeaf_sound (hΓ : SoundG Try.prog Γ) (h1 : Γ 81 = newC) (h2 : Γ 83 = numC) (h3 : Γ 84 = doneC) (h4 : Γ 96 = shortC) : SoundC Try.prog 46 lfC := by
  refine sound_fn Try.func46 (by kernel_rfl) rfl rfl ?_
  intro args objs r hr
  obtain ⟨⟨c, x, y⟩, _, rfl, rfl, rfl⟩ := mkC_inv hr
  refine ⟨rfl, by show 2 ≤ _; decide, fun E hN hns hF => ?_⟩
  refine vc_sound hΓ mixed _ _ _ ?_
  have hN := hN.trans nt_46
  dsimp only
  simp only [runA, ncE, faE, fieldE, extE, cloE, bsE, idxE, okE, okM, entryT, entryMem, cellsAt, List.append_nil, List.nil_append, List.cons_append, loadE, storeE, binE, isSh, intOp, AV.flat, Option.map_some, Option.map_none, ↓reduceIte, Nat.reduceLT, Nat.reduceLeDiff, Nat.reduceEqDiff, Nat.reduceAdd, Nat.reduceMul, Nat.reduceSub, decide_true, decide_false, Option.getD_some, Option.getD_none, objName, rowName, resName, resCell, inObj, inRow, outName, outCell, EP.bind, List.getElem?_cons_zero, List.getElem?_cons_succ, List.length_cons, List.length_nil, List.map_cons, List.map_nil, cndE, reduceCtorEq, and_self, and_true, true_and, List.all_cons, List.all_nil, AV.scal, Bool.and_self, Bool.and_true, putAt, List.take, List.drop, Option.bind_some, Option.bind_none, Bool.false_eq_true, callE, argsE, AV.pure?, AV.toPC, toPCs, objsE, cellsE, resAt, backObjs, backCells, freeE, keys, exitMem, shapeOf, oneE, List.nodup_cons, List.mem_cons, List.not_mem_nil, or_false, not_false_eq_true, List.nodup_nil, ext, unE, Nat.reduceBEq, builtinE, lenE, AV.rows, appendE, addedE, newRowE, newObjE, strz, mm, convE, buildE, fillE, chunks, List.replicate, List.flatten, guardE, cndQ, List.getElem?_toArray, List.flatMap, List.flatten_cons, List.flatten_nil, Int.reduceLT, Int.reduceLE, Int.reduceToNat, Option.map, Nat.zero_add, Nat.mul_one, Nat.one_mul, Nat.zero_le, Nat.add_zero, List.length_append, beq_true, beq_false, Bool.not_true, Bool.not_false, strOp, beq_self_eq_true, Int.toNat_natCast, indexE, Int.natCast_nonneg, mkE, newMslE, Bool.or_false, Bool.or_true, Bool.false_or, Bool.true_or, look2, denil, List.append_eq, once, without, convO, hN, hF, ty_3, ty_9, ty_49, ty_73, ty_125, ty_142, ty_167, notIf, isEq, h1, newC]
  refine AWP.loop (fun k st => ∃ i : Nat, i ≤ 3 ∧ k = 3 - i ∧ st = ⟨[(5, .ptr 642 0), (16, .agg [.c (.int .i64 c), .c (.int .i64 x), .c (.int .i64 y)]), (17, .c (.int .i64 (i : Int)))],
    [(642, .obj [.own 650 1 (bytes (wsN c (x, y) i).b), .c (.int .i64 (wsN c (x, y) i).e), .c (.bool true)] false), (650, .row 1 (wsN c (x, y) i).b.length)]⟩) ⟨3, _, ?w, 0, Nat.zero_le _, rfl, rfl⟩ ?r
  case w =>
    rw [hns]
    simp only [Weak, wkM, wkT, wkRen, AMd, AMds, AMd.AMp, CMd, look_cons, look_nil, get_mk, mem_mk, AS.get, AS.mem, keys, entryMem, cellsAt, List.map_nil, List.map_cons, List.not_mem_nil, List.mem_cons, or_false, false_implies, implies_true, and_true, true_and, and_self, ↓reduceIte, Nat.reduceEqDiff, Option.getD_some, Option.getD_none, Option.map_some, Option.map_none, Option.isSome_some, Option.isSome_none, forall_eq_or_imp, forall_eq, reduceCtorEq, List.append_nil, List.nil_append, List.cons_append, Nat.reduceAdd, Nat.reduceMul, inObj, inRow]
    simp [wsN, bytes]
  case r =>
    rintro k st ⟨i, hi, rfl, rfl⟩
    refine vc_sound hΓ mixed _ _ _ ?_
    have hlen := wsN_len c (x, y) i
    by_cases hlt : i < 3
    · have g1 : decide ((i : Int) < 3) = true := by simp; omega
      have g2 : ((i : Int) < ((3 : Nat) : Int)) = True := by simp; omega
      have e1 : IntKind.i64.wrap ((i : Int) + 1) = (i : Int) + 1 := wrapI (by omega)
      have hx : ([AV.c (.int .i64 c), AV.c (.int .i64 x), AV.c (.int .i64 y)] : List AV)[i]? = some (.c (.int .i64 (arrA c (x, y) i))) := by
        unfold arrA
        rcases (show i = 0 ∨ i = 1 ∨ i = 2 by omega) with rfl | rfl | rfl <;> rfl
      have hn := num_at6 (wsN c (x, y) i).b (wsN c (x, y) i).e (arrA c (x, y) i) (by omega)
      have hw : wNum ⟨(wsN c (x, y) i).b, (wsN c (x, y) i).e⟩ (arrA c (x, y) i) = wsN c (x, y) (i + 1) := rfl
      rw [hw] at hn
      generalize hg : ([AV.c (.int .i64 c), AV.c (.int .i64 x), AV.c (.int .i64 y)] : List AV) = ar at hx
      simp only [runA, ncE, faE, fieldE, extE, cloE, bsE, idxE, okE, okM, entryT, entryMem, cellsAt, List.append_nil, List.nil_append, List.cons_append, loadE, storeE, binE, isSh, intOp, AV.flat, Option.map_some, Option.map_none, ↓reduceIte, Nat.reduceLT, Nat.reduceLeDiff, Nat.reduceEqDiff, Nat.reduceAdd, Nat.reduceMul, Nat.reduceSub, decide_true, decide_false, Option.getD_some, Option.getD_none, objName, rowName, resName, resCell, inObj, inRow, outName, outCell, EP.bind, List.getElem?_cons_zero, List.getElem?_cons_succ, List.length_cons, List.length_nil, List.map_cons, List.map_nil, cndE, reduceCtorEq, and_self, and_true, true_and, List.all_cons, List.all_nil, AV.scal, Bool.and_self, Bool.and_true, putAt, List.take, List.drop, Option.bind_some, Option.bind_none, Bool.false_eq_true, callE, argsE, AV.pure?, AV.toPC, toPCs, objsE, cellsE, resAt, backObjs, backCells, freeE, keys, exitMem, shapeOf, oneE, List.nodup_cons, List.mem_cons, List.not_mem_nil, or_false, not_false_eq_true, List.nodup_nil, ext, unE, Nat.reduceBEq, builtinE, lenE, AV.rows, appendE, addedE, newRowE, newObjE, strz, mm, convE, buildE, fillE, chunks, List.replicate, List.flatten, guardE, cndQ, List.getElem?_toArray, List.flatMap, List.flatten_cons, List.flatten_nil, Int.reduceLT, Int.reduceLE, Int.reduceToNat, Option.map, Nat.zero_add, Nat.mul_one, Nat.one_mul, Nat.zero_le, Nat.add_zero, List.length_append, beq_true, beq_false, Bool.not_true, Bool.not_false, strOp, beq_self_eq_true, Int.toNat_natCast, indexE, Int.natCast_nonneg, mkE, newMslE, Bool.or_false, Bool.or_true, Bool.false_or, Bool.true_or, look2, denil, List.append_eq, once, without, convO, hN, hF, ty_3, ty_9, ty_49, ty_73, ty_125, ty_142, ty_167, notIf, isEq, g1, g2, e1, hx, h2, hn, bytes_length]
      refine ⟨3 - (i + 1), _, by omega, ?_, i + 1, by omega, rfl, rfl⟩
      rw [hns]
      subst hg
      simp only [Weak, wkM, wkT, wkRen, AMd, AMds, AMd.AMp, CMd, look_cons, look_nil, get_mk, mem_mk, AS.get, AS.mem, keys, entryMem, cellsAt, List.map_nil, List.map_cons, List.not_mem_nil, List.mem_cons, or_false, false_implies, implies_true, and_true, true_and, and_self, ↓reduceIte, Nat.reduceEqDiff, Option.getD_some, Option.getD_none, Option.map_some, Option.map_none, Option.isSome_some, Option.isSome_none, forall_eq_or_imp, forall_eq, reduceCtorEq, List.append_nil, List.nil_append, List.cons_append, Nat.reduceAdd, Nat.reduceMul, inObj, inRow, bytes_length]
      first | done | simp
    · have g1 : decide ((i : Int) < 3) = false := by simp; omega
      obtain rfl : i = 3 := by omega
      have hd := done_at (wsN c (x, y) 3).b (wsN c (x, y) 3).e
      have hw : doneR ⟨(wsN c (x, y) 3).b, (wsN c (x, y) 3).e⟩ = doneR (wsN c (x, y) 3) := rfl
      rw [hw] at hd
      have hdl : (doneR (wsN c (x, y) 3)).1.length ≤ 18 := by unfold doneR; split <;> (try split) <;> simp <;> omega
      have hs := short_at [(doneR (wsN c (x, y) 3)).1] ⟨by simp; omega, by simp⟩
      have hf : [(doneR (wsN c (x, y) 3)).1].flatten = (doneR (wsN c (x, y) 3)).1 := by simp
      rw [hf] at hs
      have hsl : [[PC.sl (bytes (doneR (wsN c (x, y) 3)).1)]] = slices [(doneR (wsN c (x, y) 3)).1] := rfl
      have hle : shortS (doneR (wsN c (x, y) 3)).1 = leafA c (x, y) := rfl
      rw [hle] at hs
      simp only [runA, ncE, faE, fieldE, extE, cloE, bsE, idxE, okE, okM, entryT, entryMem, cellsAt, List.append_nil, List.nil_append, List.cons_append, loadE, storeE, binE, isSh, intOp, AV.flat, Option.map_some, Option.map_none, ↓reduceIte, Nat.reduceLT, Nat.reduceLeDiff, Nat.reduceEqDiff, Nat.reduceAdd, Nat.reduceMul, Nat.reduceSub, decide_true, decide_false, Option.getD_some, Option.getD_none, objName, rowName, resName, resCell, inObj, inRow, outName, outCell, EP.bind, List.getElem?_cons_zero, List.getElem?_cons_succ, List.length_cons, List.length_nil, List.map_cons, List.map_nil, cndE, reduceCtorEq, and_self, and_true, true_and, List.all_cons, List.all_nil, AV.scal, Bool.and_self, Bool.and_true, putAt, List.take, List.drop, Option.bind_some, Option.bind_none, Bool.false_eq_true, callE, argsE, AV.pure?, AV.toPC, toPCs, objsE, cellsE, resAt, backObjs, backCells, freeE, keys, exitMem, shapeOf, oneE, List.nodup_cons, List.mem_cons, List.not_mem_nil, or_false, not_false_eq_true, List.nodup_nil, ext, unE, Nat.reduceBEq, builtinE, lenE, AV.rows, appendE, addedE, newRowE, newObjE, strz, mm, convE, buildE, fillE, chunks, List.replicate, List.flatten, guardE, cndQ, List.getElem?_toArray, List.flatMap, List.flatten_cons, List.flatten_nil, Int.reduceLT, Int.reduceLE, Int.reduceToNat, Option.map, Nat.zero_add, Nat.mul_one, Nat.one_mul, Nat.zero_le, Nat.add_zero, List.length_append, beq_true, beq_false, Bool.not_true, Bool.not_false, strOp, beq_self_eq_true, Int.toNat_natCast, indexE, Int.natCast_nonneg, mkE, newMslE, Bool.or_false, Bool.or_true, Bool.false_or, Bool.true_or, look2, denil, List.append_eq, once, without, convO, hN, hF, ty_3, ty_9, ty_49, ty_73, ty_125, ty_142, ty_167, notIf, isEq, g1, h3, hd, hsl, h4, hs, bytes_length]
      simp only [retQ, retE, RetOK, objPairs, resPairs, cellPairs, objCells, retRen, retMem, exitMem, exitVals, resAt, entryMem, cellsAt, AMds, AMd, CMd, keys, List.append_nil, List.nil_append, List.cons_append, List.map_cons, List.map_nil, List.nodup_cons, List.mem_cons, List.not_mem_nil, or_false, not_false_eq_true, List.nodup_nil, get_mk, mem_mk, look_nil, look_cons, Option.isSome_some, Option.isSome_none, and_self, and_true, true_and, ↓reduceIte, Nat.reduceEqDiff, Nat.reduceAdd, Nat.reduceMul, Option.getD_some, inObj, inRow, outName, outCell, forall_eq_or_imp, forall_eq, implies_true, Nat.reduceBEq, reduceCtorEq, Bool.false_eq_true, andThen_some, andThen_none, Nat.zero_add, List.length_nil, List.length_cons, false_implies, List.length_append, loadE, run_ask, run_ret, run_fail, obind_some, obind_none, List.zip_cons_cons, List.zip_nil_left, List.zip_nil_right, AMd.AMp, List.take, List.drop, List.getElem?_cons_zero, List.getElem?_cons_succ, Nat.reduceLeDiff, Nat.zero_le, List.forall_mem_nil, rs_46]

end Go.Proofs.Ytjdokoldiemobaa.AM
