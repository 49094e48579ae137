/-
  Setups as octets: roster.Put.
-/
import Derived.Test.YtjdokoldiemobaaRb1
set_option linter.unusedVariables false
set_option linter.unusedSimpArgs false
namespace Go.Proofs.Ytjdokoldiemobaa.AM
open Go

variable {Γ : FuncId → Contract}

def putS (s : Setp) : List UInt8 × Int := if checkS s = 0 then (encS s, 0) else ([], checkS s)
noncomputable def putSC : Contract := mkC (α := Setp) (fun s => s.l.length ≤ 1099511627776) (fun s => [.agg [.c (.int .i64 s.r), .c (.int .i64 s.q), .c (.int .i64 s.c), .c (.sl (ruls s.l))]]) (fun _ => []) (fun s => ⟨[.pv (.c (.sl (bytes (putS s).1))), .pv (.c (.int .i64 (putS s).2))], []⟩)
theorem putS_at (r q c : Int) (l : List Rul) (h : l.length ≤ 1099511627776) : putSC [.agg [.c (.int .i64 r), .c (.int .i64 q), .c (.int .i64 c), .c (.sl (ruls l))]] [] = some ⟨[.pv (.c (.sl (bytes (putS ⟨r, q, c, l⟩).1))), .pv (.c (.int .i64 (putS ⟨r, q, c, l⟩).2))], []⟩ :=
  mkC_at (α := Setp) ⟨r, q, c, l⟩ h (by
    rintro ⟨r', q', c', l'⟩ _ h' _
    simp only [List.cons.injEq, AV.c.injEq, PC.int.injEq, PC.sl.injEq, AV.agg.injEq, true_and, and_true] at h'
    obtain ⟨rfl, rfl, rfl, h'⟩ := h'
    obtain rfl := ruls_inj h'
    rfl)

theorem num_atw (b : List UInt8) (e n : Int) (h : b.length ≤ 100000) : numC [.ptr 6400000 0, .c (.int .i64 n)] [[.own 1 (bytes b), .c (.int .i64 e), .c (.bool true)]] = some ⟨[], [wOV (wNum ⟨b, e⟩ n).b (wNum ⟨b, e⟩ n).e true]⟩ := by
  simp [numC, asB_bytes, inObj, h]
theorem done_atw (b : List UInt8) (e : Int) : doneC [.ptr 6400000 0] [[.own 1 (bytes b), .c (.int .i64 e), .c (.bool true)]] = some ⟨[.fresh 1 (bytes (doneR ⟨b, e⟩).1), .pv (.c (.int .i64 (doneR ⟨b, e⟩).2))], [wOV b e true]⟩ := by
  simp [doneC, asB_bytes, inObj]
theorem text_setup : textC [.ptr 6400000 0, .c (.str [115, 101, 116, 117, 112])] [[.own 1 (bytes []), .c (.int .i64 0), .c (.bool true)]] = some ⟨[], [[.own 1 (bytes (putB 5 2 ++ setupB)), .c (.int .i64 0), .c (.bool true)]]⟩ := by
  have h1 : rText ⟨[], 0⟩ [115, 101, 116, 117, 112] = ⟨putB 5 2 ++ setupB, 0⟩ := by decide
  simp only [textC, asB_bytes]
  simp [inObj, h1]

set_option maxRecDepth 100000 in
set_option maxHeartbeats 4000000 in
theorem putS_sound (hΓ : SoundG Try.prog Γ) (h1 : Γ 81 = newC) (h2 : Γ 83 = numC) (h3 : Γ 84 = doneC) (h4 : Γ 82 = textC) (h5 : Γ 40 = ckC) : SoundC Try.prog 39 putSC := by
  refine sound_fn Try.func39 (by kernel_rfl) rfl rfl ?_
  intro args objs r0 hr
  obtain ⟨⟨r, q, c, l⟩, hl, rfl, rfl, rfl⟩ := mkC_inv hr
  have hl : l.length ≤ 1099511627776 := hl
  refine ⟨rfl, by show 1 ≤ _; decide, fun E hN hns hF => ?_⟩
  refine vc_sound hΓ mixed _ _ _ ?_
  have hN := hN.trans nt_39
  dsimp only
  have q1 := ck_at r q c l hl
  by_cases h0 : checkS ⟨r, q, c, l⟩ = 0
  case neg =>
    have hS : putS ⟨r, q, c, l⟩ = ([], checkS ⟨r, q, c, l⟩) := by unfold putS; rw [if_neg h0]
    have g1 : (checkS ⟨r, q, c, l⟩ != 0) = true := by simpa using h0
    rw [hS]
    generalize checkS ⟨r, q, c, l⟩ = e at q1 g1
    simp only [runA, ncE, faE, fieldE, extE, cloE, bsE, idxE, okE, okM, entryT, entryMem, cellsAt, List.append_nil, List.nil_append, List.cons_append, loadE, storeE, binE, isSh, intOp, AV.flat, Option.map_some, Option.map_none, ↓reduceIte, Nat.reduceLT, Nat.reduceLeDiff, Nat.reduceEqDiff, Nat.reduceAdd, Nat.reduceMul, Nat.reduceSub, decide_true, decide_false, Option.getD_some, Option.getD_none, objName, rowName, resName, resCell, inObj, inRow, outName, outCell, EP.bind, List.getElem?_cons_zero, List.getElem?_cons_succ, List.length_cons, List.length_nil, List.map_cons, List.map_nil, cndE, reduceCtorEq, and_self, and_true, true_and, List.all_cons, List.all_nil, AV.scal, Bool.and_self, Bool.and_true, putAt, List.take, List.drop, Option.bind_some, Option.bind_none, Bool.false_eq_true, callE, argsE, AV.pure?, AV.toPC, toPCs, objsE, cellsE, resAt, backObjs, backCells, freeE, keys, exitMem, shapeOf, oneE, List.nodup_cons, List.mem_cons, List.not_mem_nil, or_false, not_false_eq_true, List.nodup_nil, ext, unE, Nat.reduceBEq, builtinE, lenE, AV.rows, appendE, addedE, newRowE, newObjE, strz, mm, convE, buildE, fillE, chunks, List.replicate, List.flatten, guardE, cndQ, List.getElem?_toArray, List.flatMap, List.flatten_cons, List.flatten_nil, Int.reduceLT, Int.reduceLE, Int.reduceToNat, Option.map, Nat.zero_add, Nat.mul_one, Nat.one_mul, Nat.zero_le, Nat.add_zero, List.length_append, beq_true, beq_false, Bool.not_true, Bool.not_false, strOp, beq_self_eq_true, Int.toNat_natCast, indexE, Int.natCast_nonneg, mkE, newMslE, Bool.or_false, Bool.or_true, Bool.false_or, Bool.true_or, look2, denil, List.append_eq, once, without, convO, hN, hF, ty_3, ty_5, ty_9, ty_26, ty_49, ty_61, ty_63, ty_125, ty_128, ty_131, notIf, isEq, h5, q1, g1]
    simp only [retQ, retE, RetOK, objPairs, resPairs, cellPairs, objCells, retRen, retMem, exitMem, exitVals, resAt, entryMem, cellsAt, AMds, AMd, CMd, keys, List.append_nil, List.nil_append, List.cons_append, List.map_cons, List.map_nil, List.nodup_cons, List.mem_cons, List.not_mem_nil, or_false, not_false_eq_true, List.nodup_nil, get_mk, mem_mk, look_nil, look_cons, Option.isSome_some, Option.isSome_none, and_self, and_true, true_and, ↓reduceIte, Nat.reduceEqDiff, Nat.reduceAdd, Nat.reduceMul, Option.getD_some, inObj, inRow, outName, outCell, forall_eq_or_imp, forall_eq, implies_true, Nat.reduceBEq, reduceCtorEq, Bool.false_eq_true, andThen_some, andThen_none, Nat.zero_add, List.length_nil, List.length_cons, false_implies, List.length_append, loadE, run_ask, run_ret, run_fail, obind_some, obind_none, List.zip_cons_cons, List.zip_nil_left, List.zip_nil_right, AMd.AMp, List.take, List.drop, List.getElem?_cons_zero, List.getElem?_cons_succ, Nat.reduceLeDiff, Nat.zero_le, List.forall_mem_nil, rs_39, bytes, List.map_nil]
  have hS : putS ⟨r, q, c, l⟩ = (encS ⟨r, q, c, l⟩, 0) := by unfold putS; rw [if_pos h0]
  rw [h0] at q1
  obtain ⟨i1, i2, i3, i4, i5, i6, i7, i8⟩ := check_ok h0
  have i5 : l.length ≤ 3 := i5
  have i8 : ∀ x ∈ l, 1 ≤ x.1 ∧ x.1 ≤ 2 ∧ 1 ≤ x.2 ∧ x.2 ≤ 32 := i8
  have harr := arr4_ok h0
  obtain ⟨s, hs⟩ : ∃ s, (⟨r, q, c, l⟩ : Setp) = s := ⟨_, rfl⟩
  have g1 : ((0 : Int) != 0) = false := rfl
  have ht := text_setup
  have hb0 : b4 s 0 = putB 5 2 ++ setupB := rfl
  have hbl := b4_length s
  rw [← hb0] at ht
  have hs1 : s.l = l := by rw [← hs]
  rw [hs] at harr
  simp only [runA, ncE, faE, fieldE, extE, cloE, bsE, idxE, okE, okM, entryT, entryMem, cellsAt, List.append_nil, List.nil_append, List.cons_append, loadE, storeE, binE, isSh, intOp, AV.flat, Option.map_some, Option.map_none, ↓reduceIte, Nat.reduceLT, Nat.reduceLeDiff, Nat.reduceEqDiff, Nat.reduceAdd, Nat.reduceMul, Nat.reduceSub, decide_true, decide_false, Option.getD_some, Option.getD_none, objName, rowName, resName, resCell, inObj, inRow, outName, outCell, EP.bind, List.getElem?_cons_zero, List.getElem?_cons_succ, List.length_cons, List.length_nil, List.map_cons, List.map_nil, cndE, reduceCtorEq, and_self, and_true, true_and, List.all_cons, List.all_nil, AV.scal, Bool.and_self, Bool.and_true, putAt, List.take, List.drop, Option.bind_some, Option.bind_none, Bool.false_eq_true, callE, argsE, AV.pure?, AV.toPC, toPCs, objsE, cellsE, resAt, backObjs, backCells, freeE, keys, exitMem, shapeOf, oneE, List.nodup_cons, List.mem_cons, List.not_mem_nil, or_false, not_false_eq_true, List.nodup_nil, ext, unE, Nat.reduceBEq, builtinE, lenE, AV.rows, appendE, addedE, newRowE, newObjE, strz, mm, convE, buildE, fillE, chunks, List.replicate, List.flatten, guardE, cndQ, List.getElem?_toArray, List.flatMap, List.flatten_cons, List.flatten_nil, Int.reduceLT, Int.reduceLE, Int.reduceToNat, Option.map, Nat.zero_add, Nat.mul_one, Nat.one_mul, Nat.zero_le, Nat.add_zero, List.length_append, beq_true, beq_false, Bool.not_true, Bool.not_false, strOp, beq_self_eq_true, Int.toNat_natCast, indexE, Int.natCast_nonneg, mkE, newMslE, Bool.or_false, Bool.or_true, Bool.false_or, Bool.true_or, look2, denil, List.append_eq, once, without, convO, hN, hF, ty_3, ty_5, ty_9, ty_26, ty_49, ty_61, ty_63, ty_125, ty_128, ty_131, notIf, isEq, h5, q1, g1, h1, newC, h4, ht, ruls_length, bytes_length]
  refine AWP.loop (fun k st => ∃ i : Nat, i ≤ 4 ∧ k = 4 - i ∧ st = ⟨[(1, .ptr 64 0), (5, .ptr 962 0), (27, .agg [.c (.int .i64 r), .c (.int .i64 q), .c (.int .i64 c), .c (.int .i64 (l.length : Int))]), (28, .c (.int .i64 (i : Int)))],
    [(64, .obj [.c (.int .i64 r), .c (.int .i64 q), .c (.int .i64 c), .c (.sl (ruls l))] false), (962, .obj [.own 970 1 (bytes (b4 s i)), .c (.int .i64 0), .c (.bool true)] false), (970, .row 1 (b4 s i).length)]⟩) ⟨4, _, ?w, 0, Nat.zero_le _, rfl, rfl⟩ ?r
  case w =>
    rw [hns]
    simp only [Weak, wkM, wkT, wkRen, AMd, AMds, AMd.AMp, CMd, look_cons, look_nil, get_mk, mem_mk, AS.get, AS.mem, keys, entryMem, cellsAt, List.map_nil, List.map_cons, List.not_mem_nil, List.mem_cons, or_false, false_implies, implies_true, and_true, true_and, and_self, ↓reduceIte, Nat.reduceEqDiff, Option.getD_some, Option.getD_none, Option.map_some, Option.map_none, Option.isSome_some, Option.isSome_none, forall_eq_or_imp, forall_eq, reduceCtorEq, List.append_nil, List.nil_append, List.cons_append, Nat.reduceAdd, Nat.reduceMul, inObj, inRow]
    first | done | simp
  case r =>
    rintro k st ⟨i, hi, rfl, rfl⟩
    refine vc_sound hΓ mixed _ _ _ ?_
    have hlen := hbl i
    by_cases hlt : i < 4
    · have g2 : decide ((i : Int) < 4) = true := by simp; omega
      have g3 : ((i : Int) < ((4 : Nat) : Int)) = True := by simp; omega
      have e1 : IntKind.i64.wrap ((i : Int) + 1) = (i : Int) + 1 := wrapI (by omega)
      have hx : ([AV.c (.int .i64 r), AV.c (.int .i64 q), AV.c (.int .i64 c), AV.c (.int .i64 (l.length : Int))] : List AV)[i]? = some (.c (.int .i64 (arr4 s i))) := by
        rw [← hs]
        unfold arr4
        rcases (show i = 0 ∨ i = 1 ∨ i = 2 ∨ i = 3 by omega) with rfl | rfl | rfl | rfl <;> rfl
      have hn := num_atw (b4 s i) 0 (arr4 s i) (by omega)
      rw [wNum_okN (harr i) (by omega)] at hn
      have hb : b4 s i ++ putB (arr4 s i) 6 = b4 s (i + 1) := rfl
      simp only [hb] at hn
      generalize hg : ([AV.c (.int .i64 r), AV.c (.int .i64 q), AV.c (.int .i64 c), AV.c (.int .i64 (l.length : Int))] : List AV) = ar at hx
      simp only [runA, ncE, faE, fieldE, extE, cloE, bsE, idxE, okE, okM, entryT, entryMem, cellsAt, List.append_nil, List.nil_append, List.cons_append, loadE, storeE, binE, isSh, intOp, AV.flat, Option.map_some, Option.map_none, ↓reduceIte, Nat.reduceLT, Nat.reduceLeDiff, Nat.reduceEqDiff, Nat.reduceAdd, Nat.reduceMul, Nat.reduceSub, decide_true, decide_false, Option.getD_some, Option.getD_none, objName, rowName, resName, resCell, inObj, inRow, outName, outCell, EP.bind, List.getElem?_cons_zero, List.getElem?_cons_succ, List.length_cons, List.length_nil, List.map_cons, List.map_nil, cndE, reduceCtorEq, and_self, and_true, true_and, List.all_cons, List.all_nil, AV.scal, Bool.and_self, Bool.and_true, putAt, List.take, List.drop, Option.bind_some, Option.bind_none, Bool.false_eq_true, callE, argsE, AV.pure?, AV.toPC, toPCs, objsE, cellsE, resAt, backObjs, backCells, freeE, keys, exitMem, shapeOf, oneE, List.nodup_cons, List.mem_cons, List.not_mem_nil, or_false, not_false_eq_true, List.nodup_nil, ext, unE, Nat.reduceBEq, builtinE, lenE, AV.rows, appendE, addedE, newRowE, newObjE, strz, mm, convE, buildE, fillE, chunks, List.replicate, List.flatten, guardE, cndQ, List.getElem?_toArray, List.flatMap, List.flatten_cons, List.flatten_nil, Int.reduceLT, Int.reduceLE, Int.reduceToNat, Option.map, Nat.zero_add, Nat.mul_one, Nat.one_mul, Nat.zero_le, Nat.add_zero, List.length_append, beq_true, beq_false, Bool.not_true, Bool.not_false, strOp, beq_self_eq_true, Int.toNat_natCast, indexE, Int.natCast_nonneg, mkE, newMslE, Bool.or_false, Bool.or_true, Bool.false_or, Bool.true_or, look2, denil, List.append_eq, once, without, convO, hN, hF, ty_3, ty_5, ty_9, ty_26, ty_49, ty_61, ty_63, ty_125, ty_128, ty_131, notIf, isEq, g2, g3, e1, hx, h2, hn, bytes_length]
      refine ⟨4 - (i + 1), _, by omega, ?_, i + 1, by omega, rfl, rfl⟩
      rw [hns]
      subst hg
      simp only [Weak, wkM, wkT, wkRen, AMd, AMds, AMd.AMp, CMd, look_cons, look_nil, get_mk, mem_mk, AS.get, AS.mem, keys, entryMem, cellsAt, List.map_nil, List.map_cons, List.not_mem_nil, List.mem_cons, or_false, false_implies, implies_true, and_true, true_and, and_self, ↓reduceIte, Nat.reduceEqDiff, Option.getD_some, Option.getD_none, Option.map_some, Option.map_none, Option.isSome_some, Option.isSome_none, forall_eq_or_imp, forall_eq, reduceCtorEq, List.append_nil, List.nil_append, List.cons_append, Nat.reduceAdd, Nat.reduceMul, inObj, inRow, bytes_length]
      first | done | simp
    · have g2 : decide ((i : Int) < 4) = false := by simp; omega
      obtain rfl : i = 4 := by omega
      simp only [runA, ncE, faE, fieldE, extE, cloE, bsE, idxE, okE, okM, entryT, entryMem, cellsAt, List.append_nil, List.nil_append, List.cons_append, loadE, storeE, binE, isSh, intOp, AV.flat, Option.map_some, Option.map_none, ↓reduceIte, Nat.reduceLT, Nat.reduceLeDiff, Nat.reduceEqDiff, Nat.reduceAdd, Nat.reduceMul, Nat.reduceSub, decide_true, decide_false, Option.getD_some, Option.getD_none, objName, rowName, resName, resCell, inObj, inRow, outName, outCell, EP.bind, List.getElem?_cons_zero, List.getElem?_cons_succ, List.length_cons, List.length_nil, List.map_cons, List.map_nil, cndE, reduceCtorEq, and_self, and_true, true_and, List.all_cons, List.all_nil, AV.scal, Bool.and_self, Bool.and_true, putAt, List.take, List.drop, Option.bind_some, Option.bind_none, Bool.false_eq_true, callE, argsE, AV.pure?, AV.toPC, toPCs, objsE, cellsE, resAt, backObjs, backCells, freeE, keys, exitMem, shapeOf, oneE, List.nodup_cons, List.mem_cons, List.not_mem_nil, or_false, not_false_eq_true, List.nodup_nil, ext, unE, Nat.reduceBEq, builtinE, lenE, AV.rows, appendE, addedE, newRowE, newObjE, strz, mm, convE, buildE, fillE, chunks, List.replicate, List.flatten, guardE, cndQ, List.getElem?_toArray, List.flatMap, List.flatten_cons, List.flatten_nil, Int.reduceLT, Int.reduceLE, Int.reduceToNat, Option.map, Nat.zero_add, Nat.mul_one, Nat.one_mul, Nat.zero_le, Nat.add_zero, List.length_append, beq_true, beq_false, Bool.not_true, Bool.not_false, strOp, beq_self_eq_true, Int.toNat_natCast, indexE, Int.natCast_nonneg, mkE, newMslE, Bool.or_false, Bool.or_true, Bool.false_or, Bool.true_or, look2, denil, List.append_eq, once, without, convO, hN, hF, ty_3, ty_5, ty_9, ty_26, ty_49, ty_61, ty_63, ty_125, ty_128, ty_131, notIf, isEq, g2, ruls_length]
      refine AWP.loop (fun k st => ∃ i : Nat, i ≤ l.length ∧ k = l.length - i ∧ st = ⟨[(5, .ptr 962 0), (36, .c (.sl (ruls l))), (37, .c (.int .i64 (l.length : Int))), (38, .c (.int .i64 (i : Int)))],
        [(962, .obj [.own 970 1 (bytes (bR s i)), .c (.int .i64 0), .c (.bool true)] false), (970, .row 1 (bR s i).length)]⟩) ⟨l.length, _, ?w2, 0, Nat.zero_le _, rfl, rfl⟩ ?r2
      case w2 =>
        rw [hns]
        have hb : bR s 0 = b4 s 4 := by simp [bR, tailR]
        rw [hb]
        simp only [Weak, wkM, wkT, wkRen, AMd, AMds, AMd.AMp, CMd, look_cons, look_nil, get_mk, mem_mk, AS.get, AS.mem, keys, entryMem, cellsAt, List.map_nil, List.map_cons, List.not_mem_nil, List.mem_cons, or_false, false_implies, implies_true, and_true, true_and, and_self, ↓reduceIte, Nat.reduceEqDiff, Option.getD_some, Option.getD_none, Option.map_some, Option.map_none, Option.isSome_some, Option.isSome_none, forall_eq_or_imp, forall_eq, reduceCtorEq, List.append_nil, List.nil_append, List.cons_append, Nat.reduceAdd, Nat.reduceMul, inObj, inRow]
        first | done | simp
      case r2 =>
        rintro k st ⟨i, hi, rfl, rfl⟩
        refine vc_sound hΓ mixed _ _ _ ?_
        have hlR : (bR s i).length = 31 + 12 * i := by
          unfold bR; rw [List.length_append, hbl, tailR_length, hs1, List.length_take]; omega
        by_cases hlt : i < l.length
        · have g3 : decide ((i : Int) < (l.length : Int)) = true := by simpa using hlt
          have e1 : IntKind.i64.wrap ((i : Int) + 1) = (i : Int) + 1 := wrapI (by omega)
          obtain ⟨x, y, hx⟩ : ∃ x y, l[i]? = some (x, y) := ⟨l[i].1, l[i].2, by simp [hlt]⟩
          have hxr : (ruls l)[i]? = some [.int .i64 x, .int .i64 y] := by simp [ruls, hx]
          have hxm := i8 (x, y) (List.mem_of_getElem? hx)
          have n1 := num_atw (bR s i) 0 x (by omega)
          rw [wNum_okN (by unfold okN; omega) (by omega)] at n1
          have n2 := num_atw (bR s i ++ putB x 6) 0 y (by rw [List.length_append, len6]; omega)
          rw [wNum_okN (by unfold okN; omega) (by rw [List.length_append, len6]; omega)] at n2
          have hb : (bR s i ++ putB x 6) ++ putB y 6 = bR s (i + 1) := by
            unfold bR
            rw [hs1, List.take_add_one, hx, tailR_app]
            simp [tailR]
          simp only [hb] at n2
          dsimp only at n1
          simp only [runA, ncE, faE, fieldE, extE, cloE, bsE, idxE, okE, okM, entryT, entryMem, cellsAt, List.append_nil, List.nil_append, List.cons_append, loadE, storeE, binE, isSh, intOp, AV.flat, Option.map_some, Option.map_none, ↓reduceIte, Nat.reduceLT, Nat.reduceLeDiff, Nat.reduceEqDiff, Nat.reduceAdd, Nat.reduceMul, Nat.reduceSub, decide_true, decide_false, Option.getD_some, Option.getD_none, objName, rowName, resName, resCell, inObj, inRow, outName, outCell, EP.bind, List.getElem?_cons_zero, List.getElem?_cons_succ, List.length_cons, List.length_nil, List.map_cons, List.map_nil, cndE, reduceCtorEq, and_self, and_true, true_and, List.all_cons, List.all_nil, AV.scal, Bool.and_self, Bool.and_true, putAt, List.take, List.drop, Option.bind_some, Option.bind_none, Bool.false_eq_true, callE, argsE, AV.pure?, AV.toPC, toPCs, objsE, cellsE, resAt, backObjs, backCells, freeE, keys, exitMem, shapeOf, oneE, List.nodup_cons, List.mem_cons, List.not_mem_nil, or_false, not_false_eq_true, List.nodup_nil, ext, unE, Nat.reduceBEq, builtinE, lenE, AV.rows, appendE, addedE, newRowE, newObjE, strz, mm, convE, buildE, fillE, chunks, List.replicate, List.flatten, guardE, cndQ, List.getElem?_toArray, List.flatMap, List.flatten_cons, List.flatten_nil, Int.reduceLT, Int.reduceLE, Int.reduceToNat, Option.map, Nat.zero_add, Nat.mul_one, Nat.one_mul, Nat.zero_le, Nat.add_zero, List.length_append, beq_true, beq_false, Bool.not_true, Bool.not_false, strOp, beq_self_eq_true, Int.toNat_natCast, indexE, Int.natCast_nonneg, mkE, newMslE, Bool.or_false, Bool.or_true, Bool.false_or, Bool.true_or, look2, denil, List.append_eq, once, without, convO, hN, hF, ty_3, ty_5, ty_9, ty_26, ty_49, ty_61, ty_63, ty_125, ty_128, ty_131, notIf, isEq, g3, e1, hxr, h2, n1, n2, bytes_length]
          refine ⟨l.length - (i + 1), _, by omega, ?_, i + 1, by omega, rfl, rfl⟩
          rw [hns]
          simp only [Weak, wkM, wkT, wkRen, AMd, AMds, AMd.AMp, CMd, look_cons, look_nil, get_mk, mem_mk, AS.get, AS.mem, keys, entryMem, cellsAt, List.map_nil, List.map_cons, List.not_mem_nil, List.mem_cons, or_false, false_implies, implies_true, and_true, true_and, and_self, ↓reduceIte, Nat.reduceEqDiff, Option.getD_some, Option.getD_none, Option.map_some, Option.map_none, Option.isSome_some, Option.isSome_none, forall_eq_or_imp, forall_eq, reduceCtorEq, List.append_nil, List.nil_append, List.cons_append, Nat.reduceAdd, Nat.reduceMul, inObj, inRow, bytes_length]
          first | done | simp
        · have g3 : decide ((i : Int) < (l.length : Int)) = false := by simpa using hlt
          obtain rfl : i = l.length := by omega
          have hd := done_atw (bR s l.length) 0
          have hfin : bR s l.length = encS s := by unfold bR encS; rw [hs1, List.take_length]
          have hdr : doneR ⟨bR s l.length, 0⟩ = (encS s, 0) := by
            unfold doneR; rw [if_pos rfl, if_neg (by dsimp only; omega), hfin]
          rw [hdr] at hd
          rw [hS, hs]
          dsimp only at hd ⊢
          simp only [runA, ncE, faE, fieldE, extE, cloE, bsE, idxE, okE, okM, entryT, entryMem, cellsAt, List.append_nil, List.nil_append, List.cons_append, loadE, storeE, binE, isSh, intOp, AV.flat, Option.map_some, Option.map_none, ↓reduceIte, Nat.reduceLT, Nat.reduceLeDiff, Nat.reduceEqDiff, Nat.reduceAdd, Nat.reduceMul, Nat.reduceSub, decide_true, decide_false, Option.getD_some, Option.getD_none, objName, rowName, resName, resCell, inObj, inRow, outName, outCell, EP.bind, List.getElem?_cons_zero, List.getElem?_cons_succ, List.length_cons, List.length_nil, List.map_cons, List.map_nil, cndE, reduceCtorEq, and_self, and_true, true_and, List.all_cons, List.all_nil, AV.scal, Bool.and_self, Bool.and_true, putAt, List.take, List.drop, Option.bind_some, Option.bind_none, Bool.false_eq_true, callE, argsE, AV.pure?, AV.toPC, toPCs, objsE, cellsE, resAt, backObjs, backCells, freeE, keys, exitMem, shapeOf, oneE, List.nodup_cons, List.mem_cons, List.not_mem_nil, or_false, not_false_eq_true, List.nodup_nil, ext, unE, Nat.reduceBEq, builtinE, lenE, AV.rows, appendE, addedE, newRowE, newObjE, strz, mm, convE, buildE, fillE, chunks, List.replicate, List.flatten, guardE, cndQ, List.getElem?_toArray, List.flatMap, List.flatten_cons, List.flatten_nil, Int.reduceLT, Int.reduceLE, Int.reduceToNat, Option.map, Nat.zero_add, Nat.mul_one, Nat.one_mul, Nat.zero_le, Nat.add_zero, List.length_append, beq_true, beq_false, Bool.not_true, Bool.not_false, strOp, beq_self_eq_true, Int.toNat_natCast, indexE, Int.natCast_nonneg, mkE, newMslE, Bool.or_false, Bool.or_true, Bool.false_or, Bool.true_or, look2, denil, List.append_eq, once, without, convO, hN, hF, ty_3, ty_5, ty_9, ty_26, ty_49, ty_61, ty_63, ty_125, ty_128, ty_131, notIf, isEq, g3, h3, hd, bytes_length]
          simp only [retQ, retE, RetOK, objPairs, resPairs, cellPairs, objCells, retRen, retMem, exitMem, exitVals, resAt, entryMem, cellsAt, AMds, AMd, CMd, keys, List.append_nil, List.nil_append, List.cons_append, List.map_cons, List.map_nil, List.nodup_cons, List.mem_cons, List.not_mem_nil, or_false, not_false_eq_true, List.nodup_nil, get_mk, mem_mk, look_nil, look_cons, Option.isSome_some, Option.isSome_none, and_self, and_true, true_and, ↓reduceIte, Nat.reduceEqDiff, Nat.reduceAdd, Nat.reduceMul, Option.getD_some, inObj, inRow, outName, outCell, forall_eq_or_imp, forall_eq, implies_true, Nat.reduceBEq, reduceCtorEq, Bool.false_eq_true, andThen_some, andThen_none, Nat.zero_add, List.length_nil, List.length_cons, false_implies, List.length_append, loadE, run_ask, run_ret, run_fail, obind_some, obind_none, List.zip_cons_cons, List.zip_nil_left, List.zip_nil_right, AMd.AMp, List.take, List.drop, List.getElem?_cons_zero, List.getElem?_cons_succ, Nat.reduceLeDiff, Nat.zero_le, List.forall_mem_nil, rs_39]

end Go.Proofs.Ytjdokoldiemobaa.AM
