/-
  State: what the laws owe.
-/
import Derived.Test.YtjdokoldiemobaaSt3
set_option linter.unusedVariables false
set_option linter.unusedSimpArgs false
namespace Go.Proofs.Ytjdokoldiemobaa.AM
open Go

variable {Γ : FuncId → Contract}

theorem pathP_mem' : ∀ (n : Nat) (l : List (List UInt8)) (a : Nat), l.length ≤ n → Okl l → Okl (pathP l a)
  | 0, l, a, h, hl => by rw [pathP_le (by omega)]; exact ⟨by simp, by simp⟩
  | n + 1, l, a, h, hl => by
    have key : ∀ (n : Nat) (l : List (List UInt8)) (a : Nat), l.length ≤ n → Okl l → Okl (pathP l a) ∧ (pathP l a).length ≤ l.length := by
      intro n
      induction n with
      | zero => intro l a h hl; rw [pathP_le (by omega)]; exact ⟨⟨by simp, by simp⟩, by simp⟩
      | succ n ih =>
        intro l a h hl
        by_cases h1 : l.length ≤ 1
        · rw [pathP_le h1]; exact ⟨⟨by simp, by simp⟩, by simp⟩
        · have hu := upS_length l
          obtain ⟨h2, h3⟩ := ih (upS l) (a / 2) (by omega) (upS_ok hl)
          have h4 := hl.1
          rw [pathP_gt h1]
          refine ⟨⟨by rw [List.length_cons]; omega, fun s hs => ?_⟩, by rw [List.length_cons]; omega⟩
          rcases List.mem_cons.1 hs with rfl | hs
          · unfold List.getD
            cases hg : l[nb a]? with
            | none => simp
            | some x => exact hl.2 x (List.mem_of_getElem? hg)
          · exact h2.2 s hs
    exact (key (n + 1) l a h hl).1
theorem pathS_ok' {l : List (List UInt8)} (h : Okl l) (a : Int) : Okl (pathS l a).1 := by
  unfold pathS
  split
  · exact ⟨by simp, by simp⟩
  · split
    · exact pathP_mem' _ l _ (Nat.le_refl _) h
    · exact ⟨by simp, by simp⟩

structure Vf where
  root : List UInt8
  c : Int
  a : Acc
  path : List (List UInt8)
def vfOK (p : Vf) : Prop := p.c < 9223372036854775808 ∧ Okl p.path
noncomputable def verifiesC : Contract := mkC (α := Vf) vfOK (fun p => [.c (.str p.root), .c (.int .i64 p.c), .agg [.c (.int .i64 p.a.1), .c (.int .i64 p.a.2)], .c (.sl (texts p.path))]) (fun _ => []) (fun _ => ⟨[.pv (.c (.bool true))], []⟩)

set_option maxRecDepth 100000 in
set_option maxHeartbeats 1000000 in
theorem verifies_sound (hΓ : SoundG Try.prog Γ) (h1 : Γ 52 = verC) (h2 : Γ 43 = lfC) (h3 : Γ 53 = climbC) (h4 : Γ 51 = alive35C) : SoundC Try.prog 11 verifiesC := by
  refine sound_fn Try.func11 (by kernel_rfl) rfl rfl ?_
  intro args objs r hr
  obtain ⟨⟨root, c, ⟨x, y⟩, path⟩, ⟨hc, hp⟩, rfl, rfl, rfl⟩ := mkC_inv hr
  have hc : c < 9223372036854775808 := hc
  have hp : Okl path := hp
  refine ⟨rfl, by show 4 ≤ _; decide, fun E hN hns hF => ?_⟩
  refine vc_sound hΓ mixed _ _ _ ?_
  have hN := hN.trans nt_11
  dsimp only
  have q0 := ver_at root c x y path hc hp
  have q1 := lf_at c x y
  have q2 := climb_at (leafA c (x, y)) c path ⟨by show (leafA c (x, y)).length ≤ _; rw [leafA_length]; decide, hc, hp⟩
  have q3 := alive35_at
  by_cases hneg : 0 ≤ c
  · have g1 : decide (c ≥ 0) = true := by simpa using hneg
    have hv : verS root c (x, y) path = (climbS (leafA c (x, y)) (max c 0).toNat path == root) := by simp [verS, hneg]
    rw [hv] at q0
    obtain ⟨K, hK⟩ : ∃ K, climbS (leafA c (x, y)) (max c 0).toNat path = K := ⟨_, rfl⟩
    rw [hK] at q0 q2
    obtain ⟨bb, hb⟩ : ∃ bb, (K == root) = bb := ⟨_, rfl⟩
    rw [hb] at q0
    have g2 : (bb == bb) = true := by simp
    simp only [runA, ncE, faE, fieldE, extE, cloE, bsE, idxE, okE, okM, entryT, entryMem, cellsAt, List.append_nil, List.nil_append, List.cons_append, loadE, storeE, binE, isSh, intOp, AV.flat, Option.map_some, Option.map_none, ↓reduceIte, Nat.reduceLT, Nat.reduceLeDiff, Nat.reduceEqDiff, Nat.reduceAdd, Nat.reduceMul, Nat.reduceSub, decide_true, decide_false, Option.getD_some, Option.getD_none, objName, rowName, resName, resCell, inObj, inRow, outName, outCell, EP.bind, List.getElem?_cons_zero, List.getElem?_cons_succ, List.length_cons, List.length_nil, List.map_cons, List.map_nil, cndE, reduceCtorEq, and_self, and_true, true_and, List.all_cons, List.all_nil, AV.scal, Bool.and_self, Bool.and_true, putAt, List.take, List.drop, Option.bind_some, Option.bind_none, Bool.false_eq_true, callE, argsE, AV.pure?, AV.toPC, toPCs, objsE, cellsE, resAt, backObjs, backCells, freeE, keys, exitMem, shapeOf, oneE, List.nodup_cons, List.mem_cons, List.not_mem_nil, or_false, not_false_eq_true, List.nodup_nil, ext, unE, Nat.reduceBEq, builtinE, lenE, AV.rows, appendE, addedE, newRowE, newObjE, strz, mm, convE, buildE, fillE, chunks, List.replicate, List.flatten, guardE, cndQ, List.getElem?_toArray, List.flatMap, List.flatten_cons, List.flatten_nil, Int.reduceLT, Int.reduceLE, Int.reduceToNat, Option.map, Nat.zero_add, Nat.mul_one, Nat.one_mul, Nat.zero_le, Nat.add_zero, List.length_append, beq_true, beq_false, Bool.not_true, Bool.not_false, strOp, beq_self_eq_true, Int.toNat_natCast, indexE, Int.natCast_nonneg, mkE, newMslE, Bool.or_false, Bool.or_true, Bool.false_or, Bool.true_or, look2, denil, List.append_eq, once, without, convO, hN, hF, ty_3, ty_4, ty_9, ty_23, ty_73, notIf, isEq, g1, h1, h2, h3, h4, q0, q1, q2, q3, hb, g2]
    simp only [retQ, retE, RetOK, objPairs, resPairs, cellPairs, objCells, retRen, retMem, exitMem, exitVals, resAt, entryMem, cellsAt, AMds, AMd, CMd, keys, List.append_nil, List.nil_append, List.cons_append, List.map_cons, List.map_nil, List.nodup_cons, List.mem_cons, List.not_mem_nil, or_false, not_false_eq_true, List.nodup_nil, get_mk, mem_mk, look_nil, look_cons, Option.isSome_some, Option.isSome_none, and_self, and_true, true_and, ↓reduceIte, Nat.reduceEqDiff, Nat.reduceAdd, Nat.reduceMul, Option.getD_some, inObj, inRow, outName, outCell, forall_eq_or_imp, forall_eq, implies_true, Nat.reduceBEq, reduceCtorEq, Bool.false_eq_true, andThen_some, andThen_none, Nat.zero_add, List.length_nil, List.length_cons, false_implies, List.length_append, loadE, run_ask, run_ret, run_fail, obind_some, obind_none, List.zip_cons_cons, List.zip_nil_left, List.zip_nil_right, AMd.AMp, List.take, List.drop, List.getElem?_cons_zero, List.getElem?_cons_succ, Nat.reduceLeDiff, Nat.zero_le, List.forall_mem_nil, rs_11]
  · have g1 : decide (c ≥ 0) = false := by simp; omega
    have hv : verS root c (x, y) path = false := by simp [verS, hneg]
    rw [hv] at q0
    have g2 : (false == false) = true := rfl
    simp only [runA, ncE, faE, fieldE, extE, cloE, bsE, idxE, okE, okM, entryT, entryMem, cellsAt, List.append_nil, List.nil_append, List.cons_append, loadE, storeE, binE, isSh, intOp, AV.flat, Option.map_some, Option.map_none, ↓reduceIte, Nat.reduceLT, Nat.reduceLeDiff, Nat.reduceEqDiff, Nat.reduceAdd, Nat.reduceMul, Nat.reduceSub, decide_true, decide_false, Option.getD_some, Option.getD_none, objName, rowName, resName, resCell, inObj, inRow, outName, outCell, EP.bind, List.getElem?_cons_zero, List.getElem?_cons_succ, List.length_cons, List.length_nil, List.map_cons, List.map_nil, cndE, reduceCtorEq, and_self, and_true, true_and, List.all_cons, List.all_nil, AV.scal, Bool.and_self, Bool.and_true, putAt, List.take, List.drop, Option.bind_some, Option.bind_none, Bool.false_eq_true, callE, argsE, AV.pure?, AV.toPC, toPCs, objsE, cellsE, resAt, backObjs, backCells, freeE, keys, exitMem, shapeOf, oneE, List.nodup_cons, List.mem_cons, List.not_mem_nil, or_false, not_false_eq_true, List.nodup_nil, ext, unE, Nat.reduceBEq, builtinE, lenE, AV.rows, appendE, addedE, newRowE, newObjE, strz, mm, convE, buildE, fillE, chunks, List.replicate, List.flatten, guardE, cndQ, List.getElem?_toArray, List.flatMap, List.flatten_cons, List.flatten_nil, Int.reduceLT, Int.reduceLE, Int.reduceToNat, Option.map, Nat.zero_add, Nat.mul_one, Nat.one_mul, Nat.zero_le, Nat.add_zero, List.length_append, beq_true, beq_false, Bool.not_true, Bool.not_false, strOp, beq_self_eq_true, Int.toNat_natCast, indexE, Int.natCast_nonneg, mkE, newMslE, Bool.or_false, Bool.or_true, Bool.false_or, Bool.true_or, look2, denil, List.append_eq, once, without, convO, hN, hF, ty_3, ty_4, ty_9, ty_23, ty_73, notIf, isEq, g1, h1, h4, q0, q3, g2]
    simp only [retQ, retE, RetOK, objPairs, resPairs, cellPairs, objCells, retRen, retMem, exitMem, exitVals, resAt, entryMem, cellsAt, AMds, AMd, CMd, keys, List.append_nil, List.nil_append, List.cons_append, List.map_cons, List.map_nil, List.nodup_cons, List.mem_cons, List.not_mem_nil, or_false, not_false_eq_true, List.nodup_nil, get_mk, mem_mk, look_nil, look_cons, Option.isSome_some, Option.isSome_none, and_self, and_true, true_and, ↓reduceIte, Nat.reduceEqDiff, Nat.reduceAdd, Nat.reduceMul, Option.getD_some, inObj, inRow, outName, outCell, forall_eq_or_imp, forall_eq, implies_true, Nat.reduceBEq, reduceCtorEq, Bool.false_eq_true, andThen_some, andThen_none, Nat.zero_add, List.length_nil, List.length_cons, false_implies, List.length_append, loadE, run_ask, run_ret, run_fail, obind_some, obind_none, List.zip_cons_cons, List.zip_nil_left, List.zip_nil_right, AMd.AMp, List.take, List.drop, List.getElem?_cons_zero, List.getElem?_cons_succ, Nat.reduceLeDiff, Nat.zero_le, List.forall_mem_nil, rs_11]

structure Sb where
  l : List Acc
  c : Int
noncomputable def stBackC : Contract := mkC (α := Sb) (fun p => okA p.l) (fun p => [.c (.sl (accs p.l)), .c (.int .i64 p.c)]) (fun _ => []) (fun _ => ⟨[.pv (.c (.bool true))], []⟩)

set_option maxRecDepth 100000 in
set_option maxHeartbeats 1000000 in
theorem stBack_sound (hΓ : SoundG Try.prog Γ) (h1 : Γ 52 = verC) (h2 : Γ 44 = proveC) (h3 : Γ 47 = stRootC) (h4 : Γ 51 = alive35C) : SoundC Try.prog 10 stBackC := by
  refine sound_fn Try.func10 (by kernel_rfl) rfl rfl ?_
  intro args objs r hr
  obtain ⟨⟨l, c⟩, hl, rfl, rfl, rfl⟩ := mkC_inv hr
  have hl : okA l := hl
  have hl1 : l.length ≤ 1099511627 := hl
  refine ⟨rfl, by show 2 ≤ _; decide, fun E hN hns hF => ?_⟩
  refine vc_sound hΓ mixed _ _ _ ?_
  have hN := hN.trans nt_10
  dsimp only
  have q1 := prove_at l c hl
  have q2 := stRoot_at l hl
  have q3 := alive35_at
  have hll := lvA_length l
  have hok := lvA_ok hl1
  by_cases hgo : ¬ (c < 0 ∨ ((lvA l).length : Int) ≤ c) ∧ powN (lvA l).length = true
  · obtain ⟨hk1, hk2⟩ := hgo
    have hS : pathS (lvA l) c = (pathP (lvA l) c.toNat, 0) := by unfold pathS; rw [if_neg hk1, if_pos hk2]
    obtain ⟨A, rfl⟩ : ∃ A : Nat, c = (A : Int) := ⟨c.toNat, by omega⟩
    rw [hS] at q1
    have e0 : ((A : Int)).toNat = A := by omega
    rw [e0] at q1
    have hAl : A < l.length := by omega
    obtain ⟨x, y, hx⟩ : ∃ x y, l[A]? = some (x, y) := ⟨l[A].1, l[A].2, by simp [hAl]⟩
    have hxr : (accs l)[A]? = some [.int .i64 x, .int .i64 y] := by simp [accs, accP, hx]
    have hleaf : (lvA l).getD A [] = leafA (A : Int) (x, y) := by
      have hae : l[A] = (x, y) := by
        have := List.getElem?_eq_getElem hAl
        rw [hx] at this; exact (Option.some.inj this).symm
      simp [lvA, lvN, List.getD, hAl, hae]
    have hcl := climb_path (lvA l).length (lvA l) A (by omega) (Nat.le_refl _) hk2
    rw [hleaf] at hcl
    have q4 := ver_at (rootS (lvA l)) (A : Int) x y (pathP (lvA l) A) (by omega) (pathP_mem' _ (lvA l) A (Nat.le_refl _) hok)
    have hv : verS (rootS (lvA l)) (A : Int) (x, y) (pathP (lvA l) A) = true := by
      unfold verS
      rw [show (max (A : Int) 0).toNat = A from by omega, hcl]
      simp
    rw [hv] at q4
    have g0 : ((0 : Int) != 0) = false := rfl
    simp only [runA, ncE, faE, fieldE, extE, cloE, bsE, idxE, okE, okM, entryT, entryMem, cellsAt, List.append_nil, List.nil_append, List.cons_append, loadE, storeE, binE, isSh, intOp, AV.flat, Option.map_some, Option.map_none, ↓reduceIte, Nat.reduceLT, Nat.reduceLeDiff, Nat.reduceEqDiff, Nat.reduceAdd, Nat.reduceMul, Nat.reduceSub, decide_true, decide_false, Option.getD_some, Option.getD_none, objName, rowName, resName, resCell, inObj, inRow, outName, outCell, EP.bind, List.getElem?_cons_zero, List.getElem?_cons_succ, List.length_cons, List.length_nil, List.map_cons, List.map_nil, cndE, reduceCtorEq, and_self, and_true, true_and, List.all_cons, List.all_nil, AV.scal, Bool.and_self, Bool.and_true, putAt, List.take, List.drop, Option.bind_some, Option.bind_none, Bool.false_eq_true, callE, argsE, AV.pure?, AV.toPC, toPCs, objsE, cellsE, resAt, backObjs, backCells, freeE, keys, exitMem, shapeOf, oneE, List.nodup_cons, List.mem_cons, List.not_mem_nil, or_false, not_false_eq_true, List.nodup_nil, ext, unE, Nat.reduceBEq, builtinE, lenE, AV.rows, appendE, addedE, newRowE, newObjE, strz, mm, convE, buildE, fillE, chunks, List.replicate, List.flatten, guardE, cndQ, List.getElem?_toArray, List.flatMap, List.flatten_cons, List.flatten_nil, Int.reduceLT, Int.reduceLE, Int.reduceToNat, Option.map, Nat.zero_add, Nat.mul_one, Nat.one_mul, Nat.zero_le, Nat.add_zero, List.length_append, beq_true, beq_false, Bool.not_true, Bool.not_false, strOp, beq_self_eq_true, Int.toNat_natCast, indexE, Int.natCast_nonneg, mkE, newMslE, Bool.or_false, Bool.or_true, Bool.false_or, Bool.true_or, look2, denil, List.append_eq, once, without, convO, hN, hF, ty_3, ty_4, ty_9, ty_23, ty_26, ty_71, ty_73, notIf, isEq, h1, h2, h3, h4, q1, q2, q3, q4, g0, hxr]
    try refine drawnP_intro (by kernel_rfl) (by kernel_rfl) ?_
    try simp only [thenA_normal, vc_ret]
    simp only [retQ, retE, RetOK, objPairs, resPairs, cellPairs, objCells, retRen, retMem, exitMem, exitVals, resAt, entryMem, cellsAt, AMds, AMd, CMd, keys, List.append_nil, List.nil_append, List.cons_append, List.map_cons, List.map_nil, List.nodup_cons, List.mem_cons, List.not_mem_nil, or_false, not_false_eq_true, List.nodup_nil, get_mk, mem_mk, look_nil, look_cons, Option.isSome_some, Option.isSome_none, and_self, and_true, true_and, ↓reduceIte, Nat.reduceEqDiff, Nat.reduceAdd, Nat.reduceMul, Option.getD_some, inObj, inRow, outName, outCell, forall_eq_or_imp, forall_eq, implies_true, Nat.reduceBEq, reduceCtorEq, Bool.false_eq_true, andThen_some, andThen_none, Nat.zero_add, List.length_nil, List.length_cons, false_implies, List.length_append, loadE, run_ask, run_ret, run_fail, obind_some, obind_none, List.zip_cons_cons, List.zip_nil_left, List.zip_nil_right, AMd.AMp, List.take, List.drop, List.getElem?_cons_zero, List.getElem?_cons_succ, Nat.reduceLeDiff, Nat.zero_le, List.forall_mem_nil, rs_10]
  · have hS : (pathS (lvA l) c).1 = [] ∧ ((pathS (lvA l) c).2 = 3 ∨ (pathS (lvA l) c).2 = 4) := by
      unfold pathS
      split
      · exact ⟨rfl, .inr rfl⟩
      · rename_i h
        rw [if_neg (fun hp => hgo ⟨h, hp⟩)]
        exact ⟨rfl, .inl rfl⟩
    generalize pathS (lvA l) c = pp at q1 hS
    obtain ⟨p1, p2⟩ := pp
    obtain ⟨rfl, h34⟩ := hS
    have g0 : (p2 != 0) = true := by
      have h34 : p2 = 3 ∨ p2 = 4 := h34
      rcases h34 with rfl | rfl <;> rfl
    have g1 : (((0 : Nat) : Int) == 0) = true := rfl
    have tn : texts [] = [] := rfl
    dsimp only at q1
    rw [tn] at q1
    simp only [runA, ncE, faE, fieldE, extE, cloE, bsE, idxE, okE, okM, entryT, entryMem, cellsAt, List.append_nil, List.nil_append, List.cons_append, loadE, storeE, binE, isSh, intOp, AV.flat, Option.map_some, Option.map_none, ↓reduceIte, Nat.reduceLT, Nat.reduceLeDiff, Nat.reduceEqDiff, Nat.reduceAdd, Nat.reduceMul, Nat.reduceSub, decide_true, decide_false, Option.getD_some, Option.getD_none, objName, rowName, resName, resCell, inObj, inRow, outName, outCell, EP.bind, List.getElem?_cons_zero, List.getElem?_cons_succ, List.length_cons, List.length_nil, List.map_cons, List.map_nil, cndE, reduceCtorEq, and_self, and_true, true_and, List.all_cons, List.all_nil, AV.scal, Bool.and_self, Bool.and_true, putAt, List.take, List.drop, Option.bind_some, Option.bind_none, Bool.false_eq_true, callE, argsE, AV.pure?, AV.toPC, toPCs, objsE, cellsE, resAt, backObjs, backCells, freeE, keys, exitMem, shapeOf, oneE, List.nodup_cons, List.mem_cons, List.not_mem_nil, or_false, not_false_eq_true, List.nodup_nil, ext, unE, Nat.reduceBEq, builtinE, lenE, AV.rows, appendE, addedE, newRowE, newObjE, strz, mm, convE, buildE, fillE, chunks, List.replicate, List.flatten, guardE, cndQ, List.getElem?_toArray, List.flatMap, List.flatten_cons, List.flatten_nil, Int.reduceLT, Int.reduceLE, Int.reduceToNat, Option.map, Nat.zero_add, Nat.mul_one, Nat.one_mul, Nat.zero_le, Nat.add_zero, List.length_append, beq_true, beq_false, Bool.not_true, Bool.not_false, strOp, beq_self_eq_true, Int.toNat_natCast, indexE, Int.natCast_nonneg, mkE, newMslE, Bool.or_false, Bool.or_true, Bool.false_or, Bool.true_or, look2, denil, List.append_eq, once, without, convO, hN, hF, ty_3, ty_4, ty_9, ty_23, ty_26, ty_71, ty_73, notIf, isEq, h2, h4, q1, q3, g0, g1]
    simp only [retQ, retE, RetOK, objPairs, resPairs, cellPairs, objCells, retRen, retMem, exitMem, exitVals, resAt, entryMem, cellsAt, AMds, AMd, CMd, keys, List.append_nil, List.nil_append, List.cons_append, List.map_cons, List.map_nil, List.nodup_cons, List.mem_cons, List.not_mem_nil, or_false, not_false_eq_true, List.nodup_nil, get_mk, mem_mk, look_nil, look_cons, Option.isSome_some, Option.isSome_none, and_self, and_true, true_and, ↓reduceIte, Nat.reduceEqDiff, Nat.reduceAdd, Nat.reduceMul, Option.getD_some, inObj, inRow, outName, outCell, forall_eq_or_imp, forall_eq, implies_true, Nat.reduceBEq, reduceCtorEq, Bool.false_eq_true, andThen_some, andThen_none, Nat.zero_add, List.length_nil, List.length_cons, false_implies, List.length_append, loadE, run_ask, run_ret, run_fail, obind_some, obind_none, List.zip_cons_cons, List.zip_nil_left, List.zip_nil_right, AMd.AMp, List.take, List.drop, List.getElem?_cons_zero, List.getElem?_cons_succ, Nat.reduceLeDiff, Nat.zero_le, List.forall_mem_nil, rs_10]

structure St where
  l : List Acc
  c : Int
  a : Acc
noncomputable def stTellsC : Contract := mkC (α := St) (fun p => okA p.l) (fun p => [.c (.sl (accs p.l)), .c (.int .i64 p.c), .agg [.c (.int .i64 p.a.1), .c (.int .i64 p.a.2)]]) (fun _ => []) (fun _ => ⟨[.pv (.c (.bool true))], []⟩)

set_option maxRecDepth 100000 in
set_option maxHeartbeats 2000000 in
theorem stTells_sound (hΓ : SoundG Try.prog Γ) (h1 : Γ 46 = lfC) (h2 : Γ 44 = proveC) (h3 : Γ 47 = stRootC) (h4 : Γ 51 = alive35C)
    (h5 : Γ 43 = lfC) (h6 : Γ 45 = pathC) (h7 : Γ 48 = rootC) (h8 : Γ 49 = textsC) (h9 : Γ 50 = num35C) : SoundC Try.prog 9 stTellsC := by
  refine sound_fn Try.func9 (by kernel_rfl) rfl rfl ?_
  intro args objs r hr
  obtain ⟨⟨l, c, ⟨x, y⟩⟩, hl, rfl, rfl, rfl⟩ := mkC_inv hr
  have hl : okA l := hl
  have hl1 : l.length ≤ 1099511627 := hl
  refine ⟨rfl, by show 3 ≤ _; decide, fun E hN hns hF => ?_⟩
  refine vc_sound hΓ mixed _ _ _ ?_
  have hN := hN.trans nt_9
  dsimp only
  simp only [runA, ncE, faE, fieldE, extE, cloE, bsE, idxE, okE, okM, entryT, entryMem, cellsAt, List.append_nil, List.nil_append, List.cons_append, loadE, storeE, binE, isSh, intOp, AV.flat, Option.map_some, Option.map_none, ↓reduceIte, Nat.reduceLT, Nat.reduceLeDiff, Nat.reduceEqDiff, Nat.reduceAdd, Nat.reduceMul, Nat.reduceSub, decide_true, decide_false, Option.getD_some, Option.getD_none, objName, rowName, resName, resCell, inObj, inRow, outName, outCell, EP.bind, List.getElem?_cons_zero, List.getElem?_cons_succ, List.length_cons, List.length_nil, List.map_cons, List.map_nil, cndE, reduceCtorEq, and_self, and_true, true_and, List.all_cons, List.all_nil, AV.scal, Bool.and_self, Bool.and_true, putAt, List.take, List.drop, Option.bind_some, Option.bind_none, Bool.false_eq_true, callE, argsE, AV.pure?, AV.toPC, toPCs, objsE, cellsE, resAt, backObjs, backCells, freeE, keys, exitMem, shapeOf, oneE, List.nodup_cons, List.mem_cons, List.not_mem_nil, or_false, not_false_eq_true, List.nodup_nil, ext, unE, Nat.reduceBEq, builtinE, lenE, AV.rows, appendE, addedE, newRowE, newObjE, strz, mm, convE, buildE, fillE, chunks, List.replicate, List.flatten, guardE, cndQ, List.getElem?_toArray, List.flatMap, List.flatten_cons, List.flatten_nil, Int.reduceLT, Int.reduceLE, Int.reduceToNat, Option.map, Nat.zero_add, Nat.mul_one, Nat.one_mul, Nat.zero_le, Nat.add_zero, List.length_append, beq_true, beq_false, Bool.not_true, Bool.not_false, strOp, beq_self_eq_true, Int.toNat_natCast, indexE, Int.natCast_nonneg, mkE, newMslE, Bool.or_false, Bool.or_true, Bool.false_or, Bool.true_or, look2, denil, List.append_eq, once, without, convO, hN, hF, ty_3, ty_4, ty_9, ty_23, ty_26, ty_71, ty_73, notIf, isEq]
  refine AWP.loop (fun k st => ∃ i : Nat, i ≤ l.length ∧ k = l.length - i ∧ st = ⟨[(0, .c (.sl (accs l))), (1, .c (.int .i64 c)), (5, .ptr 320 0), (7, .own 449 1 (texts (lvN l i))), (8, .c (.int .i64 (i : Int)))], [(320, .obj [.c (.int .i64 x), .c (.int .i64 y)] false), (449, .row 1 i)]⟩) ⟨l.length, _, ?w, 0, Nat.zero_le _, rfl, rfl⟩ ?r
  case w =>
    rw [hns]
    simp only [Weak, wkM, wkT, wkRen, AMd, AMds, AMd.AMp, CMd, look_cons, look_nil, get_mk, mem_mk, AS.get, AS.mem, keys, entryMem, cellsAt, List.map_nil, List.map_cons, List.not_mem_nil, List.mem_cons, or_false, false_implies, implies_true, and_true, true_and, and_self, ↓reduceIte, Nat.reduceEqDiff, Option.getD_some, Option.getD_none, Option.map_some, Option.map_none, Option.isSome_some, Option.isSome_none, forall_eq_or_imp, forall_eq, reduceCtorEq, List.append_nil, List.nil_append, List.cons_append, Nat.reduceAdd, Nat.reduceMul, inObj, inRow]
    first | done | simp [lvN, texts]
  case r =>
    rintro k st ⟨i, hi, rfl, rfl⟩
    refine vc_sound hΓ mixed _ _ _ ?_
    have hlen := lvN_length l i
    by_cases hlt : i < l.length
    · have g1 : decide ((i : Int) < (l.length : Int)) = true := by simpa using hlt
      have e1 : IntKind.i64.wrap ((i : Int) + 1) = (i : Int) + 1 := wrapI (by omega)
      obtain ⟨x', y', ha⟩ : ∃ x y, l[i]? = some (x, y) := ⟨l[i].1, l[i].2, by simp [hlt]⟩
      have har : (accs l)[i]? = some [.int .i64 x', .int .i64 y'] := by simp [accs, accP, ha]
      have hlf := lf_at (i : Int) x' y'
      have hsucc := lvN_succ l i
      rw [show l.getD i (0, 0) = (x', y') from by simp [List.getD, ha]] at hsucc
      have hz := rowsOK_texts
      have hL : (i + 1) * 16 ≤ 140737488355328 := by omega
      simp only [runA, ncE, faE, fieldE, extE, cloE, bsE, idxE, okE, okM, entryT, entryMem, cellsAt, List.append_nil, List.nil_append, List.cons_append, loadE, storeE, binE, isSh, intOp, AV.flat, Option.map_some, Option.map_none, ↓reduceIte, Nat.reduceLT, Nat.reduceLeDiff, Nat.reduceEqDiff, Nat.reduceAdd, Nat.reduceMul, Nat.reduceSub, decide_true, decide_false, Option.getD_some, Option.getD_none, objName, rowName, resName, resCell, inObj, inRow, outName, outCell, EP.bind, List.getElem?_cons_zero, List.getElem?_cons_succ, List.length_cons, List.length_nil, List.map_cons, List.map_nil, cndE, reduceCtorEq, and_self, and_true, true_and, List.all_cons, List.all_nil, AV.scal, Bool.and_self, Bool.and_true, putAt, List.take, List.drop, Option.bind_some, Option.bind_none, Bool.false_eq_true, callE, argsE, AV.pure?, AV.toPC, toPCs, objsE, cellsE, resAt, backObjs, backCells, freeE, keys, exitMem, shapeOf, oneE, List.nodup_cons, List.mem_cons, List.not_mem_nil, or_false, not_false_eq_true, List.nodup_nil, ext, unE, Nat.reduceBEq, builtinE, lenE, AV.rows, appendE, addedE, newRowE, newObjE, strz, mm, convE, buildE, fillE, chunks, List.replicate, List.flatten, guardE, cndQ, List.getElem?_toArray, List.flatMap, List.flatten_cons, List.flatten_nil, Int.reduceLT, Int.reduceLE, Int.reduceToNat, Option.map, Nat.zero_add, Nat.mul_one, Nat.one_mul, Nat.zero_le, Nat.add_zero, List.length_append, beq_true, beq_false, Bool.not_true, Bool.not_false, strOp, beq_self_eq_true, Int.toNat_natCast, indexE, Int.natCast_nonneg, mkE, newMslE, Bool.or_false, Bool.or_true, Bool.false_or, Bool.true_or, look2, denil, List.append_eq, once, without, convO, hN, hF, ty_3, ty_4, ty_9, ty_23, ty_26, ty_71, ty_73, notIf, isEq, g1, e1, har, h5, hlf, hz, hL, texts1, texts_app, ← hsucc, texts_length, hlen, accs_length]
      refine ⟨l.length - (i + 1), _, by omega, ?_, i + 1, by omega, rfl, rfl⟩
      rw [hns]
      simp only [Weak, wkM, wkT, wkRen, AMd, AMds, AMd.AMp, CMd, look_cons, look_nil, get_mk, mem_mk, AS.get, AS.mem, keys, entryMem, cellsAt, List.map_nil, List.map_cons, List.not_mem_nil, List.mem_cons, or_false, false_implies, implies_true, and_true, true_and, and_self, ↓reduceIte, Nat.reduceEqDiff, Option.getD_some, Option.getD_none, Option.map_some, Option.map_none, Option.isSome_some, Option.isSome_none, forall_eq_or_imp, forall_eq, reduceCtorEq, List.append_nil, List.nil_append, List.cons_append, Nat.reduceAdd, Nat.reduceMul, inObj, inRow]
      first | done | simp
    · have g1 : decide ((i : Int) < (l.length : Int)) = false := by simpa using hlt
      obtain rfl : i = l.length := by omega
      have hok := lvA_ok hl1
      have q1 := prove_at l c hl
      have q2 := path_at (lvA l) c hok
      have q3 := lf_at c x y
      have q4 := stRoot_at l hl
      have q5 := root_at (lvA l) hok
      have hpo := pathS_ok' hok c
      have q6 := texts_at (pathS (lvA l) c).1 (pathS (lvA l) c).1 (by have := hpo.1; omega)
      rw [show decide ((pathS (lvA l) c).1 = (pathS (lvA l) c).1) = true from by simp] at q6
      have q7 := num35_at (pathS (lvA l) c).2
      have q8 := alive35_at
      generalize pathS (lvA l) c = pp at q1 q2 q6 q7
      obtain ⟨p1, p2⟩ := pp
      dsimp only at q1 q2 q6 q7
      have hlv : lvN l l.length = lvA l := rfl
      rw [hlv]
      simp only [runA, ncE, faE, fieldE, extE, cloE, bsE, idxE, okE, okM, entryT, entryMem, cellsAt, List.append_nil, List.nil_append, List.cons_append, loadE, storeE, binE, isSh, intOp, AV.flat, Option.map_some, Option.map_none, ↓reduceIte, Nat.reduceLT, Nat.reduceLeDiff, Nat.reduceEqDiff, Nat.reduceAdd, Nat.reduceMul, Nat.reduceSub, decide_true, decide_false, Option.getD_some, Option.getD_none, objName, rowName, resName, resCell, inObj, inRow, outName, outCell, EP.bind, List.getElem?_cons_zero, List.getElem?_cons_succ, List.length_cons, List.length_nil, List.map_cons, List.map_nil, cndE, reduceCtorEq, and_self, and_true, true_and, List.all_cons, List.all_nil, AV.scal, Bool.and_self, Bool.and_true, putAt, List.take, List.drop, Option.bind_some, Option.bind_none, Bool.false_eq_true, callE, argsE, AV.pure?, AV.toPC, toPCs, objsE, cellsE, resAt, backObjs, backCells, freeE, keys, exitMem, shapeOf, oneE, List.nodup_cons, List.mem_cons, List.not_mem_nil, or_false, not_false_eq_true, List.nodup_nil, ext, unE, Nat.reduceBEq, builtinE, lenE, AV.rows, appendE, addedE, newRowE, newObjE, strz, mm, convE, buildE, fillE, chunks, List.replicate, List.flatten, guardE, cndQ, List.getElem?_toArray, List.flatMap, List.flatten_cons, List.flatten_nil, Int.reduceLT, Int.reduceLE, Int.reduceToNat, Option.map, Nat.zero_add, Nat.mul_one, Nat.one_mul, Nat.zero_le, Nat.add_zero, List.length_append, beq_true, beq_false, Bool.not_true, Bool.not_false, strOp, beq_self_eq_true, Int.toNat_natCast, indexE, Int.natCast_nonneg, mkE, newMslE, Bool.or_false, Bool.or_true, Bool.false_or, Bool.true_or, look2, denil, List.append_eq, once, without, convO, hN, hF, ty_3, ty_4, ty_9, ty_23, ty_26, ty_71, ty_73, notIf, isEq, g1, h1, h2, h3, h4, h5, h6, h7, h8, h9, q1, q2, q3, q4, q5, q6, q7, q8, accs_length]
      try refine drawnP_intro (by kernel_rfl) (by kernel_rfl) ?_
      try simp only [thenA_normal, vc_ret]
      simp only [retQ, retE, RetOK, objPairs, resPairs, cellPairs, objCells, retRen, retMem, exitMem, exitVals, resAt, entryMem, cellsAt, AMds, AMd, CMd, keys, List.append_nil, List.nil_append, List.cons_append, List.map_cons, List.map_nil, List.nodup_cons, List.mem_cons, List.not_mem_nil, or_false, not_false_eq_true, List.nodup_nil, get_mk, mem_mk, look_nil, look_cons, Option.isSome_some, Option.isSome_none, and_self, and_true, true_and, ↓reduceIte, Nat.reduceEqDiff, Nat.reduceAdd, Nat.reduceMul, Option.getD_some, inObj, inRow, outName, outCell, forall_eq_or_imp, forall_eq, implies_true, Nat.reduceBEq, reduceCtorEq, Bool.false_eq_true, andThen_some, andThen_none, Nat.zero_add, List.length_nil, List.length_cons, false_implies, List.length_append, loadE, run_ask, run_ret, run_fail, obind_some, obind_none, List.zip_cons_cons, List.zip_nil_left, List.zip_nil_right, AMd.AMp, List.take, List.drop, List.getElem?_cons_zero, List.getElem?_cons_succ, Nat.reduceLeDiff, Nat.zero_le, List.forall_mem_nil, rs_9]

end Go.Proofs.Ytjdokoldiemobaa.AM
