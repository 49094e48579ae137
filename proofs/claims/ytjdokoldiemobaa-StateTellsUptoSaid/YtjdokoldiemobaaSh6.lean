/-
  SHA: a state behind a block.
-/
import Derived.Test.YtjdokoldiemobaaSh5
set_option linter.unusedVariables false
set_option linter.unusedSimpArgs false
namespace Go.Proofs.Ytjdokoldiemobaa.AM
open Go

variable {Γ : FuncId → Contract}

structure S8 where
  a : W32
  b : W32
  c : W32
  d : W32
  e : W32
  f : W32
  g : W32
  h : W32
def S8.l (s : S8) : List W32 := [s.a, s.b, s.c, s.d, s.e, s.f, s.g, s.h]
theorem S8.l_length (s : S8) : s.l.length = 8 := rfl
theorem S8.l_inj {s t : S8} (h : s.l = t.l) : s = t := by
  obtain ⟨a, b, c, d, e, f, g, i⟩ := s
  obtain ⟨a', b', c', d', e', f', g', i'⟩ := t
  simp only [S8.l, List.cons.injEq, and_true] at h
  obtain ⟨rfl, rfl, rfl, rfl, rfl, rfl, rfl, rfl⟩ := h
  rfl
theorem cellsW_cons (x : W32) (l : List W32) : cellsW (x :: l) = .c (wC x) :: cellsW l := rfl
theorem cellsW_nil : cellsW [] = [] := rfl

/-- A round. -/
def rnd (v : S8) (k w : W32) : S8 :=
  ⟨(((v.h + ((rotr v.e 6 ^^^ rotr v.e 11) ^^^ rotr v.e 25)) + ((v.e &&& v.f) ^^^ (~~~v.e &&& v.g))) + k + w) + (((rotr v.a 2 ^^^ rotr v.a 13) ^^^ rotr v.a 22) + (((v.a &&& v.b) ^^^ (v.a &&& v.c)) ^^^ (v.b &&& v.c))),
    v.a, v.b, v.c, v.d + (((v.h + ((rotr v.e 6 ^^^ rotr v.e 11) ^^^ rotr v.e 25)) + ((v.e &&& v.f) ^^^ (~~~v.e &&& v.g))) + k + w), v.e, v.f, v.g⟩
def rounds (s : S8) (w : List W32) : Nat → S8
  | 0 => s
  | i + 1 => rnd (rounds s w i) (kS.getD i 0) (w.getD i 0)
def addS (v s : S8) : S8 := ⟨v.a + s.a, v.b + s.b, v.c + s.c, v.d + s.d, v.e + s.e, v.f + s.f, v.g + s.g, v.h + s.h⟩
def blockS (s : S8) (b : List UInt8) : S8 := addS (rounds s (wS b 64) 64) s

noncomputable def blockC : Contract := mkC (α := S8 × List UInt8) (fun p => p.2.length ≤ 9223372036854775807) (fun p => [.agg (cellsW p.1.l), .c (.sl (bytes p.2)), .ptr (inObj 0) 0]) (fun _ => [ovW kS]) (fun p => ⟨[.pv (.agg (cellsW (blockS p.1 p.2).l))], [ovW kS]⟩)
theorem block_at (s : S8) (b : List UInt8) (h : b.length ≤ 9223372036854775807) : blockC [.agg (cellsW s.l), .c (.sl (bytes b)), .ptr (inObj 0) 0] [ovW kS] = some ⟨[.pv (.agg (cellsW (blockS s b).l))], [ovW kS]⟩ :=
  mkC_at (α := S8 × List UInt8) (s, b) h (by
    rintro ⟨y, m⟩ _ h _
    simp only [List.cons.injEq, AV.c.injEq, AV.agg.injEq, PC.sl.injEq, true_and, and_true] at h
    obtain ⟨e1, e2⟩ := h
    obtain rfl := bytes_inj e2
    obtain rfl := S8.l_inj (cellsW_inj e1)
    rfl)

/-- So many words have been added. -/
def sumTo (v s : List W32) (i : Nat) : List W32 := (List.zipWith (· + ·) v s).take i ++ v.drop i
theorem sumTo_length {v s : List W32} (h : v.length = 8) (h' : s.length = 8) (i : Nat) (hi : i ≤ 8) : (sumTo v s i).length = 8 := by
  simp [sumTo, h, h']; omega
theorem sumTo_get {v s : List W32} (h : v.length = 8) (h' : s.length = 8) {i : Nat} (hi : i < 8) : (sumTo v s i)[i]? = some (v.getD i 0) := by
  have hl : ((List.zipWith (· + ·) v s).take i).length = i := by simp [h, h']; omega
  unfold sumTo
  rw [List.getElem?_append_right (by omega), hl, Nat.sub_self, List.getElem?_drop, Nat.add_zero, List.getD_eq_getElem?_getD]
  simp [h, hi]
theorem sumTo_set {v s : List W32} (h : v.length = 8) (h' : s.length = 8) {i : Nat} (hi : i < 8) : (sumTo v s i).set i (v.getD i 0 + s.getD i 0) = sumTo v s (i + 1) := by
  have hl : ((List.zipWith (· + ·) v s).take i).length = i := by simp [h, h']; omega
  unfold sumTo
  rw [List.set_append_right _ _ (by omega), hl, Nat.sub_self]
  have hd : v.drop i = v.getD i 0 :: v.drop (i + 1) := by
    rw [List.drop_eq_getElem_cons (by omega), List.getD_eq_getElem?_getD]
    simp [h, hi]
  rw [hd, List.set_cons_zero, List.take_add_one]
  have hz : (List.zipWith (· + ·) v s)[i]? = some (v.getD i 0 + s.getD i 0) := by
    simp [List.getElem?_zipWith, List.getD_eq_getElem?_getD, h, h', hi]
  rw [hz]
  simp
theorem sumTo_end (v s : S8) : sumTo v.l s.l 8 = (addS v s).l := rfl
theorem getW {l : List W32} {n i : Nat} (h : l.length = n) (hi : i < n) : (cellsW l)[i]? = some (.c (wC (l.getD i 0))) := by
  refine cellsW_get ?_
  rw [List.getD_eq_getElem?_getD]
  simp [h, hi]

set_option maxRecDepth 100000 in
theorem build8 (a b c d e f g h : PC) : buildE Try.prog 193 [(0, .c a), (1, .c b), (2, .c c), (3, .c d), (4, .c e), (5, .c f), (6, .c g), (7, .c h)] = some [.c a, .c b, .c c, .c d, .c e, .c f, .c g, .c h] := by kernel_rfl
theorem put8 (a b c d e f g h : PC) (l : List AV) (hl : l.length = 8) : putAt l 0 [.c a, .c b, .c c, .c d, .c e, .c f, .c g, .c h] = [.c a, .c b, .c c, .c d, .c e, .c f, .c g, .c h] := by
  unfold putAt
  rw [List.take_zero, List.nil_append, List.drop_of_length_le (by simp; omega), List.append_nil]

set_option maxRecDepth 100000 in
set_option maxHeartbeats 1000000 in
theorem block_sound (hΓ : SoundG Try.prog Γ) (h85 : Γ 178 = schedC) (h86 : Γ 179 = rightC) : SoundC Try.prog 157 blockC := by
  refine sound_fnA ⟨[], [(5, .tidy [2, 3, 6, 7, 8, 9, 20]), (6, .tidy [2, 3, 6, 7, 8, 9, 10, 11, 20]), (7, .tidy [2, 3, 6, 7, 8, 9, 10, 11, 12, 20]), (8, .tidy [2, 3, 6, 7, 8, 10, 13, 20]), (9, .tidy [2, 3, 6, 7, 8, 10, 13, 14, 20]), (10, .tidy [2, 3, 6, 7, 8, 13, 15, 20]), (11, .tidy [2, 3, 6, 7, 8, 20])]⟩ Try.func157 (by kernel_rfl) rfl rfl ?_
  intro args objs r hr
  obtain ⟨⟨s, b⟩, hl, rfl, rfl, rfl⟩ := mkC_inv hr
  refine ⟨resB_W _, by show 3 ≤ _; decide, fun E hN hns hF => ?_⟩
  refine vc_sound hΓ mixed _ _ _ ?_
  have hN := hN.trans nt_157
  dsimp only at hl ⊢
  have hsd := sched_at b hl
  have hwl : (wS b 64).length = 64 := wS_length b 64
  have hbs : ∀ v, rounds s (wS b 64) 64 = v → blockS s b = addS v s := fun v h => by unfold blockS; rw [h]
  generalize blockS s b = out at hbs ⊢
  generalize wS b 64 = W at hsd hwl hbs ⊢
  have hp : putAt (cellsW (zerosW 64)) 0 (cellsW (W)) = cellsW (W) := cellsW_all_put (by rw [zerosW_length, hwl])
  have hp8 : ∀ l : List AV, l.length = 8 → putAt l 0 (cellsW s.l) = cellsW s.l := fun l h => by
    unfold putAt
    rw [List.take_zero, List.nil_append, Nat.zero_add, cellsW_length, S8.l_length, ← h, List.drop_length, List.append_nil]
  have hp8' := hp8 [AV.c (PC.int .u32 0), .c (.int .u32 0), .c (.int .u32 0), .c (.int .u32 0), .c (.int .u32 0), .c (.int .u32 0), .c (.int .u32 0), .c (.int .u32 0)] rfl
  have ht8 : (cellsW s.l).take 8 = cellsW s.l := cellsW_take (S8.l_length s).symm
  simp only [runA, ncE, faE, fieldE, extE, cloE, bsE, idxE, okE, okM, entryT, entryMem, cellsAt, List.append_nil, List.nil_append, List.cons_append, loadE, storeE, isSh, intOp, AV.flat, Option.map_some, Option.map_none, ↓reduceIte, Nat.reduceLT, Nat.reduceLeDiff, Nat.reduceEqDiff, Nat.reduceAdd, Nat.reduceMul, Nat.reduceSub, decide_true, decide_false, Option.getD_some, Option.getD_none, objName, rowName, resName, resCell, inObj, inRow, outName, outCell, EP.bind, List.getElem?_cons_zero, List.getElem?_cons_succ, List.length_cons, List.length_nil, List.map_cons, List.map_nil, cndE, reduceCtorEq, and_self, and_true, true_and, List.all_cons, List.all_nil, AV.scal, Bool.and_self, Bool.and_true, List.take, List.drop, Option.bind_some, Option.bind_none, Bool.false_eq_true, callE, argsE, AV.pure?, AV.toPC, toPCs, objsE, cellsE, resAt, backObjs, backCells, freeE, keys, exitMem, shapeOf, oneE, List.nodup_cons, List.mem_cons, List.not_mem_nil, or_false, not_false_eq_true, List.nodup_nil, ext, Nat.reduceBEq, builtinE, lenE, AV.rows, appendE, addedE, newRowE, newObjE, strz, mm, buildE, fillE, chunks, List.replicate, List.flatten, guardE, cndQ, List.getElem?_toArray, List.flatMap, List.flatten_cons, List.flatten_nil, Int.reduceLT, Int.reduceLE, Int.reduceToNat, Option.map, Nat.zero_add, Nat.mul_one, Nat.one_mul, Nat.zero_le, Nat.add_zero, List.length_append, beq_true, beq_false, Bool.not_true, Bool.not_false, strOp, beq_self_eq_true, Int.toNat_natCast, indexE, Int.natCast_nonneg, mkE, newMslE, Bool.or_false, Bool.or_true, Bool.false_or, Bool.true_or, look2, denil, List.append_eq, once, without, convO, w_add, w_and, w_or, w_xor, w_xorF, w_not, w_shl8, w_shl16, w_shl24, w_shr3, w_shr8, w_shr10, w_shr16, w_shr24, b_add, b_sub, b_mul, b_quo, b_rem, b_and, b_or, b_xor, b_andNot, b_eql, b_neq, b_lss, b_leq, b_gtr, b_geq, b_str, b_bool, u_neg, u_not, c_bw, c_wb, cellsW_length, cellsW_pure, cellsW_all, cellsE_W, backCells_W, cellsAt_W, cellPairs_W, cellsW_toPCs, cellsW_map, hN, hF, ty_3, ty_5, ty_49, ty_175, ty_176, ty_193, notIf, isEq, zrep_W, h85, hsd, hp, hp8', ht8, hwl, S8.l_length, zerosW_length]
  refine AWP.loop (fun c st => ∃ i : Nat, i ≤ 64 ∧ c = 64 - i ∧ st = ⟨[(2, .ptr 6400000 0), (3, .ptr 192 0), (6, .ptr 384 0), (7, .ptr 448 0), (8, .ptr 512 0), (20, .c (.int .i64 (i : Int)))],
    [(192, .obj (cellsW s.l) false), (384, .obj (cellsW (zerosW 8)) false), (448, .obj (cellsW (W)) false), (512, .obj (cellsW (rounds s (W) i).l) false), (6400000, .obj (cellsW kS) false)]⟩) ⟨64, _, ?w, 0, Nat.zero_le _, rfl, rfl⟩ ?r
  case w =>
    rw [hns]
    simp only [Weak, wkM, wkT, wkRen, AMd, AMds, AMd.AMp, CMd, look_cons, look_nil, get_mk, mem_mk, AS.get, AS.mem, keys, entryMem, cellsAt, List.map_nil, List.map_cons, List.not_mem_nil, List.mem_cons, or_false, false_implies, implies_true, and_true, true_and, and_self, ↓reduceIte, Nat.reduceEqDiff, Option.getD_some, Option.getD_none, Option.map_some, Option.map_none, Option.isSome_some, Option.isSome_none, forall_eq_or_imp, forall_eq, reduceCtorEq, List.append_nil, List.nil_append, List.cons_append, Nat.reduceAdd, Nat.reduceMul, inObj, inRow, cellsAt_W, cellsW_amds, rounds]
    exact ⟨cellsW_amds _ (zerosW 8), rfl⟩
  case r =>
    rintro c st ⟨i, hi, rfl, rfl⟩
    refine vc_sound hΓ mixed _ _ _ ?_
    by_cases hlt : i < 64
    · have h1 : decide ((i : Int) < 64) = true := by simp; omega
      have e1 : IntKind.i64.wrap ((i : Int) + 1) = (i : Int) + 1 := wrapI (by omega)
      have l0 : (i : Int) < ((64 : Nat) : Int) := by omega
      have gk := getW kS_length hlt
      have gw := getW hwl hlt
      have r6 : ∀ x, rightC [.c (wC x), .c (.int .i64 6)] [] = _ := fun x => right_at x 6 (by decide) (by decide)
      have r11 : ∀ x, rightC [.c (wC x), .c (.int .i64 11)] [] = _ := fun x => right_at x 11 (by decide) (by decide)
      have r25 : ∀ x, rightC [.c (wC x), .c (.int .i64 25)] [] = _ := fun x => right_at x 25 (by decide) (by decide)
      have r2 : ∀ x, rightC [.c (wC x), .c (.int .i64 2)] [] = _ := fun x => right_at x 2 (by decide) (by decide)
      have r13 : ∀ x, rightC [.c (wC x), .c (.int .i64 13)] [] = _ := fun x => right_at x 13 (by decide) (by decide)
      have r22 : ∀ x, rightC [.c (wC x), .c (.int .i64 22)] [] = _ := fun x => right_at x 22 (by decide) (by decide)
      have hsucc : rounds s (W) (i + 1) = rnd (rounds s (W) i) (kS.getD i 0) ((W).getD i 0) := rfl
      generalize rounds s (W) i = v at hsucc ⊢
      obtain ⟨a, b1, c1, d, e, f, g, h⟩ := v
      have c8 : ((0 : Int) < ((8 : Nat) : Int)) ∧ ((1 : Int) < ((8 : Nat) : Int)) ∧ ((2 : Int) < ((8 : Nat) : Int)) ∧ ((3 : Int) < ((8 : Nat) : Int)) ∧ ((4 : Int) < ((8 : Nat) : Int)) ∧ ((5 : Int) < ((8 : Nat) : Int)) ∧ ((6 : Int) < ((8 : Nat) : Int)) ∧ ((7 : Int) < ((8 : Nat) : Int)) := by decide
      obtain ⟨k0, k1, k2, k3, k4, k5, k6, k7⟩ := c8
      simp only [S8.l, cellsW_cons, cellsW_nil]
      simp only [runA, ncE, faE, fieldE, extE, cloE, bsE, idxE, okE, okM, entryT, entryMem, cellsAt, List.append_nil, List.nil_append, List.cons_append, loadE, storeE, isSh, intOp, AV.flat, Option.map_some, Option.map_none, ↓reduceIte, Nat.reduceLT, Nat.reduceLeDiff, Nat.reduceEqDiff, Nat.reduceAdd, Nat.reduceMul, Nat.reduceSub, decide_true, decide_false, Option.getD_some, Option.getD_none, objName, rowName, resName, resCell, inObj, inRow, outName, outCell, EP.bind, List.getElem?_cons_zero, List.getElem?_cons_succ, List.length_cons, List.length_nil, List.map_cons, List.map_nil, cndE, reduceCtorEq, and_self, and_true, true_and, List.all_cons, List.all_nil, AV.scal, Bool.and_self, Bool.and_true, putAt, List.take, List.drop, Option.bind_some, Option.bind_none, Bool.false_eq_true, callE, argsE, AV.pure?, AV.toPC, toPCs, objsE, cellsE, resAt, backObjs, backCells, freeE, keys, exitMem, shapeOf, oneE, List.nodup_cons, List.mem_cons, List.not_mem_nil, or_false, not_false_eq_true, List.nodup_nil, ext, Nat.reduceBEq, builtinE, lenE, AV.rows, appendE, addedE, newRowE, newObjE, strz, mm, buildE, fillE, chunks, List.replicate, List.flatten, guardE, cndQ, List.getElem?_toArray, List.flatMap, List.flatten_cons, List.flatten_nil, Int.reduceLT, Int.reduceLE, Int.reduceToNat, Option.map, Nat.zero_add, Nat.mul_one, Nat.one_mul, Nat.zero_le, Nat.add_zero, List.length_append, beq_true, beq_false, Bool.not_true, Bool.not_false, strOp, beq_self_eq_true, Int.toNat_natCast, indexE, Int.natCast_nonneg, mkE, newMslE, Bool.or_false, Bool.or_true, Bool.false_or, Bool.true_or, look2, denil, List.append_eq, once, without, convO, w_add, w_and, w_or, w_xor, w_xorF, w_not, w_shl8, w_shl16, w_shl24, w_shr3, w_shr8, w_shr10, w_shr16, w_shr24, b_add, b_sub, b_mul, b_quo, b_rem, b_and, b_or, b_xor, b_andNot, b_eql, b_neq, b_lss, b_leq, b_gtr, b_geq, b_str, b_bool, u_neg, u_not, c_bw, c_wb, cellsW_length, cellsW_pure, cellsW_all, cellsE_W, backCells_W, cellsAt_W, cellPairs_W, cellsW_toPCs, cellsW_map, hN, hF, ty_3, ty_5, ty_49, ty_175, ty_176, ty_193, notIf, isEq, intOp, h1, e1, l0, gk, gw, k0, k1, k2, k3, k4, k5, k6, k7]
      refine drawnP_intro (by kernel_rfl) (by kernel_rfl) ?_
      simp only [runA, ncE, faE, fieldE, extE, cloE, bsE, idxE, okE, okM, entryT, entryMem, cellsAt, List.append_nil, List.nil_append, List.cons_append, loadE, storeE, isSh, intOp, AV.flat, Option.map_some, Option.map_none, ↓reduceIte, Nat.reduceLT, Nat.reduceLeDiff, Nat.reduceEqDiff, Nat.reduceAdd, Nat.reduceMul, Nat.reduceSub, decide_true, decide_false, Option.getD_some, Option.getD_none, objName, rowName, resName, resCell, inObj, inRow, outName, outCell, EP.bind, List.getElem?_cons_zero, List.getElem?_cons_succ, List.length_cons, List.length_nil, List.map_cons, List.map_nil, cndE, reduceCtorEq, and_self, and_true, true_and, List.all_cons, List.all_nil, AV.scal, Bool.and_self, Bool.and_true, putAt, List.take, List.drop, Option.bind_some, Option.bind_none, Bool.false_eq_true, callE, argsE, AV.pure?, AV.toPC, toPCs, objsE, cellsE, resAt, backObjs, backCells, freeE, keys, exitMem, shapeOf, oneE, List.nodup_cons, List.mem_cons, List.not_mem_nil, or_false, not_false_eq_true, List.nodup_nil, ext, Nat.reduceBEq, builtinE, lenE, AV.rows, appendE, addedE, newRowE, newObjE, strz, mm, buildE, fillE, chunks, List.replicate, List.flatten, guardE, cndQ, List.getElem?_toArray, List.flatMap, List.flatten_cons, List.flatten_nil, Int.reduceLT, Int.reduceLE, Int.reduceToNat, Option.map, Nat.zero_add, Nat.mul_one, Nat.one_mul, Nat.zero_le, Nat.add_zero, List.length_append, beq_true, beq_false, Bool.not_true, Bool.not_false, strOp, beq_self_eq_true, Int.toNat_natCast, indexE, Int.natCast_nonneg, mkE, newMslE, Bool.or_false, Bool.or_true, Bool.false_or, Bool.true_or, look2, denil, List.append_eq, once, without, convO, w_add, w_and, w_or, w_xor, w_xorF, w_not, w_shl8, w_shl16, w_shl24, w_shr3, w_shr8, w_shr10, w_shr16, w_shr24, b_add, b_sub, b_mul, b_quo, b_rem, b_and, b_or, b_xor, b_andNot, b_eql, b_neq, b_lss, b_leq, b_gtr, b_geq, b_str, b_bool, u_neg, u_not, c_bw, c_wb, cellsW_length, cellsW_pure, cellsW_all, cellsE_W, backCells_W, cellsAt_W, cellPairs_W, cellsW_toPCs, cellsW_map, hN, hF, ty_3, ty_5, ty_49, ty_175, ty_176, ty_193, notIf, isEq, intOp, h86, r6, r11, r25, r2, r13, r22, e1, l0, gk, gw, k0, k1, k2, k3, k4, k5, k6, k7]
      refine drawnP_intro (by kernel_rfl) (by kernel_rfl) ?_
      simp only [runA, ncE, faE, fieldE, extE, cloE, bsE, idxE, okE, okM, entryT, entryMem, cellsAt, List.append_nil, List.nil_append, List.cons_append, loadE, storeE, isSh, intOp, AV.flat, Option.map_some, Option.map_none, ↓reduceIte, Nat.reduceLT, Nat.reduceLeDiff, Nat.reduceEqDiff, Nat.reduceAdd, Nat.reduceMul, Nat.reduceSub, decide_true, decide_false, Option.getD_some, Option.getD_none, objName, rowName, resName, resCell, inObj, inRow, outName, outCell, EP.bind, List.getElem?_cons_zero, List.getElem?_cons_succ, List.length_cons, List.length_nil, List.map_cons, List.map_nil, cndE, reduceCtorEq, and_self, and_true, true_and, List.all_cons, List.all_nil, AV.scal, Bool.and_self, Bool.and_true, List.take, List.drop, Option.bind_some, Option.bind_none, Bool.false_eq_true, callE, argsE, AV.pure?, AV.toPC, toPCs, objsE, cellsE, resAt, backObjs, backCells, freeE, keys, exitMem, shapeOf, oneE, List.nodup_cons, List.mem_cons, List.not_mem_nil, or_false, not_false_eq_true, List.nodup_nil, ext, Nat.reduceBEq, builtinE, lenE, AV.rows, appendE, addedE, newRowE, newObjE, strz, mm, fillE, chunks, List.replicate, List.flatten, guardE, cndQ, List.getElem?_toArray, List.flatMap, List.flatten_cons, List.flatten_nil, Int.reduceLT, Int.reduceLE, Int.reduceToNat, Option.map, Nat.zero_add, Nat.mul_one, Nat.one_mul, Nat.zero_le, Nat.add_zero, List.length_append, beq_true, beq_false, Bool.not_true, Bool.not_false, strOp, beq_self_eq_true, Int.toNat_natCast, indexE, Int.natCast_nonneg, mkE, newMslE, Bool.or_false, Bool.or_true, Bool.false_or, Bool.true_or, look2, denil, List.append_eq, once, without, convO, w_add, w_and, w_or, w_xor, w_xorF, w_not, w_shl8, w_shl16, w_shl24, w_shr3, w_shr8, w_shr10, w_shr16, w_shr24, b_add, b_sub, b_mul, b_quo, b_rem, b_and, b_or, b_xor, b_andNot, b_eql, b_neq, b_lss, b_leq, b_gtr, b_geq, b_str, b_bool, u_neg, u_not, c_bw, c_wb, cellsW_length, cellsW_pure, cellsW_all, cellsE_W, backCells_W, cellsAt_W, cellPairs_W, cellsW_toPCs, cellsW_map, hN, hF, ty_3, ty_5, ty_49, ty_175, ty_176, ty_193, notIf, isEq, intOp, h86, build8, put8, r6, r11, r25, r2, r13, r22, e1, l0, gk, gw, k0, k1, k2, k3, k4, k5, k6, k7]
      refine ⟨64 - (i + 1), _, by omega, ?_, i + 1, by omega, rfl, rfl⟩
      rw [hns, hsucc]
      simp only [Weak, wkM, wkT, wkRen, AMd, AMds, AMd.AMp, CMd, look_cons, look_nil, get_mk, mem_mk, AS.get, AS.mem, keys, entryMem, cellsAt, List.map_nil, List.map_cons, List.not_mem_nil, List.mem_cons, or_false, false_implies, implies_true, and_true, true_and, and_self, ↓reduceIte, Nat.reduceEqDiff, Option.getD_some, Option.getD_none, Option.map_some, Option.map_none, Option.isSome_some, Option.isSome_none, forall_eq_or_imp, forall_eq, reduceCtorEq, List.append_nil, List.nil_append, List.cons_append, Nat.reduceAdd, Nat.reduceMul, inObj, inRow, cellsAt_W, cellsW_amds, S8.l, rnd, cellsW_cons, cellsW_nil]
      first | done | simp
    · have h1 : decide ((i : Int) < 64) = false := by simp; omega
      obtain rfl : i = 64 := by omega
      have hbs := hbs _ rfl
      generalize rounds s (W) 64 = v at hbs ⊢
      subst hbs
      simp only [runA, ncE, faE, fieldE, extE, cloE, bsE, idxE, okE, okM, entryT, entryMem, cellsAt, List.append_nil, List.nil_append, List.cons_append, loadE, storeE, isSh, intOp, AV.flat, Option.map_some, Option.map_none, ↓reduceIte, Nat.reduceLT, Nat.reduceLeDiff, Nat.reduceEqDiff, Nat.reduceAdd, Nat.reduceMul, Nat.reduceSub, decide_true, decide_false, Option.getD_some, Option.getD_none, objName, rowName, resName, resCell, inObj, inRow, outName, outCell, EP.bind, List.getElem?_cons_zero, List.getElem?_cons_succ, List.length_cons, List.length_nil, List.map_cons, List.map_nil, cndE, reduceCtorEq, and_self, and_true, true_and, List.all_cons, List.all_nil, AV.scal, Bool.and_self, Bool.and_true, putAt, List.take, List.drop, Option.bind_some, Option.bind_none, Bool.false_eq_true, callE, argsE, AV.pure?, AV.toPC, toPCs, objsE, cellsE, resAt, backObjs, backCells, freeE, keys, exitMem, shapeOf, oneE, List.nodup_cons, List.mem_cons, List.not_mem_nil, or_false, not_false_eq_true, List.nodup_nil, ext, Nat.reduceBEq, builtinE, lenE, AV.rows, appendE, addedE, newRowE, newObjE, strz, mm, buildE, fillE, chunks, List.replicate, List.flatten, guardE, cndQ, List.getElem?_toArray, List.flatMap, List.flatten_cons, List.flatten_nil, Int.reduceLT, Int.reduceLE, Int.reduceToNat, Option.map, Nat.zero_add, Nat.mul_one, Nat.one_mul, Nat.zero_le, Nat.add_zero, List.length_append, beq_true, beq_false, Bool.not_true, Bool.not_false, strOp, beq_self_eq_true, Int.toNat_natCast, indexE, Int.natCast_nonneg, mkE, newMslE, Bool.or_false, Bool.or_true, Bool.false_or, Bool.true_or, look2, denil, List.append_eq, once, without, convO, w_add, w_and, w_or, w_xor, w_xorF, w_not, w_shl8, w_shl16, w_shl24, w_shr3, w_shr8, w_shr10, w_shr16, w_shr24, b_add, b_sub, b_mul, b_quo, b_rem, b_and, b_or, b_xor, b_andNot, b_eql, b_neq, b_lss, b_leq, b_gtr, b_geq, b_str, b_bool, u_neg, u_not, c_bw, c_wb, cellsW_length, cellsW_pure, cellsW_all, cellsE_W, backCells_W, cellsAt_W, cellPairs_W, cellsW_toPCs, cellsW_map, hN, hF, ty_3, ty_5, ty_49, ty_175, ty_176, ty_193, notIf, isEq, intOp, h1]
      refine AWP.loop (fun c st => ∃ i : Nat, i ≤ 8 ∧ c = 8 - i ∧ st = ⟨[(3, .ptr 192 0), (6, .ptr 384 0), (8, .ptr 512 0), (106, .c (.int .i64 (i : Int)))],
        [(192, .obj (cellsW s.l) false), (384, .obj (cellsW (zerosW 8)) false), (512, .obj (cellsW (sumTo v.l s.l i)) false), (6400000, .obj (cellsW kS) false)]⟩) ⟨8, _, ?w2, 0, Nat.zero_le _, rfl, rfl⟩ ?r2
      case w2 =>
        rw [hns]
        simp only [Weak, wkM, wkT, wkRen, AMd, AMds, AMd.AMp, CMd, look_cons, look_nil, get_mk, mem_mk, AS.get, AS.mem, keys, entryMem, cellsAt, List.map_nil, List.map_cons, List.not_mem_nil, List.mem_cons, or_false, false_implies, implies_true, and_true, true_and, and_self, ↓reduceIte, Nat.reduceEqDiff, Option.getD_some, Option.getD_none, Option.map_some, Option.map_none, Option.isSome_some, Option.isSome_none, forall_eq_or_imp, forall_eq, reduceCtorEq, List.append_nil, List.nil_append, List.cons_append, Nat.reduceAdd, Nat.reduceMul, inObj, inRow, cellsAt_W, cellsW_amds, sumTo, List.take_zero, List.drop_zero, List.nil_append]
        first | done | simp
      case r2 =>
        rintro c st ⟨i, hi, rfl, rfl⟩
        refine vc_sound hΓ mixed _ _ _ ?_
        have hcl := sumTo_length (S8.l_length v) (S8.l_length s) i hi
        by_cases hlt : i < 8
        · have h1 : decide ((i : Int) < 8) = true := by simp; omega
          have e1 : IntKind.i64.wrap ((i : Int) + 1) = (i : Int) + 1 := wrapI (by omega)
          have l0 : (i : Int) < ((8 : Nat) : Int) := by omega
          have g1 := cellsW_get (sumTo_get (S8.l_length v) (S8.l_length s) hlt)
          have g2 := getW (S8.l_length s) hlt
          have hp := cellsW_put (l := sumTo v.l s.l i) (i := i) (v.l.getD i 0 + s.l.getD i 0) (by omega)
          have hq := sumTo_set (S8.l_length v) (S8.l_length s) hlt
          have e4 : i + 1 ≤ 8 := by omega
          simp only [runA, ncE, faE, fieldE, extE, cloE, bsE, idxE, okE, okM, entryT, entryMem, cellsAt, List.append_nil, List.nil_append, List.cons_append, loadE, storeE, isSh, intOp, AV.flat, Option.map_some, Option.map_none, ↓reduceIte, Nat.reduceLT, Nat.reduceLeDiff, Nat.reduceEqDiff, Nat.reduceAdd, Nat.reduceMul, Nat.reduceSub, decide_true, decide_false, Option.getD_some, Option.getD_none, objName, rowName, resName, resCell, inObj, inRow, outName, outCell, EP.bind, List.getElem?_cons_zero, List.getElem?_cons_succ, List.length_cons, List.length_nil, List.map_cons, List.map_nil, cndE, reduceCtorEq, and_self, and_true, true_and, List.all_cons, List.all_nil, AV.scal, Bool.and_self, Bool.and_true, List.take, List.drop, Option.bind_some, Option.bind_none, Bool.false_eq_true, callE, argsE, AV.pure?, AV.toPC, toPCs, objsE, cellsE, resAt, backObjs, backCells, freeE, keys, exitMem, shapeOf, oneE, List.nodup_cons, List.mem_cons, List.not_mem_nil, or_false, not_false_eq_true, List.nodup_nil, ext, Nat.reduceBEq, builtinE, lenE, AV.rows, appendE, addedE, newRowE, newObjE, strz, mm, buildE, fillE, chunks, List.replicate, List.flatten, guardE, cndQ, List.getElem?_toArray, List.flatMap, List.flatten_cons, List.flatten_nil, Int.reduceLT, Int.reduceLE, Int.reduceToNat, Option.map, Nat.zero_add, Nat.mul_one, Nat.one_mul, Nat.zero_le, Nat.add_zero, List.length_append, beq_true, beq_false, Bool.not_true, Bool.not_false, strOp, beq_self_eq_true, Int.toNat_natCast, indexE, Int.natCast_nonneg, mkE, newMslE, Bool.or_false, Bool.or_true, Bool.false_or, Bool.true_or, look2, denil, List.append_eq, once, without, convO, w_add, w_and, w_or, w_xor, w_xorF, w_not, w_shl8, w_shl16, w_shl24, w_shr3, w_shr8, w_shr10, w_shr16, w_shr24, b_add, b_sub, b_mul, b_quo, b_rem, b_and, b_or, b_xor, b_andNot, b_eql, b_neq, b_lss, b_leq, b_gtr, b_geq, b_str, b_bool, u_neg, u_not, c_bw, c_wb, cellsW_length, cellsW_pure, cellsW_all, cellsE_W, backCells_W, cellsAt_W, cellPairs_W, cellsW_toPCs, cellsW_map, hN, hF, ty_3, ty_5, ty_49, ty_175, ty_176, ty_193, notIf, isEq, intOp, h1, e1, l0, g1, g2, hp, hq, hcl, e4]
          refine drawnP_intro (by kernel_rfl) (by kernel_rfl) ?_
          simp only [runA, ncE, faE, fieldE, extE, cloE, bsE, idxE, okE, okM, entryT, entryMem, cellsAt, List.append_nil, List.nil_append, List.cons_append, loadE, storeE, isSh, intOp, AV.flat, Option.map_some, Option.map_none, ↓reduceIte, Nat.reduceLT, Nat.reduceLeDiff, Nat.reduceEqDiff, Nat.reduceAdd, Nat.reduceMul, Nat.reduceSub, decide_true, decide_false, Option.getD_some, Option.getD_none, objName, rowName, resName, resCell, inObj, inRow, outName, outCell, EP.bind, List.getElem?_cons_zero, List.getElem?_cons_succ, List.length_cons, List.length_nil, List.map_cons, List.map_nil, cndE, reduceCtorEq, and_self, and_true, true_and, List.all_cons, List.all_nil, AV.scal, Bool.and_self, Bool.and_true, List.take, List.drop, Option.bind_some, Option.bind_none, Bool.false_eq_true, callE, argsE, AV.pure?, AV.toPC, toPCs, objsE, cellsE, resAt, backObjs, backCells, freeE, keys, exitMem, shapeOf, oneE, List.nodup_cons, List.mem_cons, List.not_mem_nil, or_false, not_false_eq_true, List.nodup_nil, ext, Nat.reduceBEq, builtinE, lenE, AV.rows, appendE, addedE, newRowE, newObjE, strz, mm, buildE, fillE, chunks, List.replicate, List.flatten, guardE, cndQ, List.getElem?_toArray, List.flatMap, List.flatten_cons, List.flatten_nil, Int.reduceLT, Int.reduceLE, Int.reduceToNat, Option.map, Nat.zero_add, Nat.mul_one, Nat.one_mul, Nat.zero_le, Nat.add_zero, List.length_append, beq_true, beq_false, Bool.not_true, Bool.not_false, strOp, beq_self_eq_true, Int.toNat_natCast, indexE, Int.natCast_nonneg, mkE, newMslE, Bool.or_false, Bool.or_true, Bool.false_or, Bool.true_or, look2, denil, List.append_eq, once, without, convO, w_add, w_and, w_or, w_xor, w_xorF, w_not, w_shl8, w_shl16, w_shl24, w_shr3, w_shr8, w_shr10, w_shr16, w_shr24, b_add, b_sub, b_mul, b_quo, b_rem, b_and, b_or, b_xor, b_andNot, b_eql, b_neq, b_lss, b_leq, b_gtr, b_geq, b_str, b_bool, u_neg, u_not, c_bw, c_wb, cellsW_length, cellsW_pure, cellsW_all, cellsE_W, backCells_W, cellsAt_W, cellPairs_W, cellsW_toPCs, cellsW_map, hN, hF, ty_3, ty_5, ty_49, ty_175, ty_176, ty_193, notIf, isEq, intOp, e1]
          refine ⟨8 - (i + 1), _, by omega, ?_, i + 1, by omega, rfl, rfl⟩
          rw [hns]
          simp only [Weak, wkM, wkT, wkRen, AMd, AMds, AMd.AMp, CMd, look_cons, look_nil, get_mk, mem_mk, AS.get, AS.mem, keys, entryMem, cellsAt, List.map_nil, List.map_cons, List.not_mem_nil, List.mem_cons, or_false, false_implies, implies_true, and_true, true_and, and_self, ↓reduceIte, Nat.reduceEqDiff, Option.getD_some, Option.getD_none, Option.map_some, Option.map_none, Option.isSome_some, Option.isSome_none, forall_eq_or_imp, forall_eq, reduceCtorEq, List.append_nil, List.nil_append, List.cons_append, Nat.reduceAdd, Nat.reduceMul, inObj, inRow, cellsAt_W, cellsW_amds]
          first | done | simp
        · have h1 : decide ((i : Int) < 8) = false := by simp; omega
          have hL : sumTo v.l s.l i = (addS v s).l := by
            obtain rfl : i = 8 := by omega
            exact sumTo_end v s
          generalize addS v s = o at hL ⊢
          have hcl : o.l.length = 8 := S8.l_length o
          have hp : putAt (cellsW (zerosW 8)) 0 (cellsW o.l) = cellsW o.l := cellsW_all_put ((S8.l_length o).trans (zerosW_length 8).symm)
          have ht : (cellsW o.l).take 8 = cellsW o.l := cellsW_take (S8.l_length o).symm
          simp only [runA, ncE, faE, fieldE, extE, cloE, bsE, idxE, okE, okM, entryT, entryMem, cellsAt, List.append_nil, List.nil_append, List.cons_append, loadE, storeE, isSh, intOp, AV.flat, Option.map_some, Option.map_none, ↓reduceIte, Nat.reduceLT, Nat.reduceLeDiff, Nat.reduceEqDiff, Nat.reduceAdd, Nat.reduceMul, Nat.reduceSub, decide_true, decide_false, Option.getD_some, Option.getD_none, objName, rowName, resName, resCell, inObj, inRow, outName, outCell, EP.bind, List.getElem?_cons_zero, List.getElem?_cons_succ, List.length_cons, List.length_nil, List.map_cons, List.map_nil, cndE, reduceCtorEq, and_self, and_true, true_and, List.all_cons, List.all_nil, AV.scal, Bool.and_self, Bool.and_true, List.take, List.drop, Option.bind_some, Option.bind_none, Bool.false_eq_true, callE, argsE, AV.pure?, AV.toPC, toPCs, objsE, cellsE, resAt, backObjs, backCells, freeE, keys, exitMem, shapeOf, oneE, List.nodup_cons, List.mem_cons, List.not_mem_nil, or_false, not_false_eq_true, List.nodup_nil, ext, Nat.reduceBEq, builtinE, lenE, AV.rows, appendE, addedE, newRowE, newObjE, strz, mm, buildE, fillE, chunks, List.replicate, List.flatten, guardE, cndQ, List.getElem?_toArray, List.flatMap, List.flatten_cons, List.flatten_nil, Int.reduceLT, Int.reduceLE, Int.reduceToNat, Option.map, Nat.zero_add, Nat.mul_one, Nat.one_mul, Nat.zero_le, Nat.add_zero, List.length_append, beq_true, beq_false, Bool.not_true, Bool.not_false, strOp, beq_self_eq_true, Int.toNat_natCast, indexE, Int.natCast_nonneg, mkE, newMslE, Bool.or_false, Bool.or_true, Bool.false_or, Bool.true_or, look2, denil, List.append_eq, once, without, convO, w_add, w_and, w_or, w_xor, w_xorF, w_not, w_shl8, w_shl16, w_shl24, w_shr3, w_shr8, w_shr10, w_shr16, w_shr24, b_add, b_sub, b_mul, b_quo, b_rem, b_and, b_or, b_xor, b_andNot, b_eql, b_neq, b_lss, b_leq, b_gtr, b_geq, b_str, b_bool, u_neg, u_not, c_bw, c_wb, cellsW_length, cellsW_pure, cellsW_all, cellsE_W, backCells_W, cellsAt_W, cellPairs_W, cellsW_toPCs, cellsW_map, hN, hF, ty_3, ty_5, ty_49, ty_175, ty_176, ty_193, notIf, isEq, intOp, h1, hL, hp, ht, hcl, zerosW_length]
          simp only [retQ, retE, RetOK, objPairs, resPairs, cellPairs, objCells, retRen, retMem, exitMem, exitVals, resAt, entryMem, cellsAt, AMds, AMd, CMd, keys, List.append_nil, List.nil_append, List.cons_append, List.map_cons, List.map_nil, List.nodup_cons, List.mem_cons, List.not_mem_nil, or_false, not_false_eq_true, List.nodup_nil, get_mk, mem_mk, look_nil, look_cons, Option.isSome_some, Option.isSome_none, and_self, and_true, true_and, ↓reduceIte, Nat.reduceEqDiff, Nat.reduceAdd, Nat.reduceMul, Option.getD_some, inObj, inRow, outName, outCell, forall_eq_or_imp, forall_eq, implies_true, Nat.reduceBEq, reduceCtorEq, Bool.false_eq_true, andThen_some, andThen_none, Nat.zero_add, List.length_nil, List.length_cons, false_implies, List.length_append, loadE, run_ask, run_ret, run_fail, obind_some, obind_none, List.zip_cons_cons, List.zip_nil_left, List.zip_nil_right, AMd.AMp, List.take, List.drop, List.getElem?_cons_zero, List.getElem?_cons_succ, Nat.reduceLeDiff, Nat.zero_le, List.forall_mem_nil, rs_157, agg_193, sz_193, cellsW_length, hcl, ht, cellsAt_W, cellPairs_W, cellsW_amds]
          exact cellsW_amp o.l

end Go.Proofs.Ytjdokoldiemobaa.AM
