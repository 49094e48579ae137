/-
  Q9: Sh6 Sh7 Sh8 Sh9 ShT Au Ta Tx1 Bk0.
-/
import Derived.Test.YtenmlgalcjkdbaaQ8
import Derived.Test.YtenmlgalcjkdbaaQ7
set_option linter.unusedVariables false
set_option linter.unusedSimpArgs false
namespace Go.Proofs.Ytenmlgalcjkdbaa.AM
open Go

variable {Γ : FuncId → Contract}

structure S8 where
  a : W32
  b : W32
  c : W32
  d : W32
  e : W32
  f : W32
  g : W32
  h : W32
def S8.l (s : S8) : List W32 := [s.a, s.b, s.c, s.d, s.e, s.f, s.g, s.h]
theorem S8.l_length (s : S8) : s.l.length = 8 := rfl
theorem S8.l_inj {s t : S8} (h : s.l = t.l) : s = t := by
  obtain ⟨a, b, c, d, e, f, g, i⟩ := s
  obtain ⟨a', b', c', d', e', f', g', i'⟩ := t
  simp only [S8.l, List.cons.injEq, and_true] at h
  obtain ⟨rfl, rfl, rfl, rfl, rfl, rfl, rfl, rfl⟩ := h
  rfl
theorem cellsW_cons (x : W32) (l : List W32) : cellsW (x :: l) = .c (wC x) :: cellsW l := rfl
theorem cellsW_nil : cellsW [] = [] := rfl

/-- A round. -/
def rnd (v : S8) (k w : W32) : S8 :=
  ⟨(((v.h + ((rotr v.e 6 ^^^ rotr v.e 11) ^^^ rotr v.e 25)) + ((v.e &&& v.f) ^^^ (~~~v.e &&& v.g))) + k + w) + (((rotr v.a 2 ^^^ rotr v.a 13) ^^^ rotr v.a 22) + (((v.a &&& v.b) ^^^ (v.a &&& v.c)) ^^^ (v.b &&& v.c))),
    v.a, v.b, v.c, v.d + (((v.h + ((rotr v.e 6 ^^^ rotr v.e 11) ^^^ rotr v.e 25)) + ((v.e &&& v.f) ^^^ (~~~v.e &&& v.g))) + k + w), v.e, v.f, v.g⟩
def rounds (s : S8) (w : List W32) : Nat → S8
  | 0 => s
  | i + 1 => rnd (rounds s w i) (kS.getD i 0) (w.getD i 0)
def addS (v s : S8) : S8 := ⟨v.a + s.a, v.b + s.b, v.c + s.c, v.d + s.d, v.e + s.e, v.f + s.f, v.g + s.g, v.h + s.h⟩
def blockS (s : S8) (b : List UInt8) : S8 := addS (rounds s (wS b 64) 64) s

noncomputable def blockC : Contract := mkC (α := S8 × List UInt8) (fun p => p.2.length ≤ 9223372036854775807) (fun p => [.agg (cellsW p.1.l), .c (.sl (bytes p.2)), .ptr (inObj 0) 0]) (fun _ => [ovW kS]) (fun p => ⟨[.pv (.agg (cellsW (blockS p.1 p.2).l))], [ovW kS]⟩)
theorem block_at (s : S8) (b : List UInt8) (h : b.length ≤ 9223372036854775807) : blockC [.agg (cellsW s.l), .c (.sl (bytes b)), .ptr (inObj 0) 0] [ovW kS] = some ⟨[.pv (.agg (cellsW (blockS s b).l))], [ovW kS]⟩ :=
  mkC_at (α := S8 × List UInt8) (s, b) h (by
    rintro ⟨y, m⟩ _ h _
    simp only [List.cons.injEq, AV.c.injEq, AV.agg.injEq, PC.sl.injEq, true_and, and_true] at h
    obtain ⟨e1, e2⟩ := h
    obtain rfl := bytes_inj e2
    obtain rfl := S8.l_inj (cellsW_inj e1)
    rfl)

/-- So many words have been added. -/
def sumTo (v s : List W32) (i : Nat) : List W32 := (List.zipWith (· + ·) v s).take i ++ v.drop i
theorem sumTo_length {v s : List W32} (h : v.length = 8) (h' : s.length = 8) (i : Nat) (hi : i ≤ 8) : (sumTo v s i).length = 8 := by
  simp [sumTo, h, h']; omega
theorem sumTo_get {v s : List W32} (h : v.length = 8) (h' : s.length = 8) {i : Nat} (hi : i < 8) : (sumTo v s i)[i]? = some (v.getD i 0) := by
  have hl : ((List.zipWith (· + ·) v s).take i).length = i := by simp [h, h']; omega
  unfold sumTo
  rw [List.getElem?_append_right (by omega), hl, Nat.sub_self, List.getElem?_drop, Nat.add_zero, List.getD_eq_getElem?_getD]
  simp [h, hi]
theorem sumTo_set {v s : List W32} (h : v.length = 8) (h' : s.length = 8) {i : Nat} (hi : i < 8) : (sumTo v s i).set i (v.getD i 0 + s.getD i 0) = sumTo v s (i + 1) := by
  have hl : ((List.zipWith (· + ·) v s).take i).length = i := by simp [h, h']; omega
  unfold sumTo
  rw [List.set_append_right _ _ (by omega), hl, Nat.sub_self]
  have hd : v.drop i = v.getD i 0 :: v.drop (i + 1) := by
    rw [List.drop_eq_getElem_cons (by omega), List.getD_eq_getElem?_getD]
    simp [h, hi]
  rw [hd, List.set_cons_zero, List.take_add_one]
  have hz : (List.zipWith (· + ·) v s)[i]? = some (v.getD i 0 + s.getD i 0) := by
    simp [List.getElem?_zipWith, List.getD_eq_getElem?_getD, h, h', hi]
  rw [hz]
  simp
theorem sumTo_end (v s : S8) : sumTo v.l s.l 8 = (addS v s).l := rfl
theorem getW {l : List W32} {n i : Nat} (h : l.length = n) (hi : i < n) : (cellsW l)[i]? = some (.c (wC (l.getD i 0))) := by
  refine cellsW_get ?_
  rw [List.getD_eq_getElem?_getD]
  simp [h, hi]

set_option maxRecDepth 100000 in
theorem build8 (a b c d e f g h : PC) : buildE Try.prog 141 [(0, .c a), (1, .c b), (2, .c c), (3, .c d), (4, .c e), (5, .c f), (6, .c g), (7, .c h)] = some [.c a, .c b, .c c, .c d, .c e, .c f, .c g, .c h] := by kernel_rfl
theorem put8 (a b c d e f g h : PC) (l : List AV) (hl : l.length = 8) : putAt l 0 [.c a, .c b, .c c, .c d, .c e, .c f, .c g, .c h] = [.c a, .c b, .c c, .c d, .c e, .c f, .c g, .c h] := by
  unfold putAt
  rw [List.take_zero, List.nil_append, List.drop_of_length_le (by simp; omega), List.append_nil]

set_option maxRecDepth 100000 in
set_option maxHeartbeats 1000000 in
theorem block_sound (hΓ : SoundG Try.prog Γ) (h85 : Γ 119 = schedC) (h86 : Γ 120 = rightC) : SoundC Try.prog 100 blockC := by
  refine sound_fnA ⟨[], [(5, .tidy [2, 3, 6, 7, 8, 9, 20]), (6, .tidy [2, 3, 6, 7, 8, 9, 10, 11, 20]), (7, .tidy [2, 3, 6, 7, 8, 9, 10, 11, 12, 20]), (8, .tidy [2, 3, 6, 7, 8, 10, 13, 20]), (9, .tidy [2, 3, 6, 7, 8, 10, 13, 14, 20]), (10, .tidy [2, 3, 6, 7, 8, 13, 15, 20]), (11, .tidy [2, 3, 6, 7, 8, 20])]⟩ Try.func100 (by kernel_rfl) rfl rfl ?_
  intro args objs r hr
  obtain ⟨⟨s, b⟩, hl, rfl, rfl, rfl⟩ := mkC_inv hr
  refine ⟨resB_W _, by show 3 ≤ _; decide, fun E hN hns hF => ?_⟩
  refine vc_sound hΓ mixed _ _ _ ?_
  have hN := hN.trans nt_100
  dsimp only at hl ⊢
  have hsd := sched_at b hl
  have hwl : (wS b 64).length = 64 := wS_length b 64
  have hbs : ∀ v, rounds s (wS b 64) 64 = v → blockS s b = addS v s := fun v h => by unfold blockS; rw [h]
  generalize blockS s b = out at hbs ⊢
  generalize wS b 64 = W at hsd hwl hbs ⊢
  have hp : putAt (cellsW (zerosW 64)) 0 (cellsW (W)) = cellsW (W) := cellsW_all_put (by rw [zerosW_length, hwl])
  have hp8 : ∀ l : List AV, l.length = 8 → putAt l 0 (cellsW s.l) = cellsW s.l := fun l h => by
    unfold putAt
    rw [List.take_zero, List.nil_append, Nat.zero_add, cellsW_length, S8.l_length, ← h, List.drop_length, List.append_nil]
  have hp8' := hp8 [AV.c (PC.int .u32 0), .c (.int .u32 0), .c (.int .u32 0), .c (.int .u32 0), .c (.int .u32 0), .c (.int .u32 0), .c (.int .u32 0), .c (.int .u32 0)] rfl
  have ht8 : (cellsW s.l).take 8 = cellsW s.l := cellsW_take (S8.l_length s).symm
  simp only [runA, runB, runC, runD, runE, runF, fieldE, storeE, ↓reduceIte, Nat.reduceLT, Nat.reduceLeDiff, Nat.reduceEqDiff, Nat.reduceAdd, Nat.reduceMul, Nat.reduceSub, reduceCtorEq, Nat.reduceBEq, buildE, List.replicate, Int.reduceLT, Int.reduceLE, Int.reduceToNat, mkE, mapSetE, w_add, w_and, w_or, w_xor, w_xorF, w_not, w_shl8, w_shl16, w_shl24, w_shr3, w_shr8, w_shr10, w_shr16, w_shr24, b_add, b_sub, b_mul, b_quo, b_rem, b_and, b_or, b_xor, b_andNot, b_eql, b_neq, b_lss, b_leq, b_gtr, b_geq, b_str, b_bool, u_neg, u_not, c_bw, c_wb, cellsW_length, cellsW_pure, cellsW_all, cellsE_W, backCells_W, cellsAt_W, cellPairs_W, cellsW_toPCs, cellsW_map, hN, hF, ty_3, ty_5, ty_88, ty_124, ty_125, ty_141, notIf, isEq, zrep_W, h85, hsd, hp, hp8', ht8, hwl, S8.l_length, zerosW_length]
  refine AWP.loop (fun c st => ∃ i : Nat, i ≤ 64 ∧ c = 64 - i ∧ st = ⟨[(2, .ptr 6400000 0), (3, .ptr 192 0), (6, .ptr 384 0), (7, .ptr 448 0), (8, .ptr 512 0), (20, .c (.int .i64 (i : Int)))],
    [(192, .obj (cellsW s.l) false), (384, .obj (cellsW (zerosW 8)) false), (448, .obj (cellsW (W)) false), (512, .obj (cellsW (rounds s (W) i).l) false), (6400000, .obj (cellsW kS) false)]⟩) ⟨64, _, ?w, 0, Nat.zero_le _, rfl, rfl⟩ ?r
  case w =>
    rw [hns]
    simp only [runB, finC, finD, AS.get, AS.mem, false_implies, implies_true, ↓reduceIte, Nat.reduceEqDiff, Option.isSome_some, Option.isSome_none, forall_eq_or_imp, forall_eq, reduceCtorEq, Nat.reduceAdd, Nat.reduceMul, List.zip_cons_cons, List.zip_nil_left, List.zip_nil_right, List.forall_mem_nil, cellsAt_W, cellsW_amds, rounds]
    exact ⟨cellsW_amds _ (zerosW 8), rfl⟩
  case r =>
    rintro c st ⟨i, hi, rfl, rfl⟩
    refine vc_sound hΓ mixed _ _ _ ?_
    by_cases hlt : i < 64
    · have h1 : decide ((i : Int) < 64) = true := by simp; omega
      have e1 : IntKind.i64.wrap ((i : Int) + 1) = (i : Int) + 1 := wrapI (by omega)
      have l0 : (i : Int) < ((64 : Nat) : Int) := by omega
      have gk := getW kS_length hlt
      have gw := getW hwl hlt
      have r6 : ∀ x, rightC [.c (wC x), .c (.int .i64 6)] [] = _ := fun x => right_at x 6 (by decide) (by decide)
      have r11 : ∀ x, rightC [.c (wC x), .c (.int .i64 11)] [] = _ := fun x => right_at x 11 (by decide) (by decide)
      have r25 : ∀ x, rightC [.c (wC x), .c (.int .i64 25)] [] = _ := fun x => right_at x 25 (by decide) (by decide)
      have r2 : ∀ x, rightC [.c (wC x), .c (.int .i64 2)] [] = _ := fun x => right_at x 2 (by decide) (by decide)
      have r13 : ∀ x, rightC [.c (wC x), .c (.int .i64 13)] [] = _ := fun x => right_at x 13 (by decide) (by decide)
      have r22 : ∀ x, rightC [.c (wC x), .c (.int .i64 22)] [] = _ := fun x => right_at x 22 (by decide) (by decide)
      have hsucc : rounds s (W) (i + 1) = rnd (rounds s (W) i) (kS.getD i 0) ((W).getD i 0) := rfl
      generalize rounds s (W) i = v at hsucc ⊢
      obtain ⟨a, b1, c1, d, e, f, g, h⟩ := v
      have c8 : ((0 : Int) < ((8 : Nat) : Int)) ∧ ((1 : Int) < ((8 : Nat) : Int)) ∧ ((2 : Int) < ((8 : Nat) : Int)) ∧ ((3 : Int) < ((8 : Nat) : Int)) ∧ ((4 : Int) < ((8 : Nat) : Int)) ∧ ((5 : Int) < ((8 : Nat) : Int)) ∧ ((6 : Int) < ((8 : Nat) : Int)) ∧ ((7 : Int) < ((8 : Nat) : Int)) := by decide
      obtain ⟨k0, k1, k2, k3, k4, k5, k6, k7⟩ := c8
      simp only [S8.l, cellsW_cons, cellsW_nil]
      simp only [runA, runB, runC, runD, runE, runF, fieldE, storeE, ↓reduceIte, Nat.reduceLT, Nat.reduceLeDiff, Nat.reduceEqDiff, Nat.reduceAdd, Nat.reduceMul, Nat.reduceSub, reduceCtorEq, putAt, Nat.reduceBEq, buildE, List.replicate, Int.reduceLT, Int.reduceLE, Int.reduceToNat, mkE, mapSetE, w_add, w_and, w_or, w_xor, w_xorF, w_not, w_shl8, w_shl16, w_shl24, w_shr3, w_shr8, w_shr10, w_shr16, w_shr24, b_add, b_sub, b_mul, b_quo, b_rem, b_and, b_or, b_xor, b_andNot, b_eql, b_neq, b_lss, b_leq, b_gtr, b_geq, b_str, b_bool, u_neg, u_not, c_bw, c_wb, cellsW_length, cellsW_pure, cellsW_all, cellsE_W, backCells_W, cellsAt_W, cellPairs_W, cellsW_toPCs, cellsW_map, hN, hF, ty_3, ty_5, ty_88, ty_124, ty_125, ty_141, notIf, isEq, intOp, h1, e1, l0, gk, gw, k0, k1, k2, k3, k4, k5, k6, k7]
      refine drawnP_intro (by kernel_rfl) (by kernel_rfl) ?_
      simp only [runA, runB, runC, runD, runE, runF, fieldE, storeE, ↓reduceIte, Nat.reduceLT, Nat.reduceLeDiff, Nat.reduceEqDiff, Nat.reduceAdd, Nat.reduceMul, Nat.reduceSub, reduceCtorEq, putAt, Nat.reduceBEq, buildE, List.replicate, Int.reduceLT, Int.reduceLE, Int.reduceToNat, mkE, mapSetE, w_add, w_and, w_or, w_xor, w_xorF, w_not, w_shl8, w_shl16, w_shl24, w_shr3, w_shr8, w_shr10, w_shr16, w_shr24, b_add, b_sub, b_mul, b_quo, b_rem, b_and, b_or, b_xor, b_andNot, b_eql, b_neq, b_lss, b_leq, b_gtr, b_geq, b_str, b_bool, u_neg, u_not, c_bw, c_wb, cellsW_length, cellsW_pure, cellsW_all, cellsE_W, backCells_W, cellsAt_W, cellPairs_W, cellsW_toPCs, cellsW_map, hN, hF, ty_3, ty_5, ty_88, ty_124, ty_125, ty_141, notIf, isEq, intOp, h86, r6, r11, r25, r2, r13, r22, e1, l0, gk, gw, k0, k1, k2, k3, k4, k5, k6, k7]
      refine drawnP_intro (by kernel_rfl) (by kernel_rfl) ?_
      simp only [runA, runB, runC, runD, runE, runF, fieldE, storeE, ↓reduceIte, Nat.reduceLT, Nat.reduceLeDiff, Nat.reduceEqDiff, Nat.reduceAdd, Nat.reduceMul, Nat.reduceSub, reduceCtorEq, Nat.reduceBEq, List.replicate, Int.reduceLT, Int.reduceLE, Int.reduceToNat, mkE, mapSetE, w_add, w_and, w_or, w_xor, w_xorF, w_not, w_shl8, w_shl16, w_shl24, w_shr3, w_shr8, w_shr10, w_shr16, w_shr24, b_add, b_sub, b_mul, b_quo, b_rem, b_and, b_or, b_xor, b_andNot, b_eql, b_neq, b_lss, b_leq, b_gtr, b_geq, b_str, b_bool, u_neg, u_not, c_bw, c_wb, cellsW_length, cellsW_pure, cellsW_all, cellsE_W, backCells_W, cellsAt_W, cellPairs_W, cellsW_toPCs, cellsW_map, hN, hF, ty_3, ty_5, ty_88, ty_124, ty_125, ty_141, notIf, isEq, intOp, h86, build8, put8, r6, r11, r25, r2, r13, r22, e1, l0, gk, gw, k0, k1, k2, k3, k4, k5, k6, k7]
      refine ⟨64 - (i + 1), _, by omega, ?_, i + 1, by omega, rfl, rfl⟩
      rw [hns, hsucc]
      simp only [runB, finC, finD, AS.get, AS.mem, false_implies, implies_true, ↓reduceIte, Nat.reduceEqDiff, Option.isSome_some, Option.isSome_none, forall_eq_or_imp, forall_eq, reduceCtorEq, Nat.reduceAdd, Nat.reduceMul, List.zip_cons_cons, List.zip_nil_left, List.zip_nil_right, List.forall_mem_nil, cellsAt_W, cellsW_amds, S8.l, rnd, cellsW_cons, cellsW_nil]
      first | done | simp
    · have h1 : decide ((i : Int) < 64) = false := by simp; omega
      obtain rfl : i = 64 := by omega
      have hbs := hbs _ rfl
      generalize rounds s (W) 64 = v at hbs ⊢
      subst hbs
      simp only [runA, runB, runC, runD, runE, runF, fieldE, storeE, ↓reduceIte, Nat.reduceLT, Nat.reduceLeDiff, Nat.reduceEqDiff, Nat.reduceAdd, Nat.reduceMul, Nat.reduceSub, reduceCtorEq, putAt, Nat.reduceBEq, buildE, List.replicate, Int.reduceLT, Int.reduceLE, Int.reduceToNat, mkE, mapSetE, w_add, w_and, w_or, w_xor, w_xorF, w_not, w_shl8, w_shl16, w_shl24, w_shr3, w_shr8, w_shr10, w_shr16, w_shr24, b_add, b_sub, b_mul, b_quo, b_rem, b_and, b_or, b_xor, b_andNot, b_eql, b_neq, b_lss, b_leq, b_gtr, b_geq, b_str, b_bool, u_neg, u_not, c_bw, c_wb, cellsW_length, cellsW_pure, cellsW_all, cellsE_W, backCells_W, cellsAt_W, cellPairs_W, cellsW_toPCs, cellsW_map, hN, hF, ty_3, ty_5, ty_88, ty_124, ty_125, ty_141, notIf, isEq, intOp, h1]
      refine AWP.loop (fun c st => ∃ i : Nat, i ≤ 8 ∧ c = 8 - i ∧ st = ⟨[(3, .ptr 192 0), (6, .ptr 384 0), (8, .ptr 512 0), (106, .c (.int .i64 (i : Int)))],
        [(192, .obj (cellsW s.l) false), (384, .obj (cellsW (zerosW 8)) false), (512, .obj (cellsW (sumTo v.l s.l i)) false), (6400000, .obj (cellsW kS) false)]⟩) ⟨8, _, ?w2, 0, Nat.zero_le _, rfl, rfl⟩ ?r2
      case w2 =>
        rw [hns]
        simp only [runB, finC, finD, AS.get, AS.mem, false_implies, implies_true, ↓reduceIte, Nat.reduceEqDiff, Option.isSome_some, Option.isSome_none, forall_eq_or_imp, forall_eq, reduceCtorEq, Nat.reduceAdd, Nat.reduceMul, List.zip_cons_cons, List.zip_nil_left, List.zip_nil_right, List.forall_mem_nil, cellsAt_W, cellsW_amds, sumTo, List.take_zero, List.drop_zero, List.nil_append]
        first | done | simp
      case r2 =>
        rintro c st ⟨i, hi, rfl, rfl⟩
        refine vc_sound hΓ mixed _ _ _ ?_
        have hcl := sumTo_length (S8.l_length v) (S8.l_length s) i hi
        by_cases hlt : i < 8
        · have h1 : decide ((i : Int) < 8) = true := by simp; omega
          have e1 : IntKind.i64.wrap ((i : Int) + 1) = (i : Int) + 1 := wrapI (by omega)
          have l0 : (i : Int) < ((8 : Nat) : Int) := by omega
          have g1 := cellsW_get (sumTo_get (S8.l_length v) (S8.l_length s) hlt)
          have g2 := getW (S8.l_length s) hlt
          have hp := cellsW_put (l := sumTo v.l s.l i) (i := i) (v.l.getD i 0 + s.l.getD i 0) (by omega)
          have hq := sumTo_set (S8.l_length v) (S8.l_length s) hlt
          have e4 : i + 1 ≤ 8 := by omega
          simp only [runA, runB, runC, runD, runE, runF, fieldE, storeE, ↓reduceIte, Nat.reduceLT, Nat.reduceLeDiff, Nat.reduceEqDiff, Nat.reduceAdd, Nat.reduceMul, Nat.reduceSub, reduceCtorEq, Nat.reduceBEq, buildE, List.replicate, Int.reduceLT, Int.reduceLE, Int.reduceToNat, mkE, mapSetE, w_add, w_and, w_or, w_xor, w_xorF, w_not, w_shl8, w_shl16, w_shl24, w_shr3, w_shr8, w_shr10, w_shr16, w_shr24, b_add, b_sub, b_mul, b_quo, b_rem, b_and, b_or, b_xor, b_andNot, b_eql, b_neq, b_lss, b_leq, b_gtr, b_geq, b_str, b_bool, u_neg, u_not, c_bw, c_wb, cellsW_length, cellsW_pure, cellsW_all, cellsE_W, backCells_W, cellsAt_W, cellPairs_W, cellsW_toPCs, cellsW_map, hN, hF, ty_3, ty_5, ty_88, ty_124, ty_125, ty_141, notIf, isEq, intOp, h1, e1, l0, g1, g2, hp, hq, hcl, e4]
          refine drawnP_intro (by kernel_rfl) (by kernel_rfl) ?_
          simp only [runA, runB, runC, runD, runE, runF, fieldE, storeE, ↓reduceIte, Nat.reduceLT, Nat.reduceLeDiff, Nat.reduceEqDiff, Nat.reduceAdd, Nat.reduceMul, Nat.reduceSub, reduceCtorEq, Nat.reduceBEq, buildE, List.replicate, Int.reduceLT, Int.reduceLE, Int.reduceToNat, mkE, mapSetE, w_add, w_and, w_or, w_xor, w_xorF, w_not, w_shl8, w_shl16, w_shl24, w_shr3, w_shr8, w_shr10, w_shr16, w_shr24, b_add, b_sub, b_mul, b_quo, b_rem, b_and, b_or, b_xor, b_andNot, b_eql, b_neq, b_lss, b_leq, b_gtr, b_geq, b_str, b_bool, u_neg, u_not, c_bw, c_wb, cellsW_length, cellsW_pure, cellsW_all, cellsE_W, backCells_W, cellsAt_W, cellPairs_W, cellsW_toPCs, cellsW_map, hN, hF, ty_3, ty_5, ty_88, ty_124, ty_125, ty_141, notIf, isEq, intOp, e1]
          refine ⟨8 - (i + 1), _, by omega, ?_, i + 1, by omega, rfl, rfl⟩
          rw [hns]
          simp only [runB, finC, finD, AS.get, AS.mem, false_implies, implies_true, ↓reduceIte, Nat.reduceEqDiff, Option.isSome_some, Option.isSome_none, forall_eq_or_imp, forall_eq, reduceCtorEq, Nat.reduceAdd, Nat.reduceMul, List.zip_cons_cons, List.zip_nil_left, List.zip_nil_right, List.forall_mem_nil, cellsAt_W, cellsW_amds]
          first | done | simp
        · have h1 : decide ((i : Int) < 8) = false := by simp; omega
          have hL : sumTo v.l s.l i = (addS v s).l := by
            obtain rfl : i = 8 := by omega
            exact sumTo_end v s
          generalize addS v s = o at hL ⊢
          have hcl : o.l.length = 8 := S8.l_length o
          have hp : putAt (cellsW (zerosW 8)) 0 (cellsW o.l) = cellsW o.l := cellsW_all_put ((S8.l_length o).trans (zerosW_length 8).symm)
          have ht : (cellsW o.l).take 8 = cellsW o.l := cellsW_take (S8.l_length o).symm
          simp only [runA, runB, runC, runD, runE, runF, fieldE, storeE, ↓reduceIte, Nat.reduceLT, Nat.reduceLeDiff, Nat.reduceEqDiff, Nat.reduceAdd, Nat.reduceMul, Nat.reduceSub, reduceCtorEq, Nat.reduceBEq, buildE, List.replicate, Int.reduceLT, Int.reduceLE, Int.reduceToNat, mkE, mapSetE, w_add, w_and, w_or, w_xor, w_xorF, w_not, w_shl8, w_shl16, w_shl24, w_shr3, w_shr8, w_shr10, w_shr16, w_shr24, b_add, b_sub, b_mul, b_quo, b_rem, b_and, b_or, b_xor, b_andNot, b_eql, b_neq, b_lss, b_leq, b_gtr, b_geq, b_str, b_bool, u_neg, u_not, c_bw, c_wb, cellsW_length, cellsW_pure, cellsW_all, cellsE_W, backCells_W, cellsAt_W, cellPairs_W, cellsW_toPCs, cellsW_map, hN, hF, ty_3, ty_5, ty_88, ty_124, ty_125, ty_141, notIf, isEq, intOp, h1, hL, hp, ht, hcl, zerosW_length]
          simp only [runB, finC, finD, Option.isSome_some, Option.isSome_none, ↓reduceIte, Nat.reduceEqDiff, Nat.reduceAdd, Nat.reduceMul, forall_eq_or_imp, forall_eq, implies_true, Nat.reduceBEq, reduceCtorEq, false_implies, List.zip_cons_cons, List.zip_nil_left, List.zip_nil_right, Nat.reduceLeDiff, List.forall_mem_nil, rs_100, agg_141, sz_141, cellsW_length, hcl, ht, cellsAt_W, cellPairs_W, cellsW_amds]
          exact cellsW_amp o.l


variable {Γ : FuncId → Contract}

def padS (b : List UInt8) : List UInt8 := [b, [128], List.replicate ((119 - b.length % 64) % 64) 0, putB (8 * (b.length : Int)) 8].flatten
theorem padS_eq (b : List UInt8) : padS b = b ++ ([128] ++ (List.replicate ((119 - b.length % 64) % 64) 0 ++ putB (8 * (b.length : Int)) 8)) := by simp [padS]
theorem padS_length (b : List UInt8) : (padS b).length % 64 = 0 ∧ (padS b).length ≤ b.length + 73 := by
  rw [padS_eq]
  simp only [List.length_append, List.length_replicate, List.length_cons, List.length_nil, putB_length]
  rw [show (min (max (8 : Int) 0) 8).toNat = 8 from rfl]
  omega
theorem rep_bytes (k : Nat) : List.replicate k [PC.int .u8 0] = bytes (List.replicate k 0) := by simp [bytes]

noncomputable def padC : Contract := mkC (α := List UInt8) (fun b => b.length ≤ 1099511627776) (fun b => [.c (.sl (bytes b))]) (fun _ => []) (fun b => ⟨[.fresh 1 (bytes (padS b))], []⟩)
theorem pad_at (b : List UInt8) (h : b.length ≤ 1099511627776) : padC [.c (.sl (bytes b))] [] = some ⟨[.fresh 1 (bytes (padS b))], []⟩ :=
  mkC_at (α := List UInt8) b h (by
    rintro y _ h _
    simp at h
    rw [bytes_inj h])

theorem slices4 (a c d : List UInt8) : [[PC.sl (bytes a)], [PC.sl [[PC.int .u8 128]]], [PC.sl (bytes c)], [PC.sl (bytes d)]] = slices [a, [128], c, d] := rfl

set_option maxRecDepth 100000 in
set_option maxHeartbeats 2000000 in
theorem pad_sound (hΓ : SoundG Try.prog Γ) (h53 : Γ 118 = putC) (h75 : Γ 76 = concatC) : SoundC Try.prog 99 padC := by
  refine sound_fn Try.func99 (by kernel_rfl) rfl rfl ?_
  intro args objs r hr
  obtain ⟨b, hl, rfl, rfl, rfl⟩ := mkC_inv hr
  refine ⟨rfl, by show 1 ≤ _; decide, fun E hN hns hF => ?_⟩
  refine vc_sound hΓ mixed _ _ _ ?_
  have hN := hN.trans nt_99
  have e1 : ((b.length : Int).tmod 64) = ((b.length % 64 : Nat) : Int) := rfl
  have e2 : IntKind.i64.wrap (119 - ((b.length % 64 : Nat) : Int)) = ((119 - b.length % 64 : Nat) : Int) := by rw [wrapI (by omega)]; omega
  have e3 : (((119 - b.length % 64 : Nat) : Int).tmod 64) = (((119 - b.length % 64) % 64 : Nat) : Int) := rfl
  have e4 : IntKind.i64.wrap (8 * (b.length : Int)) = 8 * (b.length : Int) := wrapI (by omega)
  obtain ⟨k, hk⟩ : ∃ k, k = (119 - b.length % 64) % 64 := ⟨_, rfl⟩
  have hk64 : k < 64 := by omega
  rw [← hk] at e3
  have e5 : (k : Int) ≤ 9223372036854775807 := by omega
  have e6 : (k : Int) * ((1 : Nat) : Int) ≤ 140737488355328 := by omega
  have hpad : [b, [128], List.replicate k 0, putB (8 * (b.length : Int)) 8].flatten = padS b := by rw [hk]; rfl
  have hpl := (padS_length b).2
  have hc := concat_at [b, [128], List.replicate k 0, putB (8 * (b.length : Int)) 8] ⟨by rw [hpad]; omega, by simp⟩
  rw [hpad] at hc
  simp only [runA, runB, runC, runD, runE, runF, fieldE, storeE, ↓reduceIte, Nat.reduceLT, Nat.reduceLeDiff, Nat.reduceEqDiff, Nat.reduceAdd, Nat.reduceMul, Nat.reduceSub, reduceCtorEq, putAt, Nat.reduceBEq, buildE, List.replicate, Int.reduceLT, Int.reduceLE, Int.reduceToNat, mkE, mapSetE, w_add, w_and, w_or, w_xor, w_xorF, w_not, w_shl8, w_shl16, w_shl24, w_shr3, w_shr8, w_shr10, w_shr16, w_shr24, b_add, b_sub, b_mul, b_quo, b_rem, b_and, b_or, b_xor, b_andNot, b_eql, b_neq, b_lss, b_leq, b_gtr, b_geq, b_str, b_bool, u_neg, u_not, c_bw, c_wb, cellsW_length, cellsW_pure, cellsW_all, cellsE_W, backCells_W, cellsAt_W, cellPairs_W, cellsW_toPCs, cellsW_map, hN, hF, ty_3, ty_5, ty_88, ty_111, notIf, isEq, intOp, e1, e2, e3, e4, e5, e6, Int.reduceEq, bytes_length, Int.le_refl, h53, putC, h75, rep_bytes, slices4, hc]
  refine drawnP_intro (by kernel_rfl) (by kernel_rfl) ?_
  simp only [thenA_normal, vc_ret]
  simp only [runB, finC, finD, Option.isSome_some, Option.isSome_none, ↓reduceIte, Nat.reduceEqDiff, Nat.reduceAdd, Nat.reduceMul, forall_eq_or_imp, forall_eq, implies_true, Nat.reduceBEq, reduceCtorEq, false_implies, List.zip_cons_cons, List.zip_nil_left, List.zip_nil_right, Nat.reduceLeDiff, List.forall_mem_nil, rs_99, bytes_length]

def H0 : S8 := ⟨1779033703, 3144134277, 1013904242, 2773480762, 1359893119, 2600822924, 528734635, 1541459225⟩
theorem H0_l : hS = H0.l := rfl
def chunk (p : List UInt8) (i : Nat) : List UInt8 := (p.drop (64 * i)).take 64
def stS (p : List UInt8) : Nat → S8
  | 0 => H0
  | i + 1 => blockS (stS p i) (chunk p i)
def shaS (b : List UInt8) : List UInt8 := octsOf (stS (padS b) ((padS b).length / 64)).l
theorem shaS_length (b : List UInt8) : (shaS b).length = 32 := by unfold shaS; rw [octsOf_length, S8.l_length]

noncomputable def sumC : Contract := mkC (α := List UInt8) (fun b => b.length ≤ 1099511627776) (fun b => [.c (.sl (bytes b))]) (fun _ => []) (fun b => ⟨[.fresh 1 (bytes (shaS b))], []⟩)
theorem sum_at (b : List UInt8) (h : b.length ≤ 1099511627776) : sumC [.c (.sl (bytes b))] [] = some ⟨[.fresh 1 (bytes (shaS b))], []⟩ :=
  mkC_at (α := List UInt8) b h (by
    rintro y _ h _
    simp at h
    rw [bytes_inj h])

theorem bytes_take (l : List UInt8) (n : Nat) : (bytes l).take n = bytes (l.take n) := by simp [bytes, List.map_take]
theorem bytes_drop (l : List UInt8) (n : Nat) : (bytes l).drop n = bytes (l.drop n) := by simp [bytes, List.map_drop]

set_option maxRecDepth 100000 in
set_option maxHeartbeats 2000000 in
theorem sum_sound (hΓ : SoundG Try.prog Γ) (h79 : Γ 97 = hC) (h80 : Γ 98 = kC) (h81 : Γ 99 = padC) (h82 : Γ 100 = blockC) (h83 : Γ 101 = wordsC) : SoundC Try.prog 75 sumC := by
  refine sound_fn Try.func75 (by kernel_rfl) rfl rfl ?_
  intro args objs r hr
  obtain ⟨b, hl, rfl, rfl, rfl⟩ := mkC_inv hr
  refine ⟨rfl, by show 1 ≤ _; decide, fun E hN hns hF => ?_⟩
  refine vc_sound hΓ mixed _ _ _ ?_
  have hN := hN.trans nt_75
  have hp := pad_at b hl
  obtain ⟨hp64, hpl⟩ := padS_length b
  have hsha : shaS b = octsOf (stS (padS b) ((padS b).length / 64)).l := rfl
  generalize padS b = p at hp hp64 hpl hsha
  obtain ⟨n, hn⟩ : ∃ n, p.length = 64 * n := ⟨p.length / 64, by omega⟩
  rw [show p.length / 64 = n from by omega] at hsha
  have q1 : putAt (cellsW (zerosW 64)) 0 (cellsW kS) = cellsW kS := cellsW_all_put (by rw [zerosW_length, kS_length])
  have q2 : putAt [AV.c (PC.int .u32 0), .c (.int .u32 0), .c (.int .u32 0), .c (.int .u32 0), .c (.int .u32 0), .c (.int .u32 0), .c (.int .u32 0), .c (.int .u32 0)] 0 (cellsW H0.l) = cellsW H0.l := cellsW_all_put (l := zerosW 8) ((S8.l_length H0).trans (zerosW_length 8).symm)
  simp only [runA, runB, runC, runD, runE, runF, fieldE, storeE, ↓reduceIte, Nat.reduceLT, Nat.reduceLeDiff, Nat.reduceEqDiff, Nat.reduceAdd, Nat.reduceMul, Nat.reduceSub, reduceCtorEq, Nat.reduceBEq, buildE, List.replicate, Int.reduceLT, Int.reduceLE, Int.reduceToNat, mkE, mapSetE, w_add, w_and, w_or, w_xor, w_xorF, w_not, w_shl8, w_shl16, w_shl24, w_shr3, w_shr8, w_shr10, w_shr16, w_shr24, b_add, b_sub, b_mul, b_quo, b_rem, b_and, b_or, b_xor, b_andNot, b_eql, b_neq, b_lss, b_leq, b_gtr, b_geq, b_str, b_bool, u_neg, u_not, c_bw, c_wb, cellsW_length, cellsW_pure, cellsW_all, cellsE_W, backCells_W, cellsAt_W, cellPairs_W, cellsW_toPCs, cellsW_map, hN, hF, ty_3, ty_5, ty_88, ty_124, ty_125, ty_141, ty_144, ty_146, notIf, isEq, zrep_W, h79, h80, h81, hC, kC, H0_l, hp, q1, q2, kS_length, S8.l_length, zerosW_length, bytes_length]
  refine AWP.loop (fun c s => ∃ i : Nat, i ≤ n ∧ c = n - i ∧ s = ⟨[(3, .ptr 192 0), (4, .ptr 256 0), (5, .c (.sl (bytes (p.drop (64 * i)))))], [(192, .obj (cellsW (stS p i).l) false), (256, .obj (cellsW kS) false)]⟩) ⟨n, _, ?w, 0, Nat.zero_le _, rfl, rfl⟩ ?r
  case w =>
    rw [hns]
    simp only [runB, finC, finD, AS.get, AS.mem, false_implies, implies_true, ↓reduceIte, Nat.reduceEqDiff, Option.isSome_some, Option.isSome_none, forall_eq_or_imp, forall_eq, reduceCtorEq, Nat.reduceAdd, Nat.reduceMul, List.zip_cons_cons, List.zip_nil_left, List.zip_nil_right, List.forall_mem_nil, cellsW_amds, stS]
    first | done | simp
  case r =>
    rintro c s ⟨i, hi, rfl, rfl⟩
    refine vc_sound hΓ mixed _ _ _ ?_
    have hql : (p.drop (64 * i)).length = 64 * (n - i) := by rw [List.length_drop, hn]; omega
    have hcl : (stS p i).l.length = 8 := S8.l_length _
    have ht : (cellsW (stS p i).l).take 8 = cellsW (stS p i).l := cellsW_take (S8.l_length _).symm
    by_cases hlt : i < n
    · have h1 : decide (((64 * (n - i) : Nat) : Int) > 0) = true := by simp; omega
      have e1 : (64 : Int) ≤ ((64 * (n - i) : Nat) : Int) := by omega
      have hb : blockC [.agg (cellsW (stS p i).l), .c (.sl (bytes (chunk p i))), .ptr 6400000 0] [ovW kS] = some ⟨[.pv (.agg (cellsW (blockS (stS p i) (chunk p i)).l))], [ovW kS]⟩ := block_at (stS p i) (chunk p i) (by unfold chunk; simp; omega)
      have hs : blockS (stS p i) (chunk p i) = stS p (i + 1) := rfl
      have hch : ((p.drop (64 * i)).take 64) = chunk p i := rfl
      have hd : (p.drop (64 * i)).drop 64 = p.drop (64 * (i + 1)) := by rw [List.drop_drop]; congr 1
      have hz := rowsOK_bytes
      rw [hs] at hb
      have q3 : putAt (cellsW (stS p i).l) 0 (cellsW (stS p (i + 1)).l) = cellsW (stS p (i + 1)).l := cellsW_all_put ((S8.l_length _).trans (S8.l_length _).symm)
      have q4 : (stS p (i + 1)).l.length = 8 := S8.l_length _
      have z0 : ((0 : Nat) : Int) ≤ 64 := by decide
      have htl : (bytes (p.drop (64 * i))).take (64 * (n - i)) = bytes (p.drop (64 * i)) := by rw [← hql, ← bytes_length, List.take_length]
      simp only [runA, runB, runC, runD, runE, runF, fieldE, storeE, ↓reduceIte, Nat.reduceLT, Nat.reduceLeDiff, Nat.reduceEqDiff, Nat.reduceAdd, Nat.reduceMul, Nat.reduceSub, reduceCtorEq, Nat.reduceBEq, buildE, List.replicate, Int.reduceLT, Int.reduceLE, Int.reduceToNat, mkE, mapSetE, w_add, w_and, w_or, w_xor, w_xorF, w_not, w_shl8, w_shl16, w_shl24, w_shr3, w_shr8, w_shr10, w_shr16, w_shr24, b_add, b_sub, b_mul, b_quo, b_rem, b_and, b_or, b_xor, b_andNot, b_eql, b_neq, b_lss, b_leq, b_gtr, b_geq, b_str, b_bool, u_neg, u_not, c_bw, c_wb, cellsW_length, cellsW_pure, cellsW_all, cellsE_W, backCells_W, cellsAt_W, cellPairs_W, cellsW_toPCs, cellsW_map, hN, hF, ty_3, ty_5, ty_88, ty_124, ty_125, ty_141, ty_144, ty_146, notIf, isEq, intOp, h1, e1, h82, hb, hz, hql, hcl, ht, sliceE, boundE, bytes_take, bytes_drop, hch, hd, q3, q4, bytes_length, Int.le_refl, z0, List.drop_zero, Option.isSome_some, htl]
      refine drawnP_intro (by kernel_rfl) (by kernel_rfl) ?_
      simp only [runA, runB, runC, runD, runE, runF, fieldE, storeE, ↓reduceIte, Nat.reduceLT, Nat.reduceLeDiff, Nat.reduceEqDiff, Nat.reduceAdd, Nat.reduceMul, Nat.reduceSub, reduceCtorEq, Nat.reduceBEq, buildE, List.replicate, Int.reduceLT, Int.reduceLE, Int.reduceToNat, mkE, mapSetE, w_add, w_and, w_or, w_xor, w_xorF, w_not, w_shl8, w_shl16, w_shl24, w_shr3, w_shr8, w_shr10, w_shr16, w_shr24, b_add, b_sub, b_mul, b_quo, b_rem, b_and, b_or, b_xor, b_andNot, b_eql, b_neq, b_lss, b_leq, b_gtr, b_geq, b_str, b_bool, u_neg, u_not, c_bw, c_wb, cellsW_length, cellsW_pure, cellsW_all, cellsE_W, backCells_W, cellsAt_W, cellPairs_W, cellsW_toPCs, cellsW_map, hN, hF, ty_3, ty_5, ty_88, ty_124, ty_125, ty_141, ty_144, ty_146, notIf, isEq, intOp, h1, e1, h82, hb, hz, hql, hcl, ht, sliceE, boundE, bytes_take, bytes_drop, hch, hd, q3, q4, bytes_length, Int.le_refl, z0, List.drop_zero, Option.isSome_some, htl]
      refine ⟨n - (i + 1), _, by omega, ?_, i + 1, by omega, rfl, rfl⟩
      rw [hns]
      simp only [runB, finC, finD, AS.get, AS.mem, false_implies, implies_true, ↓reduceIte, Nat.reduceEqDiff, Option.isSome_some, Option.isSome_none, forall_eq_or_imp, forall_eq, reduceCtorEq, Nat.reduceAdd, Nat.reduceMul, List.zip_cons_cons, List.zip_nil_left, List.zip_nil_right, List.forall_mem_nil, cellsW_amds]
      first | done | rfl | simp
    · have h1 : decide (((64 * (n - i) : Nat) : Int) > 0) = false := by simp; omega
      obtain rfl : i = n := by omega
      have hw : wordsC [.msl 6400000 0 8 true] [ovW (stS p i).l] = some ⟨[.fresh 1 (bytes (octsOf (stS p i).l))], [ovW (stS p i).l]⟩ := words_at (stS p i).l 8 (S8.l_length _).symm (by rw [S8.l_length]; decide)
      have c1 : ((0 : Nat) : Int) ≤ ((8 : Nat) : Int) := by decide
      have c2 : ((0 : Nat) : Int) = 0 := rfl
      have z8 : (0 : Int) ≤ ((8 : Nat) : Int) := by decide
      simp only [runA, runB, runC, runD, runE, runF, fieldE, storeE, ↓reduceIte, Nat.reduceLT, Nat.reduceLeDiff, Nat.reduceEqDiff, Nat.reduceAdd, Nat.reduceMul, Nat.reduceSub, reduceCtorEq, putAt, Nat.reduceBEq, buildE, List.replicate, Int.reduceLT, Int.reduceLE, Int.reduceToNat, mkE, mapSetE, w_add, w_and, w_or, w_xor, w_xorF, w_not, w_shl8, w_shl16, w_shl24, w_shr3, w_shr8, w_shr10, w_shr16, w_shr24, b_add, b_sub, b_mul, b_quo, b_rem, b_and, b_or, b_xor, b_andNot, b_eql, b_neq, b_lss, b_leq, b_gtr, b_geq, b_str, b_bool, u_neg, u_not, c_bw, c_wb, cellsW_length, cellsW_pure, cellsW_all, cellsE_W, backCells_W, cellsAt_W, cellPairs_W, cellsW_toPCs, cellsW_map, hN, hF, ty_3, ty_5, ty_88, ty_124, ty_125, ty_141, ty_144, ty_146, notIf, isEq, intOp, h1, hql, h83, hw, sliceE, boundE, z8, c1, c2, Int.le_refl, eq_self, true_or, bytes_length]
      simp only [runB, finC, finD, Option.isSome_some, Option.isSome_none, ↓reduceIte, Nat.reduceEqDiff, Nat.reduceAdd, Nat.reduceMul, forall_eq_or_imp, forall_eq, implies_true, Nat.reduceBEq, reduceCtorEq, false_implies, List.zip_cons_cons, List.zip_nil_left, List.zip_nil_right, Nat.reduceLeDiff, List.forall_mem_nil, rs_75, bytes_length, hsha]

def longOK (l : List (List UInt8)) : Prop := l.flatten.length ≤ 1099511627776 ∧ l.length ≤ 4611686018427387904
noncomputable def longC : Contract := mkC (α := List (List UInt8)) longOK (fun l => [.c (.sl (slices l))]) (fun _ => []) (fun l => ⟨[.pv (.c (.str (shaS l.flatten)))], []⟩)
theorem long_at (l : List (List UInt8)) (h : longOK l) : longC [.c (.sl (slices l))] [] = some ⟨[.pv (.c (.str (shaS l.flatten)))], []⟩ :=
  mkC_at (α := List (List UInt8)) l h (fun y _ h1 _ => by
    simp at h1
    rw [slices_inj h1])
set_option maxHeartbeats 1000000 in
theorem long_sound (hΓ : SoundG Try.prog Γ) (h75 : Γ 76 = concatC) (h74 : Γ 75 = sumC) : SoundC Try.prog 50 longC := by
  refine sound_fn Try.func50 (by kernel_rfl) rfl rfl ?_
  intro args objs r hr
  obtain ⟨l, ⟨hl1, hl2⟩, rfl, rfl, rfl⟩ := mkC_inv hr
  refine ⟨rfl, by show 1 ≤ _; decide, fun E hN hns hF => ?_⟩
  refine vc_sound hΓ mixed _ _ _ ?_
  have hN := hN.trans nt_50
  have h1 := concat_at l ⟨by omega, hl2⟩
  have h2 := sum_at l.flatten hl1
  simp only [runA, runB, runC, runD, runE, runF, fieldE, storeE, binE, ↓reduceIte, Nat.reduceLT, Nat.reduceLeDiff, Nat.reduceEqDiff, Nat.reduceAdd, Nat.reduceMul, Nat.reduceSub, reduceCtorEq, putAt, unE, Nat.reduceBEq, convE, buildE, List.replicate, Int.reduceLT, Int.reduceLE, Int.reduceToNat, mkE, mapSetE, hN, hF, ty_5, ty_9, ty_88, ty_111, notIf, isEq, h75, h74, h1, h2, bytes_length, bytesOf_bytes]
  simp only [runB, finC, finD, Option.isSome_some, Option.isSome_none, ↓reduceIte, Nat.reduceEqDiff, Nat.reduceAdd, Nat.reduceMul, forall_eq_or_imp, forall_eq, implies_true, Nat.reduceBEq, reduceCtorEq, false_implies, List.zip_cons_cons, List.zip_nil_left, List.zip_nil_right, Nat.reduceLeDiff, List.forall_mem_nil, rs_50]



variable {Γ : FuncId → Contract}

theorem bw_toNat (c : UInt8) : (bw c).toNat = c.toNat := by
  have := c.toNat_lt
  unfold bw
  rw [BitVec.toNat_ofNat]
  omega
theorem or_step (x : W32) (hx : x.toNat < 16777216) (c : UInt8) : ((x <<< 8) ||| bw c).toNat = x.toNat * 256 + c.toNat := by
  have hc := c.toNat_lt
  rw [BitVec.toNat_or, bw_toNat, BitVec.toNat_shiftLeft]
  have h1 : x.toNat <<< 8 % 2 ^ 32 = x.toNat <<< 8 := by rw [Nat.shiftLeft_eq]; omega
  rw [h1, ← Nat.shiftLeft_add_eq_or_of_lt (by omega), Nat.shiftLeft_eq]
theorem be4 (a b c d : UInt8) : ((bw a <<< 24 + bw b <<< 16) + bw c <<< 8) + bw d = (((((0 : W32) <<< 8 ||| bw a) <<< 8 ||| bw b) <<< 8 ||| bw c) <<< 8 ||| bw d) := by
  have ha := a.toNat_lt; have hb := b.toNat_lt; have hc := c.toNat_lt; have hd := d.toNat_lt
  have z : (0 : W32).toNat = 0 := rfl
  have s1 := or_step 0 (by rw [z]; decide) a
  have s2 := or_step ((0 : W32) <<< 8 ||| bw a) (by rw [s1, z]; omega) b
  have s3 := or_step (((0 : W32) <<< 8 ||| bw a) <<< 8 ||| bw b) (by rw [s2, s1, z]; omega) c
  have s4 := or_step ((((0 : W32) <<< 8 ||| bw a) <<< 8 ||| bw b) <<< 8 ||| bw c) (by rw [s3, s2, s1, z]; omega) d
  apply BitVec.eq_of_toNat_eq
  rw [s4, s3, s2, s1, z]
  simp only [BitVec.toNat_add, BitVec.toNat_shiftLeft, bw_toNat, Nat.shiftLeft_eq]
  omega
theorem wordS_full (b : List UInt8) (n : Nat) (h : n + 3 < b.length) : wordS b (n : Int) = ((bw (b.getD n 0) <<< 24 + bw (b.getD (n + 1) 0) <<< 16) + bw (b.getD (n + 2) 0) <<< 8) + bw (b.getD (n + 3) 0) := by
  rw [be4]
  unfold wordS
  simp only [wordTo]
  rw [if_pos ⟨by omega, by omega⟩, if_pos ⟨by omega, by omega⟩, if_pos ⟨by omega, by omega⟩, if_pos ⟨by omega, by omega⟩]
  simp only [Int.toNat_natCast, Nat.add_zero]

set_option maxRecDepth 100000 in
set_option maxHeartbeats 1000000 in
theorem refPad_sound (hΓ : SoundG Try.prog Γ) (h54 : Γ 107 = putC) : SoundC Try.prog 86 padC := by
  refine sound_fn Try.func86 (by kernel_rfl) rfl rfl ?_
  intro args objs r hr
  obtain ⟨b, hl, rfl, rfl, rfl⟩ := mkC_inv hr
  refine ⟨rfl, by show 1 ≤ _; decide, fun E hN hns hF => ?_⟩
  refine vc_sound hΓ mixed _ _ _ ?_
  have hN := hN.trans nt_86
  obtain ⟨k, hk⟩ : ∃ k, k = (119 - b.length % 64) % 64 := ⟨_, rfl⟩
  have hk64 : k < 64 := by omega
  have hz := rowsOK_bytes
  have hL0 : b.length ≤ 140737488355328 := by omega
  have hL1 : b.length + 1 ≤ 140737488355328 := by omega
  have h128 : [[PC.int .u8 128]] = bytes [128] := rfl
  simp only [runA, runB, runC, runD, runE, runF, fieldE, storeE, binE, ↓reduceIte, Nat.reduceLT, Nat.reduceLeDiff, Nat.reduceEqDiff, Nat.reduceAdd, Nat.reduceMul, Nat.reduceSub, reduceCtorEq, putAt, unE, Nat.reduceBEq, convE, buildE, List.replicate, Int.reduceLT, Int.reduceLE, Int.reduceToNat, mkE, mapSetE, hN, hF, ty_3, ty_5, ty_88, notIf, isEq, hz, hL0, hL1, h128, bytes_length, bytes_app]
  refine AWP.loop (fun c s => ∃ j : Nat, j ≤ k ∧ c = k - j ∧ s = ⟨[(0, .c (.sl (bytes b))), (3, .own 385 1 (bytes ((b ++ [128]) ++ List.replicate j 0)))], [(385, .row 1 ((b ++ [128]) ++ List.replicate j 0).length)]⟩) ⟨k, _, ?w, 0, Nat.zero_le _, rfl, rfl⟩ ?r
  case w =>
    rw [hns]
    simp only [runB, finC, finD, AS.get, AS.mem, false_implies, implies_true, ↓reduceIte, Nat.reduceEqDiff, Option.isSome_some, Option.isSome_none, forall_eq_or_imp, forall_eq, reduceCtorEq, Nat.reduceAdd, Nat.reduceMul, List.zip_cons_cons, List.zip_nil_left, List.zip_nil_right, List.forall_mem_nil]
    first | done | simp
  case r =>
    rintro c s ⟨j, hj, rfl, rfl⟩
    refine vc_sound hΓ mixed _ _ _ ?_
    have hlen : ((b ++ [128]) ++ List.replicate j (0 : UInt8)).length = b.length + 1 + j := by simp; omega
    have e1 : (((b.length + 1 + j : Nat) : Int).tmod 64) = (((b.length + 1 + j) % 64 : Nat) : Int) := rfl
    by_cases hlt : j < k
    · have h1 : ((((b.length + 1 + j) % 64 : Nat) : Int) != 56) = true := by simp; omega
      have h0 : [[PC.int .u8 0]] = bytes [0] := rfl
      have hL : b.length + 1 + j + 1 ≤ 140737488355328 := by omega
      have happ : ((b ++ [128]) ++ List.replicate j (0 : UInt8)) ++ [0] = (b ++ [128]) ++ List.replicate (j + 1) 0 := by rw [List.append_assoc, List.replicate_succ']
      generalize hq : (b ++ [128]) ++ List.replicate j (0 : UInt8) = q at hlen happ ⊢
      simp only [runA, runB, runC, runD, runE, runF, fieldE, storeE, binE, ↓reduceIte, Nat.reduceLT, Nat.reduceLeDiff, Nat.reduceEqDiff, Nat.reduceAdd, Nat.reduceMul, Nat.reduceSub, reduceCtorEq, putAt, unE, Nat.reduceBEq, convE, buildE, List.replicate, Int.reduceLT, Int.reduceLE, Int.reduceToNat, mkE, mapSetE, hN, hF, ty_3, ty_5, ty_88, notIf, isEq, hlen, e1, h1, h0, hz, hL, bytes_length, bytes_app, happ, Int.reduceEq]
      refine ⟨k - (j + 1), _, by omega, ?_, j + 1, by omega, rfl, rfl⟩
      rw [hns]
      have hlen' : ((b ++ [128]) ++ List.replicate (j + 1) (0 : UInt8)).length = b.length + 1 + j + 1 := by simp; omega
      simp only [runB, finC, finD, AS.get, AS.mem, false_implies, implies_true, ↓reduceIte, Nat.reduceEqDiff, Option.isSome_some, Option.isSome_none, forall_eq_or_imp, forall_eq, reduceCtorEq, Nat.reduceAdd, Nat.reduceMul, List.zip_cons_cons, List.zip_nil_left, List.zip_nil_right, List.forall_mem_nil, hlen']
      simp [List.replicate_succ, Nat.add_assoc]
    · obtain rfl : j = k := by omega
      have h1 : ((((b.length + 1 + j) % 64 : Nat) : Int) != 56) = false := by simp; omega
      have e4 : IntKind.i64.wrap (8 * (b.length : Int)) = 8 * (b.length : Int) := wrapI (by omega)
      have hpl : (putB (8 * (b.length : Int)) 8).length = 8 := by rw [putB_length]; rfl
      have hL : b.length + 1 + j + 8 ≤ 140737488355328 := by omega
      have hpad : ((b ++ [128]) ++ List.replicate j (0 : UInt8)) ++ putB (8 * (b.length : Int)) 8 = padS b := by rw [padS_eq, hk]; simp
      generalize hq : (b ++ [128]) ++ List.replicate j (0 : UInt8) = q at hlen hpad ⊢
      simp only [runA, runB, runC, runD, runE, runF, fieldE, storeE, binE, ↓reduceIte, Nat.reduceLT, Nat.reduceLeDiff, Nat.reduceEqDiff, Nat.reduceAdd, Nat.reduceMul, Nat.reduceSub, reduceCtorEq, putAt, unE, Nat.reduceBEq, convE, buildE, List.replicate, Int.reduceLT, Int.reduceLE, Int.reduceToNat, mkE, mapSetE, hN, hF, ty_3, ty_5, ty_88, notIf, isEq, hlen, e1, e4, h1, hz, hL, hpl, h54, putC, bytes_length, bytes_app, hpad, Int.reduceEq]
      simp only [runB, finC, finD, Option.isSome_some, Option.isSome_none, ↓reduceIte, Nat.reduceEqDiff, Nat.reduceAdd, Nat.reduceMul, forall_eq_or_imp, forall_eq, implies_true, Nat.reduceBEq, reduceCtorEq, false_implies, List.zip_cons_cons, List.zip_nil_left, List.zip_nil_right, Nat.reduceLeDiff, List.forall_mem_nil, rs_86, bytes_length]
      first | done | (rw [← hpad]; simp [hlen, hpl])


variable {Γ : FuncId → Contract}

theorem addS_comm (v s : S8) : addS v s = addS s v := by
  unfold addS
  simp only [BitVec.add_comm]

theorem chunk_get (p : List UInt8) (i j : Nat) (hj : j < 64) : (chunk p i).getD j 0 = p.getD (64 * i + j) 0 := by
  unfold chunk
  rw [List.getD_eq_getElem?_getD, List.getD_eq_getElem?_getD, List.getElem?_take, if_pos hj, List.getElem?_drop]
theorem build8r (a b c d e f g h : PC) : buildE Try.prog 127 [(0, .c a), (1, .c b), (2, .c c), (3, .c d), (4, .c e), (5, .c f), (6, .c g), (7, .c h)] = some [.c a, .c b, .c c, .c d, .c e, .c f, .c g, .c h] := by kernel_rfl
theorem H0_cells : [AV.c (PC.int .u32 1779033703), .c (.int .u32 3144134277), .c (.int .u32 1013904242), .c (.int .u32 2773480762), .c (.int .u32 1359893119), .c (.int .u32 2600822924), .c (.int .u32 528734635), .c (.int .u32 1541459225)] = cellsW H0.l := by kernel_rfl

set_option maxRecDepth 100000 in
set_option maxHeartbeats 1000000 in
theorem refSha_sound (hΓ : SoundG Try.prog Γ) (h76 : Γ 85 = kC) (h77 : Γ 86 = padC) (h78 : Γ 87 = turnC) : SoundC Try.prog 58 sumC := by
  refine sound_fnA ⟨[], [(12, .tidy [3, 4, 5, 6, 7, 8]), (13, .tidy [3, 4, 5, 6, 7, 8, 9, 10]), (14, .tidy [3, 4, 5, 6, 7, 8]), (19, .tidy [3, 4, 5, 6, 7, 11, 12, 13, 14]), (20, .tidy [3, 4, 5, 6, 7, 11, 12, 13, 15]), (21, .tidy [3, 4, 5, 6, 7, 11, 12, 15, 16]), (22, .tidy [3, 4, 5, 6, 7, 11, 12])]⟩ Try.func58 (by kernel_rfl) rfl rfl ?_
  intro args objs r hr
  obtain ⟨b, hl, rfl, rfl, rfl⟩ := mkC_inv hr
  refine ⟨rfl, by show 1 ≤ _; decide, fun E hN hns hF => ?_⟩
  refine vc_sound hΓ mixed _ _ _ ?_
  have hN := hN.trans nt_58
  have hp := pad_at b hl
  obtain ⟨hp64, hpl⟩ := padS_length b
  have hsha : shaS b = octsOf (stS (padS b) ((padS b).length / 64)).l := rfl
  generalize padS b = p at hp hp64 hpl hsha
  obtain ⟨n, hn⟩ : ∃ n, p.length = 64 * n := ⟨p.length / 64, by omega⟩
  rw [show p.length / 64 = n from by omega] at hsha
  have q1 : putAt (cellsW (zerosW 64)) 0 (cellsW kS) = cellsW kS := cellsW_all_put (by rw [zerosW_length, kS_length])
  have q2 : putAt [AV.c (PC.int .u32 0), .c (.int .u32 0), .c (.int .u32 0), .c (.int .u32 0), .c (.int .u32 0), .c (.int .u32 0), .c (.int .u32 0), .c (.int .u32 0)] 0 (cellsW H0.l) = cellsW H0.l := cellsW_all_put (l := zerosW 8) ((S8.l_length H0).trans (zerosW_length 8).symm)
  have q0 : ∀ s : S8, putAt [AV.c (PC.int .u32 0), .c (.int .u32 0), .c (.int .u32 0), .c (.int .u32 0), .c (.int .u32 0), .c (.int .u32 0), .c (.int .u32 0), .c (.int .u32 0)] 0 (cellsW s.l) = cellsW s.l := fun s => cellsW_all_put (l := zerosW 8) ((S8.l_length s).trans (zerosW_length 8).symm)
  simp only [runA, runB, runC, runD, runE, runF, fieldE, storeE, ↓reduceIte, Nat.reduceLT, Nat.reduceLeDiff, Nat.reduceEqDiff, Nat.reduceAdd, Nat.reduceMul, Nat.reduceSub, reduceCtorEq, Nat.reduceBEq, List.replicate, Int.reduceLT, Int.reduceLE, Int.reduceToNat, mkE, mapSetE, w_add, w_and, w_or, w_xor, w_xorF, w_not, w_shl8, w_shl16, w_shl24, w_shr3, w_shr8, w_shr10, w_shr16, w_shr24, b_add, b_sub, b_mul, b_quo, b_rem, b_and, b_or, b_xor, b_andNot, b_eql, b_neq, b_lss, b_leq, b_gtr, b_geq, b_str, b_bool, u_neg, u_not, c_bw, c_wb, cellsW_length, cellsW_pure, cellsW_all, cellsE_W, backCells_W, cellsAt_W, cellPairs_W, cellsW_toPCs, cellsW_map, hN, hF, ty_3, ty_5, ty_88, ty_124, ty_125, ty_127, ty_128, notIf, isEq, zrep_W, h76, h77, kC, build8r, H0_cells, hp, q1, q2, kS_length, S8.l_length, zerosW_length, bytes_length]
  refine AWP.loop (fun c s => ∃ i : Nat, i ≤ n ∧ c = n - i ∧ s = ⟨[(3, .ptr 192 0), (4, .ptr 256 0), (5, .c (.sl (bytes p))), (6, .c (.int .i64 ((64 * i : Nat) : Int)))], [(192, .obj (cellsW kS) false), (256, .obj (cellsW (stS p i).l) false)]⟩) ⟨n, _, ?w, 0, Nat.zero_le _, rfl, rfl⟩ ?r
  case w =>
    rw [hns]
    simp only [runB, finC, finD, AS.get, AS.mem, false_implies, implies_true, ↓reduceIte, Nat.reduceEqDiff, Option.isSome_some, Option.isSome_none, forall_eq_or_imp, forall_eq, reduceCtorEq, Nat.reduceAdd, Nat.reduceMul, List.zip_cons_cons, List.zip_nil_left, List.zip_nil_right, List.forall_mem_nil, cellsW_amds, stS]
    first | done | simp
  case r =>
    rintro c s ⟨i, hi, rfl, rfl⟩
    refine vc_sound hΓ mixed _ _ _ ?_
    by_cases hlt : i < n
    · have h1 : decide (((64 * i : Nat) : Int) < ((64 * n : Nat) : Int)) = true := by simp; omega
      have hss : stS p (i + 1) = addS (stS p i) (rounds (stS p i) (wS (chunk p i) 64) 64) := by
        show blockS _ _ = _
        unfold blockS
        rw [addS_comm]
      have e64 : IntKind.i64.wrap (((64 * i : Nat) : Int) + 64) = ((64 * (i + 1) : Nat) : Int) := by rw [wrapI (by omega)]; omega
      generalize stS p i = st at hss ⊢
      generalize hst' : stS p (i + 1) = st' at hss ⊢
      simp only [runA, runB, runC, runD, runE, runF, fieldE, storeE, ↓reduceIte, Nat.reduceLT, Nat.reduceLeDiff, Nat.reduceEqDiff, Nat.reduceAdd, Nat.reduceMul, Nat.reduceSub, reduceCtorEq, Nat.reduceBEq, List.replicate, Int.reduceLT, Int.reduceLE, Int.reduceToNat, mkE, mapSetE, w_add, w_and, w_or, w_xor, w_xorF, w_not, w_shl8, w_shl16, w_shl24, w_shr3, w_shr8, w_shr10, w_shr16, w_shr24, b_add, b_sub, b_mul, b_quo, b_rem, b_and, b_or, b_xor, b_andNot, b_eql, b_neq, b_lss, b_leq, b_gtr, b_geq, b_str, b_bool, u_neg, u_not, c_bw, c_wb, cellsW_length, cellsW_pure, cellsW_all, cellsE_W, backCells_W, cellsAt_W, cellPairs_W, cellsW_toPCs, cellsW_map, hN, hF, ty_3, ty_5, ty_88, ty_124, ty_125, ty_127, ty_128, notIf, isEq, zrep_W, intOp, h1, hn, bytes_length]
      -- the words
      refine AWP.loop (fun c s => ∃ t : Nat, t ≤ 64 ∧ c = 64 - t ∧ s = ⟨[(3, .ptr 192 0), (4, .ptr 256 0), (5, .c (.sl (bytes p))), (6, .c (.int .i64 ((64 * i : Nat) : Int))), (7, .ptr 448 0), (8, .c (.int .i64 (t : Int)))], [(192, .obj (cellsW kS) false), (256, .obj (cellsW st.l) false), (448, .obj (cellsW (wCells (chunk p i) t)) false)]⟩) ⟨64, _, ?w1, 0, Nat.zero_le _, rfl, rfl⟩ ?r1
      case w1 =>
        rw [hns]
        simp only [runB, finC, finD, AS.get, AS.mem, false_implies, implies_true, ↓reduceIte, Nat.reduceEqDiff, Option.isSome_some, Option.isSome_none, forall_eq_or_imp, forall_eq, reduceCtorEq, Nat.reduceAdd, Nat.reduceMul, List.zip_cons_cons, List.zip_nil_left, List.zip_nil_right, List.forall_mem_nil, cellsW_amds]
        first | done | (simp [wCells, wS, cellsW_amds])
      case r1 =>
        rintro c s ⟨t, ht, rfl, rfl⟩
        refine vc_sound hΓ mixed _ _ _ ?_
        have hcl := wCells_length (chunk p i) t ht
        by_cases htl : t < 64
        · have h2 : decide ((t : Int) < 64) = true := by simp; omega
          have e1 : IntKind.i64.wrap ((t : Int) + 1) = (t : Int) + 1 := wrapI (by omega)
          have l0 : (t : Int) < ((64 : Nat) : Int) := by omega
          have e4 : t + 1 ≤ 64 := by omega
          have hp1 := cellsW_put (l := wCells (chunk p i) t) (i := t) (nextW (chunk p i) (wS (chunk p i) t) t) (by omega)
          have hq := wCells_set (chunk p i) t htl
          by_cases h16 : t < 16
          · have h3 : decide ((t : Int) < 16) = true := by simp; omega
            have a1 : IntKind.i64.wrap (4 * (t : Int)) = ((4 * t : Nat) : Int) := by rw [wrapI (by omega)]; omega
            have a2 : IntKind.i64.wrap (((64 * i : Nat) : Int) + ((4 * t : Nat) : Int)) = ((64 * i + 4 * t : Nat) : Int) := by rw [wrapI (by omega)]; omega
            have a3 : ∀ k : Nat, k ≤ 3 → IntKind.i64.wrap (((64 * i + 4 * t : Nat) : Int) + (k : Int)) = ((64 * i + 4 * t + k : Nat) : Int) := fun k hk => by rw [wrapI (by omega)]; omega
            have a31 : IntKind.i64.wrap (((64 * i + 4 * t : Nat) : Int) + 1) = ((64 * i + 4 * t + 1 : Nat) : Int) := a3 1 (by decide)
            have a32 : IntKind.i64.wrap (((64 * i + 4 * t : Nat) : Int) + 2) = ((64 * i + 4 * t + 2 : Nat) : Int) := a3 2 (by decide)
            have a33 : IntKind.i64.wrap (((64 * i + 4 * t : Nat) : Int) + 3) = ((64 * i + 4 * t + 3 : Nat) : Int) := a3 3 (by decide)
            have gb : ∀ k : Nat, k ≤ 3 → (bytes p)[64 * i + 4 * t + k]? = some [PC.int .u8 (((chunk p i).getD (4 * t + k) 0).toNat : Int)] := fun k hk => by
              rw [chunk_get p i (4 * t + k) (by omega), ← Nat.add_assoc, List.getD_eq_getElem?_getD]
              have : 64 * i + 4 * t + k < p.length := by omega
              simp [bytes, this]
            have gb0 := gb 0 (by decide)
            have gb1 := gb 1 (by decide)
            have gb2 := gb 2 (by decide)
            have gb3 := gb 3 (by decide)
            rw [Nat.add_zero, Nat.add_zero] at gb0
            have hv : ((bw ((chunk p i).getD (4 * t) 0) <<< 24 + bw ((chunk p i).getD (4 * t + 1) 0) <<< 16) + bw ((chunk p i).getD (4 * t + 2) 0) <<< 8) + bw ((chunk p i).getD (4 * t + 3) 0) = nextW (chunk p i) (wS (chunk p i) t) t := by
              have hcl : (chunk p i).length = 64 := by unfold chunk; simp; omega
              rw [nextW, if_pos h16, show (4 * (t : Int)) = ((4 * t : Nat) : Int) from by omega, wordS_full _ _ (by omega)]
            simp only [runA, runB, runC, runD, runE, runF, fieldE, storeE, ↓reduceIte, Nat.reduceLT, Nat.reduceLeDiff, Nat.reduceEqDiff, Nat.reduceAdd, Nat.reduceMul, Nat.reduceSub, reduceCtorEq, Nat.reduceBEq, List.replicate, Int.reduceLT, Int.reduceLE, Int.reduceToNat, mkE, mapSetE, w_add, w_and, w_or, w_xor, w_xorF, w_not, w_shl8, w_shl16, w_shl24, w_shr3, w_shr8, w_shr10, w_shr16, w_shr24, b_add, b_sub, b_mul, b_quo, b_rem, b_and, b_or, b_xor, b_andNot, b_eql, b_neq, b_lss, b_leq, b_gtr, b_geq, b_str, b_bool, u_neg, u_not, c_bw, c_wb, cellsW_length, cellsW_pure, cellsW_all, cellsE_W, backCells_W, cellsAt_W, cellPairs_W, cellsW_toPCs, cellsW_map, hN, hF, ty_3, ty_5, ty_88, ty_124, ty_125, ty_127, ty_128, notIf, isEq, intOp, h2, h3, e1, a1, a2, a31, a32, a33, gb0, gb1, gb2, gb3, l0, hcl, e4, hv, hp1, hq, bytes_length]
            refine drawnP_intro (by kernel_rfl) (by kernel_rfl) ?_
            simp only [runA, runB, runC, runD, runE, runF, fieldE, storeE, ↓reduceIte, Nat.reduceLT, Nat.reduceLeDiff, Nat.reduceEqDiff, Nat.reduceAdd, Nat.reduceMul, Nat.reduceSub, reduceCtorEq, Nat.reduceBEq, List.replicate, Int.reduceLT, Int.reduceLE, Int.reduceToNat, mkE, mapSetE, w_add, w_and, w_or, w_xor, w_xorF, w_not, w_shl8, w_shl16, w_shl24, w_shr3, w_shr8, w_shr10, w_shr16, w_shr24, b_add, b_sub, b_mul, b_quo, b_rem, b_and, b_or, b_xor, b_andNot, b_eql, b_neq, b_lss, b_leq, b_gtr, b_geq, b_str, b_bool, u_neg, u_not, c_bw, c_wb, cellsW_length, cellsW_pure, cellsW_all, cellsE_W, backCells_W, cellsAt_W, cellPairs_W, cellsW_toPCs, cellsW_map, hN, hF, ty_3, ty_5, ty_88, ty_124, ty_125, ty_127, ty_128, notIf, isEq, intOp, e1]
            refine ⟨64 - (t + 1), _, by omega, ?_, t + 1, by omega, rfl, rfl⟩
            rw [hns]
            simp only [runB, finC, finD, AS.get, AS.mem, false_implies, implies_true, ↓reduceIte, Nat.reduceEqDiff, Option.isSome_some, Option.isSome_none, forall_eq_or_imp, forall_eq, reduceCtorEq, Nat.reduceAdd, Nat.reduceMul, List.zip_cons_cons, List.zip_nil_left, List.zip_nil_right, List.forall_mem_nil, cellsW_amds]
            first | done | simp
          · have h3 : decide ((t : Int) < 16) = false := by simp; omega
            have a15 : IntKind.i64.wrap ((t : Int) - 15) = ((t - 15 : Nat) : Int) := by rw [wrapI (by omega)]; omega
            have a2 : IntKind.i64.wrap ((t : Int) - 2) = ((t - 2 : Nat) : Int) := by rw [wrapI (by omega)]; omega
            have a7 : IntKind.i64.wrap ((t : Int) - 7) = ((t - 7 : Nat) : Int) := by rw [wrapI (by omega)]; omega
            have a16 : IntKind.i64.wrap ((t : Int) - 16) = ((t - 16 : Nat) : Int) := by rw [wrapI (by omega)]; omega
            have l15 : ((t - 15 : Nat) : Int) < ((64 : Nat) : Int) := by omega
            have l2 : ((t - 2 : Nat) : Int) < ((64 : Nat) : Int) := by omega
            have l7 : ((t - 7 : Nat) : Int) < ((64 : Nat) : Int) := by omega
            have l16 : ((t - 16 : Nat) : Int) < ((64 : Nat) : Int) := by omega
            have g15 := cellsW_get (wCells_get (chunk p i) t (t - 15) (by omega))
            have g2 := cellsW_get (wCells_get (chunk p i) t (t - 2) (by omega))
            have g7 := cellsW_get (wCells_get (chunk p i) t (t - 7) (by omega))
            have g16 := cellsW_get (wCells_get (chunk p i) t (t - 16) (by omega))
            have r7 : ∀ x, turnC [.c (wC x), .c (.int .u64 7)] [] = _ := fun x => turn_at x 7 (by decide) (by decide)
            have r18 : ∀ x, turnC [.c (wC x), .c (.int .u64 18)] [] = _ := fun x => turn_at x 18 (by decide) (by decide)
            have r17 : ∀ x, turnC [.c (wC x), .c (.int .u64 17)] [] = _ := fun x => turn_at x 17 (by decide) (by decide)
            have r19 : ∀ x, turnC [.c (wC x), .c (.int .u64 19)] [] = _ := fun x => turn_at x 19 (by decide) (by decide)
            have hnw : (((rotr ((wS (chunk p i) t).getD (t - 2) 0) 17 ^^^ rotr ((wS (chunk p i) t).getD (t - 2) 0) 19) ^^^ ((wS (chunk p i) t).getD (t - 2) 0 >>> 10)) + (wS (chunk p i) t).getD (t - 7) 0 + ((rotr ((wS (chunk p i) t).getD (t - 15) 0) 7 ^^^ rotr ((wS (chunk p i) t).getD (t - 15) 0) 18) ^^^ ((wS (chunk p i) t).getD (t - 15) 0 >>> 3))) + (wS (chunk p i) t).getD (t - 16) 0 = nextW (chunk p i) (wS (chunk p i) t) t := by
              rw [nextW, if_neg (by omega)]
            simp only [runA, runB, runC, runD, runE, runF, fieldE, storeE, ↓reduceIte, Nat.reduceLT, Nat.reduceLeDiff, Nat.reduceEqDiff, Nat.reduceAdd, Nat.reduceMul, Nat.reduceSub, reduceCtorEq, Nat.reduceBEq, List.replicate, Int.reduceLT, Int.reduceLE, Int.reduceToNat, mkE, mapSetE, w_add, w_and, w_or, w_xor, w_xorF, w_not, w_shl8, w_shl16, w_shl24, w_shr3, w_shr8, w_shr10, w_shr16, w_shr24, b_add, b_sub, b_mul, b_quo, b_rem, b_and, b_or, b_xor, b_andNot, b_eql, b_neq, b_lss, b_leq, b_gtr, b_geq, b_str, b_bool, u_neg, u_not, c_bw, c_wb, cellsW_length, cellsW_pure, cellsW_all, cellsE_W, backCells_W, cellsAt_W, cellPairs_W, cellsW_toPCs, cellsW_map, hN, hF, ty_3, ty_5, ty_88, ty_124, ty_125, ty_127, ty_128, notIf, isEq, intOp, h2, h3, e1, a15, a2, a7, a16, l0, l15, l2, l7, l16, g15, g2, g7, g16, r7, r18, r17, r19, h78, hcl, e4, hnw, hp1, hq]
            refine drawnP_intro (by kernel_rfl) (by kernel_rfl) ?_
            simp only [runA, runB, runC, runD, runE, runF, fieldE, storeE, ↓reduceIte, Nat.reduceLT, Nat.reduceLeDiff, Nat.reduceEqDiff, Nat.reduceAdd, Nat.reduceMul, Nat.reduceSub, reduceCtorEq, Nat.reduceBEq, List.replicate, Int.reduceLT, Int.reduceLE, Int.reduceToNat, mkE, mapSetE, w_add, w_and, w_or, w_xor, w_xorF, w_not, w_shl8, w_shl16, w_shl24, w_shr3, w_shr8, w_shr10, w_shr16, w_shr24, b_add, b_sub, b_mul, b_quo, b_rem, b_and, b_or, b_xor, b_andNot, b_eql, b_neq, b_lss, b_leq, b_gtr, b_geq, b_str, b_bool, u_neg, u_not, c_bw, c_wb, cellsW_length, cellsW_pure, cellsW_all, cellsE_W, backCells_W, cellsAt_W, cellPairs_W, cellsW_toPCs, cellsW_map, hN, hF, ty_3, ty_5, ty_88, ty_124, ty_125, ty_127, ty_128, notIf, isEq, intOp, h2, h3, e1, a15, a2, a7, a16, l0, l15, l2, l7, l16, g15, g2, g7, g16, r7, r18, r17, r19, h78, hcl, e4, hnw, hp1, hq]
            refine drawnP_intro (by kernel_rfl) (by kernel_rfl) ?_
            simp only [runA, runB, runC, runD, runE, runF, fieldE, storeE, ↓reduceIte, Nat.reduceLT, Nat.reduceLeDiff, Nat.reduceEqDiff, Nat.reduceAdd, Nat.reduceMul, Nat.reduceSub, reduceCtorEq, Nat.reduceBEq, List.replicate, Int.reduceLT, Int.reduceLE, Int.reduceToNat, mkE, mapSetE, w_add, w_and, w_or, w_xor, w_xorF, w_not, w_shl8, w_shl16, w_shl24, w_shr3, w_shr8, w_shr10, w_shr16, w_shr24, b_add, b_sub, b_mul, b_quo, b_rem, b_and, b_or, b_xor, b_andNot, b_eql, b_neq, b_lss, b_leq, b_gtr, b_geq, b_str, b_bool, u_neg, u_not, c_bw, c_wb, cellsW_length, cellsW_pure, cellsW_all, cellsE_W, backCells_W, cellsAt_W, cellPairs_W, cellsW_toPCs, cellsW_map, hN, hF, ty_3, ty_5, ty_88, ty_124, ty_125, ty_127, ty_128, notIf, isEq, intOp, e1]
            refine ⟨64 - (t + 1), _, by omega, ?_, t + 1, by omega, rfl, rfl⟩
            rw [hns]
            simp only [runB, finC, finD, AS.get, AS.mem, false_implies, implies_true, ↓reduceIte, Nat.reduceEqDiff, Option.isSome_some, Option.isSome_none, forall_eq_or_imp, forall_eq, reduceCtorEq, Nat.reduceAdd, Nat.reduceMul, List.zip_cons_cons, List.zip_nil_left, List.zip_nil_right, List.forall_mem_nil, cellsW_amds]
            first | done | simp
        · have h2 : decide ((t : Int) < 64) = false := by simp; omega
          obtain rfl : t = 64 := by omega
          rw [wCells_end]
          have hwl := wS_length (chunk p i) 64
          generalize wS (chunk p i) 64 = W at hss hwl ⊢
          have q0 := q0 st
          have ht8 : (cellsW st.l).take 8 = cellsW st.l := cellsW_take (S8.l_length st).symm
          simp only [runA, runB, runC, runD, runE, runF, fieldE, storeE, ↓reduceIte, Nat.reduceLT, Nat.reduceLeDiff, Nat.reduceEqDiff, Nat.reduceAdd, Nat.reduceMul, Nat.reduceSub, reduceCtorEq, Nat.reduceBEq, List.replicate, Int.reduceLT, Int.reduceLE, Int.reduceToNat, mkE, mapSetE, w_add, w_and, w_or, w_xor, w_xorF, w_not, w_shl8, w_shl16, w_shl24, w_shr3, w_shr8, w_shr10, w_shr16, w_shr24, b_add, b_sub, b_mul, b_quo, b_rem, b_and, b_or, b_xor, b_andNot, b_eql, b_neq, b_lss, b_leq, b_gtr, b_geq, b_str, b_bool, u_neg, u_not, c_bw, c_wb, cellsW_length, cellsW_pure, cellsW_all, cellsE_W, backCells_W, cellsAt_W, cellPairs_W, cellsW_toPCs, cellsW_map, hN, hF, ty_3, ty_5, ty_88, ty_124, ty_125, ty_127, ty_128, notIf, isEq, intOp, h2, q0, ht8, S8.l_length]
          -- the rounds
          refine AWP.loop (fun c s => ∃ t : Nat, t ≤ 64 ∧ c = 64 - t ∧ s = ⟨[(3, .ptr 192 0), (4, .ptr 256 0), (5, .c (.sl (bytes p))), (6, .c (.int .i64 ((64 * i : Nat) : Int))), (7, .ptr 448 0), (11, .ptr 704 0), (12, .c (.int .i64 (t : Int)))], [(192, .obj (cellsW kS) false), (256, .obj (cellsW st.l) false), (448, .obj (cellsW W) false), (704, .obj (cellsW (rounds st W t).l) false)]⟩) ⟨64, _, ?w2, 0, Nat.zero_le _, rfl, rfl⟩ ?r2
          case w2 =>
            rw [hns]
            simp only [runB, finC, finD, AS.get, AS.mem, false_implies, implies_true, ↓reduceIte, Nat.reduceEqDiff, Option.isSome_some, Option.isSome_none, forall_eq_or_imp, forall_eq, reduceCtorEq, Nat.reduceAdd, Nat.reduceMul, List.zip_cons_cons, List.zip_nil_left, List.zip_nil_right, List.forall_mem_nil, cellsW_amds, rounds]
            first | done | simp
          case r2 =>
            rintro c s ⟨t, ht, rfl, rfl⟩
            refine vc_sound hΓ mixed _ _ _ ?_
            by_cases htl : t < 64
            · have h2 : decide ((t : Int) < 64) = true := by simp; omega
              have e1 : IntKind.i64.wrap ((t : Int) + 1) = (t : Int) + 1 := wrapI (by omega)
              have l0 : (t : Int) < ((64 : Nat) : Int) := by omega
              have gk := getW kS_length htl
              have gw := getW hwl htl
              have r6 : ∀ x, turnC [.c (wC x), .c (.int .u64 6)] [] = _ := fun x => turn_at x 6 (by decide) (by decide)
              have r11 : ∀ x, turnC [.c (wC x), .c (.int .u64 11)] [] = _ := fun x => turn_at x 11 (by decide) (by decide)
              have r25 : ∀ x, turnC [.c (wC x), .c (.int .u64 25)] [] = _ := fun x => turn_at x 25 (by decide) (by decide)
              have r2 : ∀ x, turnC [.c (wC x), .c (.int .u64 2)] [] = _ := fun x => turn_at x 2 (by decide) (by decide)
              have r13 : ∀ x, turnC [.c (wC x), .c (.int .u64 13)] [] = _ := fun x => turn_at x 13 (by decide) (by decide)
              have r22 : ∀ x, turnC [.c (wC x), .c (.int .u64 22)] [] = _ := fun x => turn_at x 22 (by decide) (by decide)
              have hsucc : rounds st W (t + 1) = rnd (rounds st W t) (kS.getD t 0) (W.getD t 0) := rfl
              generalize rounds st W t = v at hsucc ⊢
              obtain ⟨a, b1, c1, d, e, f, g, h⟩ := v
              have c8 : ((0 : Int) < ((8 : Nat) : Int)) ∧ ((1 : Int) < ((8 : Nat) : Int)) ∧ ((2 : Int) < ((8 : Nat) : Int)) ∧ ((3 : Int) < ((8 : Nat) : Int)) ∧ ((4 : Int) < ((8 : Nat) : Int)) ∧ ((5 : Int) < ((8 : Nat) : Int)) ∧ ((6 : Int) < ((8 : Nat) : Int)) ∧ ((7 : Int) < ((8 : Nat) : Int)) := by decide
              obtain ⟨k0, k1, k2, k3, k4, k5, k6, k7⟩ := c8
              simp only [S8.l, cellsW_cons, cellsW_nil]
              simp only [runA, runB, runC, runD, runE, runF, fieldE, storeE, ↓reduceIte, Nat.reduceLT, Nat.reduceLeDiff, Nat.reduceEqDiff, Nat.reduceAdd, Nat.reduceMul, Nat.reduceSub, reduceCtorEq, putAt, Nat.reduceBEq, buildE, List.replicate, Int.reduceLT, Int.reduceLE, Int.reduceToNat, mkE, mapSetE, w_add, w_and, w_or, w_xor, w_xorF, w_not, w_shl8, w_shl16, w_shl24, w_shr3, w_shr8, w_shr10, w_shr16, w_shr24, b_add, b_sub, b_mul, b_quo, b_rem, b_and, b_or, b_xor, b_andNot, b_eql, b_neq, b_lss, b_leq, b_gtr, b_geq, b_str, b_bool, u_neg, u_not, c_bw, c_wb, cellsW_length, cellsW_pure, cellsW_all, cellsE_W, backCells_W, cellsAt_W, cellPairs_W, cellsW_toPCs, cellsW_map, hN, hF, ty_3, ty_5, ty_88, ty_124, ty_125, ty_127, ty_128, notIf, isEq, intOp, h2, e1, l0, gk, gw, k0, k1, k2, k3, k4, k5, k6, k7]
              refine drawnP_intro (by kernel_rfl) (by kernel_rfl) ?_
              simp only [runA, runB, runC, runD, runE, runF, fieldE, storeE, ↓reduceIte, Nat.reduceLT, Nat.reduceLeDiff, Nat.reduceEqDiff, Nat.reduceAdd, Nat.reduceMul, Nat.reduceSub, reduceCtorEq, putAt, Nat.reduceBEq, buildE, List.replicate, Int.reduceLT, Int.reduceLE, Int.reduceToNat, mkE, mapSetE, w_add, w_and, w_or, w_xor, w_xorF, w_not, w_shl8, w_shl16, w_shl24, w_shr3, w_shr8, w_shr10, w_shr16, w_shr24, b_add, b_sub, b_mul, b_quo, b_rem, b_and, b_or, b_xor, b_andNot, b_eql, b_neq, b_lss, b_leq, b_gtr, b_geq, b_str, b_bool, u_neg, u_not, c_bw, c_wb, cellsW_length, cellsW_pure, cellsW_all, cellsE_W, backCells_W, cellsAt_W, cellPairs_W, cellsW_toPCs, cellsW_map, hN, hF, ty_3, ty_5, ty_88, ty_124, ty_125, ty_127, ty_128, notIf, isEq, intOp, h78, r6, r11, r25, r2, r13, r22, e1, l0, gk, gw, k0, k1, k2, k3, k4, k5, k6, k7]
              refine drawnP_intro (by kernel_rfl) (by kernel_rfl) ?_
              simp only [runA, runB, runC, runD, runE, runF, fieldE, storeE, ↓reduceIte, Nat.reduceLT, Nat.reduceLeDiff, Nat.reduceEqDiff, Nat.reduceAdd, Nat.reduceMul, Nat.reduceSub, reduceCtorEq, putAt, Nat.reduceBEq, buildE, List.replicate, Int.reduceLT, Int.reduceLE, Int.reduceToNat, mkE, mapSetE, w_add, w_and, w_or, w_xor, w_xorF, w_not, w_shl8, w_shl16, w_shl24, w_shr3, w_shr8, w_shr10, w_shr16, w_shr24, b_add, b_sub, b_mul, b_quo, b_rem, b_and, b_or, b_xor, b_andNot, b_eql, b_neq, b_lss, b_leq, b_gtr, b_geq, b_str, b_bool, u_neg, u_not, c_bw, c_wb, cellsW_length, cellsW_pure, cellsW_all, cellsE_W, backCells_W, cellsAt_W, cellPairs_W, cellsW_toPCs, cellsW_map, hN, hF, ty_3, ty_5, ty_88, ty_124, ty_125, ty_127, ty_128, notIf, isEq, intOp, h78, r6, r11, r25, r2, r13, r22, e1, l0, gk, gw, k0, k1, k2, k3, k4, k5, k6, k7]
              refine drawnP_intro (by kernel_rfl) (by kernel_rfl) ?_
              simp only [runA, runB, runC, runD, runE, runF, fieldE, storeE, ↓reduceIte, Nat.reduceLT, Nat.reduceLeDiff, Nat.reduceEqDiff, Nat.reduceAdd, Nat.reduceMul, Nat.reduceSub, reduceCtorEq, Nat.reduceBEq, List.replicate, Int.reduceLT, Int.reduceLE, Int.reduceToNat, mkE, mapSetE, w_add, w_and, w_or, w_xor, w_xorF, w_not, w_shl8, w_shl16, w_shl24, w_shr3, w_shr8, w_shr10, w_shr16, w_shr24, b_add, b_sub, b_mul, b_quo, b_rem, b_and, b_or, b_xor, b_andNot, b_eql, b_neq, b_lss, b_leq, b_gtr, b_geq, b_str, b_bool, u_neg, u_not, c_bw, c_wb, cellsW_length, cellsW_pure, cellsW_all, cellsE_W, backCells_W, cellsAt_W, cellPairs_W, cellsW_toPCs, cellsW_map, hN, hF, ty_3, ty_5, ty_88, ty_124, ty_125, ty_127, ty_128, notIf, isEq, intOp, build8r, put8, e1, l0, gk, gw, k0, k1, k2, k3, k4, k5, k6, k7]
              refine ⟨64 - (t + 1), _, by omega, ?_, t + 1, by omega, rfl, rfl⟩
              rw [hns, hsucc]
              simp only [runB, finC, finD, AS.get, AS.mem, false_implies, implies_true, ↓reduceIte, Nat.reduceEqDiff, Option.isSome_some, Option.isSome_none, forall_eq_or_imp, forall_eq, reduceCtorEq, Nat.reduceAdd, Nat.reduceMul, List.zip_cons_cons, List.zip_nil_left, List.zip_nil_right, List.forall_mem_nil, cellsW_amds, S8.l, rnd, cellsW_cons, cellsW_nil]
              first | done | simp
            · have h2 : decide ((t : Int) < 64) = false := by simp; omega
              obtain rfl : t = 64 := by omega
              generalize rounds st W 64 = v at hss ⊢
              simp only [runA, runB, runC, runD, runE, runF, fieldE, storeE, ↓reduceIte, Nat.reduceLT, Nat.reduceLeDiff, Nat.reduceEqDiff, Nat.reduceAdd, Nat.reduceMul, Nat.reduceSub, reduceCtorEq, putAt, Nat.reduceBEq, buildE, List.replicate, Int.reduceLT, Int.reduceLE, Int.reduceToNat, mkE, mapSetE, w_add, w_and, w_or, w_xor, w_xorF, w_not, w_shl8, w_shl16, w_shl24, w_shr3, w_shr8, w_shr10, w_shr16, w_shr24, b_add, b_sub, b_mul, b_quo, b_rem, b_and, b_or, b_xor, b_andNot, b_eql, b_neq, b_lss, b_leq, b_gtr, b_geq, b_str, b_bool, u_neg, u_not, c_bw, c_wb, cellsW_length, cellsW_pure, cellsW_all, cellsE_W, backCells_W, cellsAt_W, cellPairs_W, cellsW_toPCs, cellsW_map, hN, hF, ty_3, ty_5, ty_88, ty_124, ty_125, ty_127, ty_128, notIf, isEq, intOp, h2]
              -- the sum of both
              refine AWP.loop (fun c s => ∃ t : Nat, t ≤ 8 ∧ c = 8 - t ∧ s = ⟨[(3, .ptr 192 0), (4, .ptr 256 0), (5, .c (.sl (bytes p))), (6, .c (.int .i64 ((64 * i : Nat) : Int))), (11, .ptr 704 0), (17, .c (.int .i64 (t : Int)))], [(192, .obj (cellsW kS) false), (256, .obj (cellsW (sumTo st.l v.l t)) false), (704, .obj (cellsW v.l) false)]⟩) ⟨8, _, ?w3, 0, Nat.zero_le _, rfl, rfl⟩ ?r3
              case w3 =>
                rw [hns]
                simp only [runB, finC, finD, AS.get, AS.mem, false_implies, implies_true, ↓reduceIte, Nat.reduceEqDiff, Option.isSome_some, Option.isSome_none, forall_eq_or_imp, forall_eq, reduceCtorEq, Nat.reduceAdd, Nat.reduceMul, List.zip_cons_cons, List.zip_nil_left, List.zip_nil_right, List.forall_mem_nil, cellsW_amds, sumTo, List.take_zero, List.drop_zero, List.nil_append]
                first | done | simp
              case r3 =>
                rintro c s ⟨t, ht, rfl, rfl⟩
                refine vc_sound hΓ mixed _ _ _ ?_
                have hcl := sumTo_length (S8.l_length st) (S8.l_length v) t ht
                by_cases htl : t < 8
                · have h2 : decide ((t : Int) < 8) = true := by simp; omega
                  have e1 : IntKind.i64.wrap ((t : Int) + 1) = (t : Int) + 1 := wrapI (by omega)
                  have l0 : (t : Int) < ((8 : Nat) : Int) := by omega
                  have g1 := cellsW_get (sumTo_get (S8.l_length st) (S8.l_length v) htl)
                  have g2 := getW (S8.l_length v) htl
                  have hp1 := cellsW_put (l := sumTo st.l v.l t) (i := t) (st.l.getD t 0 + v.l.getD t 0) (by omega)
                  have hq := sumTo_set (S8.l_length st) (S8.l_length v) htl
                  have e4 : t + 1 ≤ 8 := by omega
                  simp only [runA, runB, runC, runD, runE, runF, fieldE, storeE, ↓reduceIte, Nat.reduceLT, Nat.reduceLeDiff, Nat.reduceEqDiff, Nat.reduceAdd, Nat.reduceMul, Nat.reduceSub, reduceCtorEq, Nat.reduceBEq, buildE, List.replicate, Int.reduceLT, Int.reduceLE, Int.reduceToNat, mkE, mapSetE, w_add, w_and, w_or, w_xor, w_xorF, w_not, w_shl8, w_shl16, w_shl24, w_shr3, w_shr8, w_shr10, w_shr16, w_shr24, b_add, b_sub, b_mul, b_quo, b_rem, b_and, b_or, b_xor, b_andNot, b_eql, b_neq, b_lss, b_leq, b_gtr, b_geq, b_str, b_bool, u_neg, u_not, c_bw, c_wb, cellsW_length, cellsW_pure, cellsW_all, cellsE_W, backCells_W, cellsAt_W, cellPairs_W, cellsW_toPCs, cellsW_map, hN, hF, ty_3, ty_5, ty_88, ty_124, ty_125, ty_127, ty_128, notIf, isEq, intOp, h2, e1, l0, g1, g2, hp1, hq, hcl, e4]
                  refine drawnP_intro (by kernel_rfl) (by kernel_rfl) ?_
                  simp only [runA, runB, runC, runD, runE, runF, fieldE, storeE, ↓reduceIte, Nat.reduceLT, Nat.reduceLeDiff, Nat.reduceEqDiff, Nat.reduceAdd, Nat.reduceMul, Nat.reduceSub, reduceCtorEq, Nat.reduceBEq, buildE, List.replicate, Int.reduceLT, Int.reduceLE, Int.reduceToNat, mkE, mapSetE, w_add, w_and, w_or, w_xor, w_xorF, w_not, w_shl8, w_shl16, w_shl24, w_shr3, w_shr8, w_shr10, w_shr16, w_shr24, b_add, b_sub, b_mul, b_quo, b_rem, b_and, b_or, b_xor, b_andNot, b_eql, b_neq, b_lss, b_leq, b_gtr, b_geq, b_str, b_bool, u_neg, u_not, c_bw, c_wb, cellsW_length, cellsW_pure, cellsW_all, cellsE_W, backCells_W, cellsAt_W, cellPairs_W, cellsW_toPCs, cellsW_map, hN, hF, ty_3, ty_5, ty_88, ty_124, ty_125, ty_127, ty_128, notIf, isEq, intOp, e1]
                  refine ⟨8 - (t + 1), _, by omega, ?_, t + 1, by omega, rfl, rfl⟩
                  rw [hns]
                  simp only [runB, finC, finD, AS.get, AS.mem, false_implies, implies_true, ↓reduceIte, Nat.reduceEqDiff, Option.isSome_some, Option.isSome_none, forall_eq_or_imp, forall_eq, reduceCtorEq, Nat.reduceAdd, Nat.reduceMul, List.zip_cons_cons, List.zip_nil_left, List.zip_nil_right, List.forall_mem_nil, cellsW_amds]
                  first | done | simp
                · have h2 : decide ((t : Int) < 8) = false := by simp; omega
                  have hL : sumTo st.l v.l t = st'.l := by
                    obtain rfl : t = 8 := by omega
                    rw [hss]
                    exact sumTo_end st v
                  simp only [runA, runB, runC, runD, runE, runF, fieldE, storeE, ↓reduceIte, Nat.reduceLT, Nat.reduceLeDiff, Nat.reduceEqDiff, Nat.reduceAdd, Nat.reduceMul, Nat.reduceSub, reduceCtorEq, putAt, Nat.reduceBEq, buildE, List.replicate, Int.reduceLT, Int.reduceLE, Int.reduceToNat, mkE, mapSetE, w_add, w_and, w_or, w_xor, w_xorF, w_not, w_shl8, w_shl16, w_shl24, w_shr3, w_shr8, w_shr10, w_shr16, w_shr24, b_add, b_sub, b_mul, b_quo, b_rem, b_and, b_or, b_xor, b_andNot, b_eql, b_neq, b_lss, b_leq, b_gtr, b_geq, b_str, b_bool, u_neg, u_not, c_bw, c_wb, cellsW_length, cellsW_pure, cellsW_all, cellsE_W, backCells_W, cellsAt_W, cellPairs_W, cellsW_toPCs, cellsW_map, hN, hF, ty_3, ty_5, ty_88, ty_124, ty_125, ty_127, ty_128, notIf, isEq, intOp, h2, e64, hL]
                  refine ⟨n - (i + 1), _, by omega, ?_, i + 1, by omega, rfl, rfl⟩
                  rw [hns, hst']
                  simp only [runB, finC, finD, AS.get, AS.mem, false_implies, implies_true, ↓reduceIte, Nat.reduceEqDiff, Option.isSome_some, Option.isSome_none, forall_eq_or_imp, forall_eq, reduceCtorEq, Nat.reduceAdd, Nat.reduceMul, List.zip_cons_cons, List.zip_nil_left, List.zip_nil_right, List.forall_mem_nil, cellsW_amds]
                  first | done | simp
    · have h1 : decide (((64 * i : Nat) : Int) < ((64 * n : Nat) : Int)) = false := by simp; omega
      obtain rfl : i = n := by omega
      simp only [runA, runB, runC, runD, runE, runF, fieldE, storeE, ↓reduceIte, Nat.reduceLT, Nat.reduceLeDiff, Nat.reduceEqDiff, Nat.reduceAdd, Nat.reduceMul, Nat.reduceSub, reduceCtorEq, putAt, Nat.reduceBEq, buildE, List.replicate, Int.reduceLT, Int.reduceLE, Int.reduceToNat, mkE, mapSetE, w_add, w_and, w_or, w_xor, w_xorF, w_not, w_shl8, w_shl16, w_shl24, w_shr3, w_shr8, w_shr10, w_shr16, w_shr24, b_add, b_sub, b_mul, b_quo, b_rem, b_and, b_or, b_xor, b_andNot, b_eql, b_neq, b_lss, b_leq, b_gtr, b_geq, b_str, b_bool, u_neg, u_not, c_bw, c_wb, cellsW_length, cellsW_pure, cellsW_all, cellsE_W, backCells_W, cellsAt_W, cellPairs_W, cellsW_toPCs, cellsW_map, hN, hF, ty_3, ty_5, ty_88, ty_124, ty_125, ty_127, ty_128, notIf, isEq, intOp, h1, hn, bytes_length]
      generalize stS p i = st at hsha ⊢
      refine AWP.loop (fun c s => ∃ t : Nat, t ≤ 8 ∧ c = 8 - t ∧ s = ⟨[(4, .ptr 256 0), (18, .own 15169 1 (bytes (octsOf (st.l.take t)))), (19, .c (.int .i64 (t : Int)))], [(256, .obj (cellsW st.l) false), (15169, .row 1 (octsOf (st.l.take t)).length)]⟩) ⟨8, _, ?w4, 0, Nat.zero_le _, rfl, rfl⟩ ?r4
      case w4 =>
        rw [hns]
        simp only [runB, finC, finD, AS.get, AS.mem, false_implies, implies_true, ↓reduceIte, Nat.reduceEqDiff, Option.isSome_some, Option.isSome_none, forall_eq_or_imp, forall_eq, reduceCtorEq, Nat.reduceAdd, Nat.reduceMul, List.zip_cons_cons, List.zip_nil_left, List.zip_nil_right, List.forall_mem_nil, cellsW_amds]
        simp [octsOf, bytes]
      case r4 =>
        rintro c s ⟨t, ht, rfl, rfl⟩
        refine vc_sound hΓ mixed _ _ _ ?_
        by_cases htl : t < 8
        · have h2 : decide ((t : Int) < 8) = true := by simp; omega
          have e1 : IntKind.i64.wrap ((t : Int) + 1) = (t : Int) + 1 := wrapI (by omega)
          have l0 : (t : Int) < ((8 : Nat) : Int) := by omega
          have g1 := getW (S8.l_length st) htl
          have hx : st.l[t]? = some (st.l.getD t 0) := by
            rw [List.getD_eq_getElem?_getD]
            have hh : t < st.l.length := by rw [S8.l_length]; exact htl
            simp [hh]
          have hs := octsOf_succ hx
          have hlen : (octsOf (st.l.take t)).length + 4 ≤ 140737488355328 := by rw [octsOf_length, List.length_take]; omega
          have hz := rowsOK_bytes
          have h4 : ∀ x, (octs x).length = 4 := fun _ => rfl
          generalize st.l.getD t 0 = x at g1 hs
          simp only [runA, runB, runC, runD, runE, runF, fieldE, storeE, ↓reduceIte, Nat.reduceLT, Nat.reduceLeDiff, Nat.reduceEqDiff, Nat.reduceAdd, Nat.reduceMul, Nat.reduceSub, reduceCtorEq, putAt, Nat.reduceBEq, buildE, List.replicate, Int.reduceLT, Int.reduceLE, Int.reduceToNat, mkE, mapSetE, w_add, w_and, w_or, w_xor, w_xorF, w_not, w_shl8, w_shl16, w_shl24, w_shr3, w_shr8, w_shr10, w_shr16, w_shr24, b_add, b_sub, b_mul, b_quo, b_rem, b_and, b_or, b_xor, b_andNot, b_eql, b_neq, b_lss, b_leq, b_gtr, b_geq, b_str, b_bool, u_neg, u_not, c_bw, c_wb, cellsW_length, cellsW_pure, cellsW_all, cellsE_W, backCells_W, cellsAt_W, cellPairs_W, cellsW_toPCs, cellsW_map, hN, hF, ty_3, ty_5, ty_88, ty_124, ty_125, ty_127, ty_128, notIf, isEq, intOp, h2, e1, l0, g1, octs_rows, hz, hlen, h4, bytes_length, bytes_app, ← hs]
          refine drawnP_intro (by kernel_rfl) (by kernel_rfl) ?_
          simp only [runA, runB, runC, runD, runE, runF, fieldE, storeE, ↓reduceIte, Nat.reduceLT, Nat.reduceLeDiff, Nat.reduceEqDiff, Nat.reduceAdd, Nat.reduceMul, Nat.reduceSub, reduceCtorEq, putAt, Nat.reduceBEq, buildE, List.replicate, Int.reduceLT, Int.reduceLE, Int.reduceToNat, mkE, mapSetE, w_add, w_and, w_or, w_xor, w_xorF, w_not, w_shl8, w_shl16, w_shl24, w_shr3, w_shr8, w_shr10, w_shr16, w_shr24, b_add, b_sub, b_mul, b_quo, b_rem, b_and, b_or, b_xor, b_andNot, b_eql, b_neq, b_lss, b_leq, b_gtr, b_geq, b_str, b_bool, u_neg, u_not, c_bw, c_wb, cellsW_length, cellsW_pure, cellsW_all, cellsE_W, backCells_W, cellsAt_W, cellPairs_W, cellsW_toPCs, cellsW_map, hN, hF, ty_3, ty_5, ty_88, ty_124, ty_125, ty_127, ty_128, notIf, isEq, intOp, e1]
          refine ⟨8 - (t + 1), _, by omega, ?_, t + 1, by omega, rfl, rfl⟩
          rw [hns]
          simp only [runB, finC, finD, AS.get, AS.mem, false_implies, implies_true, ↓reduceIte, Nat.reduceEqDiff, Option.isSome_some, Option.isSome_none, forall_eq_or_imp, forall_eq, reduceCtorEq, Nat.reduceAdd, Nat.reduceMul, List.zip_cons_cons, List.zip_nil_left, List.zip_nil_right, List.forall_mem_nil, cellsW_amds]
          first | done | (rw [hs]; simp [octs])
        · have h2 : decide ((t : Int) < 8) = false := by simp; omega
          have hL : octsOf (st.l.take t) = shaS b := by
            obtain rfl : t = 8 := by omega
            rw [hsha, List.take_of_length_le (by rw [S8.l_length]; exact Nat.le_refl _)]
          simp only [runA, runB, runC, runD, runE, runF, fieldE, storeE, ↓reduceIte, Nat.reduceLT, Nat.reduceLeDiff, Nat.reduceEqDiff, Nat.reduceAdd, Nat.reduceMul, Nat.reduceSub, reduceCtorEq, putAt, Nat.reduceBEq, buildE, List.replicate, Int.reduceLT, Int.reduceLE, Int.reduceToNat, mkE, mapSetE, w_add, w_and, w_or, w_xor, w_xorF, w_not, w_shl8, w_shl16, w_shl24, w_shr3, w_shr8, w_shr10, w_shr16, w_shr24, b_add, b_sub, b_mul, b_quo, b_rem, b_and, b_or, b_xor, b_andNot, b_eql, b_neq, b_lss, b_leq, b_gtr, b_geq, b_str, b_bool, u_neg, u_not, c_bw, c_wb, cellsW_length, cellsW_pure, cellsW_all, cellsE_W, backCells_W, cellsAt_W, cellPairs_W, cellsW_toPCs, cellsW_map, hN, hF, ty_3, ty_5, ty_88, ty_124, ty_125, ty_127, ty_128, notIf, isEq, intOp, h2, hL]
          simp only [runB, finC, finD, Option.isSome_some, Option.isSome_none, ↓reduceIte, Nat.reduceEqDiff, Nat.reduceAdd, Nat.reduceMul, forall_eq_or_imp, forall_eq, implies_true, Nat.reduceBEq, reduceCtorEq, false_implies, List.zip_cons_cons, List.zip_nil_left, List.zip_nil_right, Nat.reduceLeDiff, List.forall_mem_nil, rs_58, bytes_length]


/-- Texts, as cells. -/
def texts (l : List (List UInt8)) : List (List PC) := l.map fun s => [PC.str s]
theorem texts_inj {a b : List (List UInt8)} (h : texts a = texts b) : a = b := by
  unfold texts at h
  refine (List.map_inj_right (fun x y h => ?_)).1 h
  simpa using h

theorem bytes_iff {a b : List UInt8} : bytes a = bytes b ↔ a = b := ⟨bytes_inj, fun h => by rw [h]⟩
theorem texts_iff {a b : List (List UInt8)} : texts a = texts b ↔ a = b := ⟨texts_inj, fun h => by rw [h]⟩

theorem len6 (n : Int) : (putB n 6).length = 6 := by rw [putB_length]; rfl
theorem len2 (n : Int) : (putB n 2).length = 2 := by rw [putB_length]; rfl
theorem wNum_len (w : WS) (n : Int) : (wNum w n).b.length ≤ w.b.length + 6 := by
  unfold wNum
  split
  · simp
  · split
    · show (w.b ++ putB n 6).length ≤ _
      rw [List.length_append, len6]; omega
    · omega
theorem rText_len (w : WS) (s : List UInt8) : (rText w s).b.length ≤ w.b.length + 2 + s.length ∧ (rText w s).b.length ≤ w.b.length + 4098 := by
  unfold rText
  split
  · simp only; omega
  · split
    · show (w.b ++ putB s.length 2 ++ s).length ≤ _ ∧ (w.b ++ putB s.length 2 ++ s).length ≤ _
      rw [List.length_append, List.length_append, len2]; omega
    · omega
theorem num_atw (w : WS) (n : Int) (h : w.b.length ≤ 100000) : numC [.ptr 6400000 0, .c (.int .i64 n)] [[.own 1 (bytes w.b), .c (.int .i64 w.e), .c (.bool true)]] = some ⟨[], [[.own 1 (bytes (wNum w n).b), .c (.int .i64 (wNum w n).e), .c (.bool true)]]⟩ := by
  simp [numC, asB_bytes, inObj, h, wOV]
theorem text_atw (w : WS) (s : List UInt8) (h : w.b.length ≤ 100000) (h2 : s.length ≤ 9223372036854775807) : textC [.ptr 6400000 0, .c (.str s)] [[.own 1 (bytes w.b), .c (.int .i64 w.e), .c (.bool true)]] = some ⟨[], [[.own 1 (bytes (rText w s).b), .c (.int .i64 (rText w s).e), .c (.bool true)]]⟩ := by
  simp [textC, asB_bytes, inObj, h, h2, wOV]
theorem done_atw (w : WS) : doneC [.ptr 6400000 0] [[.own 1 (bytes w.b), .c (.int .i64 w.e), .c (.bool true)]] = some ⟨[.fresh 1 (bytes (doneR w).1), .pv (.c (.int .i64 (doneR w).2))], [[.own 1 (bytes w.b), .c (.int .i64 w.e), .c (.bool true)]]⟩ := by
  simp [doneC, asB_bytes, inObj, wOV]

variable {Γ : FuncId → Contract}

structure Txn where
  fr : Int
  to : Int
  am : Int
  no : Int
  sig : List UInt8
  deriving DecidableEq
def Txn.pcs (t : Txn) : List PC := [.int .i64 t.fr, .int .i64 t.to, .int .i64 t.am, .int .i64 t.no, .str t.sig]
def Txn.av (t : Txn) : AV := .agg [.c (.int .i64 t.fr), .c (.int .i64 t.to), .c (.int .i64 t.am), .c (.int .i64 t.no), .c (.str t.sig)]
theorem Txn.av_inj {a b : Txn} (h : a.av = b.av) : a = b := by
  obtain ⟨a1, a2, a3, a4, a5⟩ := a
  obtain ⟨b1, b2, b3, b4, b5⟩ := b
  simp only [Txn.av, AV.agg.injEq, List.cons.injEq, AV.c.injEq, PC.str.injEq, PC.int.injEq, true_and, and_true] at h
  obtain ⟨rfl, rfl, rfl, rfl, rfl⟩ := h
  rfl
theorem Txn.av_iff {a b : Txn} : a.av = b.av ↔ a = b := ⟨Txn.av_inj, fun h => by rw [h]⟩
def okT (t : Txn) : Prop := (0 ≤ t.fr ∧ t.fr ≤ 3) ∧ (0 ≤ t.to ∧ t.to ≤ 3) ∧ t.fr ≠ t.to ∧ 1 ≤ t.am ∧ t.am ≤ 1000 ∧ 0 ≤ t.no ∧ t.no ≤ 1099511627776 ∧ t.sig.length ≤ 4096
instance (t : Txn) : Decidable (okT t) := inferInstanceAs (Decidable (_ ∧ _))
def txS (t : Txn) : Int := if okT t then 0 else 9
def zeroT : Txn := ⟨0, 0, 0, 0, []⟩

def clientC : Contract := fun args objs => match args, objs with
  | [.c (.int .i64 n)], [] => some ⟨[.pv (.c (.bool (decide (n ≥ 0) && decide (n < 4))))], []⟩
  | _, _ => none
theorem client_at (n : Int) : clientC [.c (.int .i64 n)] [] = some ⟨[.pv (.c (.bool (decide (n ≥ 0) && decide (n < 4))))], []⟩ := rfl
set_option maxHeartbeats 1000000 in
theorem client_sound : SoundC Try.prog 95 clientC := by
  refine sound_fn Try.func95 (by kernel_rfl) rfl rfl ?_
  intro args objs r hr
  unfold clientC at hr
  split at hr
  · rename_i n
    cases hr
    refine ⟨rfl, by show 1 ≤ _; decide, fun E hN hns hF => ?_⟩
    refine vc_sound none0_sound mixed _ _ _ ?_
    have hN := hN.trans nt_95
    simp +contextual (maxSteps := 10000000) only [runA, runB, runC, runD, runE, runF, fieldE, storeE, binE, ↓reduceIte, Nat.reduceLT, Nat.reduceLeDiff, Nat.reduceEqDiff, Nat.reduceAdd, Nat.reduceMul, Nat.reduceSub, reduceCtorEq, putAt, unE, Nat.reduceBEq, convE, buildE, List.replicate, Int.reduceLT, Int.reduceLE, Int.reduceToNat, mkE, mapSetE, hN, hF, ty_3, ty_4, notIf, isEq, bytes_length, false_implies, implies_true]
    simp only [runB, finC, finD, Option.isSome_some, Option.isSome_none, ↓reduceIte, Nat.reduceEqDiff, Nat.reduceAdd, Nat.reduceMul, forall_eq_or_imp, forall_eq, implies_true, Nat.reduceBEq, reduceCtorEq, false_implies, List.zip_cons_cons, List.zip_nil_left, List.zip_nil_right, Nat.reduceLeDiff, List.forall_mem_nil, rs_95]
  · cases hr
noncomputable def txCkC : Contract := mkC (α := Txn) (fun _ => True) (fun t => [t.av]) (fun _ => []) (fun t => ⟨[.pv (.c (.int .i64 (txS t)))], []⟩)
theorem txCk_at (t : Txn) : txCkC [.agg [.c (.int .i64 t.fr), .c (.int .i64 t.to), .c (.int .i64 t.am), .c (.int .i64 t.no), .c (.str t.sig)]] [] = some ⟨[.pv (.c (.int .i64 (txS t)))], []⟩ :=
  mkC_at (α := Txn) t trivial (by
    rintro y _ h _
    have h' : [y.av] = [t.av] := h
    have e : y = t := Txn.av_inj (by simpa using h')
    rw [e])

set_option maxRecDepth 100000 in
set_option maxHeartbeats 4000000 in
theorem txCk_sound (hΓ : SoundG Try.prog Γ) (h1 : Γ 95 = clientC) : SoundC Try.prog 73 txCkC := by
  refine sound_fn Try.func73 (by kernel_rfl) rfl rfl ?_
  intro args objs r hr
  obtain ⟨⟨fr, to, am, no, sig⟩, _, rfl, rfl, rfl⟩ := mkC_inv hr
  refine ⟨rfl, by show 1 ≤ _; decide, fun E hN hns hF => ?_⟩
  refine vc_sound hΓ mixed _ _ _ ?_
  have hN := hN.trans nt_73
  unfold Txn.av
  simp +contextual (maxSteps := 10000000) only [runA, runB, runC, runD, runE, runF, fieldE, storeE, binE, ↓reduceIte, Nat.reduceLT, Nat.reduceLeDiff, Nat.reduceEqDiff, Nat.reduceAdd, Nat.reduceMul, Nat.reduceSub, reduceCtorEq, putAt, unE, Nat.reduceBEq, convE, buildE, List.replicate, Int.reduceLT, Int.reduceLE, Int.reduceToNat, mkE, mapSetE, hN, hF, ty_3, ty_4, ty_9, ty_47, ty_85, notIf, isEq, bytes_length, false_implies, implies_true, h1, client_at]
  refine ⟨fun hb => ?_, fun hb => ?_⟩
  · have hS : txS ⟨fr, to, am, no, sig⟩ = 9 := if_neg (by simp at hb; unfold okT; simp only; omega)
    simp only [runB, finC, finD, Option.isSome_some, Option.isSome_none, ↓reduceIte, Nat.reduceEqDiff, Nat.reduceAdd, Nat.reduceMul, forall_eq_or_imp, forall_eq, implies_true, Nat.reduceBEq, reduceCtorEq, false_implies, List.zip_cons_cons, List.zip_nil_left, List.zip_nil_right, Nat.reduceLeDiff, List.forall_mem_nil, rs_73, hS]
  · have hS : txS ⟨fr, to, am, no, sig⟩ = 0 := if_pos (by simp at hb; unfold okT; simp only; omega)
    simp only [runB, finC, finD, Option.isSome_some, Option.isSome_none, ↓reduceIte, Nat.reduceEqDiff, Nat.reduceAdd, Nat.reduceMul, forall_eq_or_imp, forall_eq, implies_true, Nat.reduceBEq, reduceCtorEq, false_implies, List.zip_cons_cons, List.zip_nil_left, List.zip_nil_right, Nat.reduceLeDiff, List.forall_mem_nil, rs_73, hS]

set_option maxRecDepth 100000 in
set_option maxHeartbeats 4000000 in
theorem refTxCk_sound : SoundC Try.prog 48 txCkC := by
  refine sound_fn Try.func48 (by kernel_rfl) rfl rfl ?_
  intro args objs r hr
  obtain ⟨⟨fr, to, am, no, sig⟩, _, rfl, rfl, rfl⟩ := mkC_inv hr
  refine ⟨rfl, by show 1 ≤ _; decide, fun E hN hns hF => ?_⟩
  refine vc_sound none0_sound mixed _ _ _ ?_
  have hN := hN.trans nt_48
  unfold Txn.av
  simp +contextual (maxSteps := 10000000) only [runA, runB, runC, runD, runE, runF, fieldE, storeE, binE, ↓reduceIte, Nat.reduceLT, Nat.reduceLeDiff, Nat.reduceEqDiff, Nat.reduceAdd, Nat.reduceMul, Nat.reduceSub, reduceCtorEq, putAt, unE, Nat.reduceBEq, convE, buildE, List.replicate, Int.reduceLT, Int.reduceLE, Int.reduceToNat, mkE, mapSetE, hN, hF, ty_3, ty_9, ty_47, notIf, isEq, bytes_length, false_implies, implies_true]
  refine ⟨fun hb => ?_, fun hb => ?_⟩
  · have hS : txS ⟨fr, to, am, no, sig⟩ = 9 := if_neg (by simp at hb; unfold okT; simp only; omega)
    simp only [runB, finC, finD, Option.isSome_some, Option.isSome_none, ↓reduceIte, Nat.reduceEqDiff, Nat.reduceAdd, Nat.reduceMul, forall_eq_or_imp, forall_eq, implies_true, Nat.reduceBEq, reduceCtorEq, false_implies, List.zip_cons_cons, List.zip_nil_left, List.zip_nil_right, Nat.reduceLeDiff, List.forall_mem_nil, rs_48, hS]
  · have hS : txS ⟨fr, to, am, no, sig⟩ = 0 := if_pos (by simp at hb; unfold okT; simp only; omega)
    simp only [runB, finC, finD, Option.isSome_some, Option.isSome_none, ↓reduceIte, Nat.reduceEqDiff, Nat.reduceAdd, Nat.reduceMul, forall_eq_or_imp, forall_eq, implies_true, Nat.reduceBEq, reduceCtorEq, false_implies, List.zip_cons_cons, List.zip_nil_left, List.zip_nil_right, Nat.reduceLeDiff, List.forall_mem_nil, rs_48, hS]


structure Vt where
  kd : Int
  vw : Int
  ht : Int
  bl : List UInt8
  tk : Int
  sg : Int
  sig : List UInt8
  deriving DecidableEq
def Vt.pcs (t : Vt) : List PC := [.int .i64 t.kd, .int .i64 t.vw, .int .i64 t.ht, .str t.bl, .int .i64 t.tk, .int .i64 t.sg, .str t.sig]
def Vt.av (t : Vt) : AV := .agg [.c (.int .i64 t.kd), .c (.int .i64 t.vw), .c (.int .i64 t.ht), .c (.str t.bl), .c (.int .i64 t.tk), .c (.int .i64 t.sg), .c (.str t.sig)]
structure Mk where
  vw : Int
  ht : Int
  bl : List UInt8
  deriving DecidableEq
def Mk.pcs (t : Mk) : List PC := [.int .i64 t.vw, .int .i64 t.ht, .str t.bl]
def Mk.av (t : Mk) : AV := .agg [.c (.int .i64 t.vw), .c (.int .i64 t.ht), .c (.str t.bl)]
theorem Vt.av_inj {a b : Vt} (h : a.av = b.av) : a = b := by
  obtain ⟨a0, a1, a2, a3, a4, a5, a6⟩ := a
  obtain ⟨b0, b1, b2, b3, b4, b5, b6⟩ := b
  simp only [Vt.av, AV.agg.injEq, List.cons.injEq, AV.c.injEq, PC.str.injEq, PC.int.injEq, true_and, and_true] at h
  obtain ⟨rfl, rfl, rfl, rfl, rfl, rfl, rfl⟩ := h
  rfl
theorem Vt.av_iff {a b : Vt} : a.av = b.av ↔ a = b := ⟨Vt.av_inj, fun h => by rw [h]⟩
theorem Vt.pcs_inj {a b : Vt} (h : a.pcs = b.pcs) : a = b := by
  obtain ⟨a0, a1, a2, a3, a4, a5, a6⟩ := a
  obtain ⟨b0, b1, b2, b3, b4, b5, b6⟩ := b
  simp only [Vt.pcs, List.cons.injEq, PC.str.injEq, PC.int.injEq, true_and, and_true] at h
  obtain ⟨rfl, rfl, rfl, rfl, rfl, rfl, rfl⟩ := h
  rfl
theorem Mk.av_inj {a b : Mk} (h : a.av = b.av) : a = b := by
  obtain ⟨a0, a1, a2⟩ := a
  obtain ⟨b0, b1, b2⟩ := b
  simp only [Mk.av, AV.agg.injEq, List.cons.injEq, AV.c.injEq, PC.str.injEq, PC.int.injEq, true_and, and_true] at h
  obtain ⟨rfl, rfl, rfl⟩ := h
  rfl
theorem Mk.av_iff {a b : Mk} : a.av = b.av ↔ a = b := ⟨Mk.av_inj, fun h => by rw [h]⟩
theorem Mk.pcs_inj {a b : Mk} (h : a.pcs = b.pcs) : a = b := by
  obtain ⟨a0, a1, a2⟩ := a
  obtain ⟨b0, b1, b2⟩ := b
  simp only [Mk.pcs, List.cons.injEq, PC.str.injEq, PC.int.injEq, true_and, and_true] at h
  obtain ⟨rfl, rfl, rfl⟩ := h
  rfl
theorem Txn.pcs_inj {a b : Txn} (h : a.pcs = b.pcs) : a = b := by
  obtain ⟨a1, a2, a3, a4, a5⟩ := a
  obtain ⟨b1, b2, b3, b4, b5⟩ := b
  simp only [Txn.pcs, List.cons.injEq, PC.str.injEq, PC.int.injEq, true_and, and_true] at h
  obtain ⟨rfl, rfl, rfl, rfl, rfl⟩ := h
  rfl
def zeroV : Vt := ⟨0, 0, 0, [], 0, 0, []⟩
theorem map_inj' {α β : Type} {f : α → β} (hf : ∀ a b, f a = f b → a = b) : ∀ {l m : List α}, l.map f = m.map f → l = m
  | [], [], _ => rfl
  | [], _ :: _, h => by simp at h
  | _ :: _, [], h => by simp at h
  | a :: l, b :: m, h => by
    simp only [List.map_cons, List.cons.injEq] at h
    rw [hf _ _ h.1, map_inj' hf h.2]
def votes (l : List Vt) : List (List PC) := l.map Vt.pcs
theorem votes_iff {a b : List Vt} : votes a = votes b ↔ a = b := ⟨map_inj' fun _ _ => Vt.pcs_inj, fun h => by rw [h]⟩
theorem votes_length (l : List Vt) : (votes l).length = l.length := by simp [votes]
theorem votes_nil : votes [] = [] := rfl
theorem votesD (l : List Vt) (i : Nat) (h : i < l.length) : (votes l)[i]? = some (Vt.pcs (l.getD i zeroV)) := by
  simp [votes, List.getD, h]
def trows (l : List Txn) : List (List PC) := l.map Txn.pcs
theorem trows_iff {a b : List Txn} : trows a = trows b ↔ a = b := ⟨map_inj' fun _ _ => Txn.pcs_inj, fun h => by rw [h]⟩
theorem trows_length (l : List Txn) : (trows l).length = l.length := by simp [trows]
theorem trows_nil : trows [] = [] := rfl
theorem trowsD (l : List Txn) (i : Nat) (h : i < l.length) : (trows l)[i]? = some (Txn.pcs (l.getD i zeroT)) := by
  simp [trows, List.getD, h]
theorem rowsOK_votes (l : List Vt) : rowsOK 7 (votes l) := by
  intro r hr
  obtain ⟨t, _, rfl⟩ := List.mem_map.1 hr
  rfl
theorem rowsOK_trows (l : List Txn) : rowsOK 5 (trows l) := by
  intro r hr
  obtain ⟨t, _, rfl⟩ := List.mem_map.1 hr
  rfl
structure Ct where
  vw : Int
  ht : Int
  bl : List UInt8
  vs : List Vt
  deriving DecidableEq
def Ct.pcs (c : Ct) : List PC := [.int .i64 c.vw, .int .i64 c.ht, .str c.bl, .sl (votes c.vs)]
def Ct.av (c : Ct) : AV := .agg [.c (.int .i64 c.vw), .c (.int .i64 c.ht), .c (.str c.bl), .c (.sl (votes c.vs))]
theorem Ct.av_inj {a b : Ct} (h : a.av = b.av) : a = b := by
  obtain ⟨a1, a2, a3, a4⟩ := a
  obtain ⟨b1, b2, b3, b4⟩ := b
  simp only [Ct.av, AV.agg.injEq, List.cons.injEq, AV.c.injEq, PC.str.injEq, PC.int.injEq, PC.sl.injEq, votes_iff, true_and, and_true] at h
  obtain ⟨rfl, rfl, rfl, rfl⟩ := h
  rfl
theorem Ct.av_iff {a b : Ct} : a.av = b.av ↔ a = b := ⟨Ct.av_inj, fun h => by rw [h]⟩
structure Blk where
  vw : Int
  ht : Int
  pa : List UInt8
  ju : Ct
  txs : List Txn
  sig : List UInt8
  deriving DecidableEq
def Blk.pcs (b : Blk) : List PC := [.int .i64 b.vw, .int .i64 b.ht, .str b.pa, .int .i64 b.ju.vw, .int .i64 b.ju.ht, .str b.ju.bl, .sl (votes b.ju.vs), .sl (trows b.txs), .str b.sig]
def Blk.av (b : Blk) : AV := .agg [.c (.int .i64 b.vw), .c (.int .i64 b.ht), .c (.str b.pa), .c (.int .i64 b.ju.vw), .c (.int .i64 b.ju.ht), .c (.str b.ju.bl), .c (.sl (votes b.ju.vs)), .c (.sl (trows b.txs)), .c (.str b.sig)]
theorem Blk.av_inj {a b : Blk} (h : a.av = b.av) : a = b := by
  obtain ⟨a1, a2, a3, ⟨a4, a5, a6, a7⟩, a8, a9⟩ := a
  obtain ⟨b1, b2, b3, ⟨b4, b5, b6, b7⟩, b8, b9⟩ := b
  simp only [Blk.av, AV.agg.injEq, List.cons.injEq, AV.c.injEq, PC.str.injEq, PC.int.injEq, PC.sl.injEq, votes_iff, trows_iff, true_and, and_true] at h
  obtain ⟨rfl, rfl, rfl, rfl, rfl, rfl, rfl, rfl, rfl⟩ := h
  rfl
theorem Blk.av_iff {a b : Blk} : a.av = b.av ↔ a = b := ⟨Blk.av_inj, fun h => by rw [h]⟩
theorem Blk.pcs_inj {a b : Blk} (h : a.pcs = b.pcs) : a = b := by
  obtain ⟨a1, a2, a3, ⟨a4, a5, a6, a7⟩, a8, a9⟩ := a
  obtain ⟨b1, b2, b3, ⟨b4, b5, b6, b7⟩, b8, b9⟩ := b
  simp only [Blk.pcs, List.cons.injEq, PC.str.injEq, PC.int.injEq, PC.sl.injEq, votes_iff, trows_iff, true_and, and_true] at h
  obtain ⟨rfl, rfl, rfl, rfl, rfl, rfl, rfl, rfl, rfl⟩ := h
  rfl
def zeroBk : Blk := ⟨0, 0, [], ⟨0, 0, [], []⟩, [], []⟩

def idxP {α : Type} (p : α → Bool) (l : List α) : Int := match l.findIdx? p with | some i => (i : Int) | none => -1
theorem idxP_some {α : Type} {p : α → Bool} {l : List α} {d : α} {i : Nat} (hi : i < l.length) (h : p (l.getD i d) = true) (hb : ∀ k, k < i → p (l.getD k d) = false) : idxP p l = (i : Int) := by
  have : l.findIdx? p = some i := by
    rw [List.findIdx?_eq_some_iff_getElem]
    refine ⟨hi, ?_, fun j hj => ?_⟩
    · rw [List.getD, List.getElem?_eq_getElem hi] at h
      simpa using h
    · have := hb j hj
      rw [List.getD, List.getElem?_eq_getElem (by omega)] at this
      simpa using this
  unfold idxP
  rw [this]
theorem idxP_none {α : Type} {p : α → Bool} {l : List α} {d : α} (h : ∀ k, k < l.length → p (l.getD k d) = false) : idxP p l = -1 := by
  have : l.findIdx? p = none := by
    rw [List.findIdx?_eq_none_iff]
    intro x hx
    obtain ⟨k, hk, rfl⟩ := List.getElem_of_mem hx
    have := h k hk
    rw [List.getD, List.getElem?_eq_getElem hk] at this
    simpa using this
  unfold idxP
  rw [this]
theorem idxP_ge {α : Type} (p : α → Bool) (l : List α) : decide (idxP p l ≥ 0) = l.any p := by
  unfold idxP
  cases h : l.findIdx? p with
  | none =>
    rw [List.findIdx?_eq_none_iff] at h
    have : l.any p = false := by
      rw [List.any_eq_false]
      intro x hx
      simpa using h x hx
    simp [this]
  | some i =>
    have hi := (List.findIdx?_eq_some_iff_getElem.1 h)
    obtain ⟨h1, h2, _⟩ := hi
    have : l.any p = true := List.any_eq_true.2 ⟨l[i], List.getElem_mem h1, h2⟩
    simp [this]

end Go.Proofs.Ytenmlgalcjkdbaa.AM
