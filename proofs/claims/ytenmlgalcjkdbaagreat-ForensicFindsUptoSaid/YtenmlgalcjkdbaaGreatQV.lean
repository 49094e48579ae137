/-
  QV: Fd2 Fd3.
-/
import Derived.Test.YtenmlgalcjkdbaaGreatQU
import Derived.Test.YtenmlgalcjkdbaaGreatQJ
set_option linter.unusedVariables false
set_option linter.unusedSimpArgs false
namespace Go.Proofs.YtenmlgalcjkdbaaGreat.AM
open Go

variable {Γ : FuncId → Contract}

noncomputable def stF (own : List Blk) (roots : List (List UInt8)) (q : Int) (s : List Ct × List (Ct × Ct)) (c : Ct) : List Ct × List (Ct × Ct) :=
  if ctS c roots q = 0 then (s.1 ++ [c], s.2 ++ (s.1.filter fun x => conS own x.bl c.bl).map fun x => (x, c)) else s
noncomputable def findS (own : List Blk) (roots : List (List UInt8)) (q : Int) (l : List Ct) : List Ct × List (Ct × Ct) := l.foldl (stF own roots q) ([], [])
theorem find_succ (own : List Blk) (roots : List (List UInt8)) (q : Int) (l : List Ct) (i : Nat) (h : i < l.length) : findS own roots q (l.take (i + 1)) = stF own roots q (findS own roots q (l.take i)) (l.getD i zeroC) := by
  unfold findS
  rw [List.take_add_one, List.getElem?_eq_getElem h, List.getD_eq_getElem?_getD, List.getElem?_eq_getElem h, List.foldl_append]
  rfl
theorem find_len (own : List Blk) (roots : List (List UInt8)) (q : Int) (l : List Ct) : ∀ i, i ≤ l.length → (findS own roots q (l.take i)).1.length ≤ i ∧ (findS own roots q (l.take i)).2.length ≤ i * i
  | 0, _ => by simp [findS]
  | i + 1, h => by
    obtain ⟨h1, h2⟩ := find_len own roots q l i (by omega)
    rw [find_succ _ _ _ _ _ (by omega)]
    generalize findS own roots q (l.take i) = s at *
    have hm : (i + 1) * (i + 1) = i * i + i + i + 1 := by rw [Nat.add_mul, Nat.mul_add]; omega
    unfold stF
    split
    · have h3 := List.length_filter_le (fun x : Ct => conS own x.bl (l.getD i zeroC).bl) s.1
      simp only [List.length_append, List.length_cons, List.length_nil, List.length_map]
      omega
    · omega
theorem find_mem (own : List Blk) (roots : List (List UInt8)) (q : Int) (l : List Ct) : ∀ i, i ≤ l.length → ∀ c ∈ (findS own roots q (l.take i)).1, c ∈ l
  | 0, _, c, hc => by simp [findS] at hc
  | i + 1, h, c, hc => by
    have ih := find_mem own roots q l i (by omega)
    rw [find_succ _ _ _ _ _ (by omega)] at hc
    unfold stF at hc
    split at hc
    · rcases List.mem_append.1 hc with hc | hc
      · exact ih c hc
      · rw [List.mem_singleton] at hc
        rw [hc, List.getD_eq_getElem?_getD, List.getElem?_eq_getElem (by omega)]
        exact List.getElem_mem _
    · exact ih c hc
theorem filt_succ {β : Type} (p : Ct → Bool) (g : Ct → β) (l : List Ct) (k : Nat) (h : k < l.length) : ((l.take (k + 1)).filter p).map g = ((l.take k).filter p).map g ++ (if p (l.getD k zeroC) = true then [g (l.getD k zeroC)] else []) := by
  rw [List.take_add_one, List.getElem?_eq_getElem h, List.filter_append, List.map_append, List.getD_eq_getElem?_getD, List.getElem?_eq_getElem h]
  congr 1
  simp only [Option.toList_some, Option.getD_some]
  by_cases hk : p l[k] = true
  · rw [if_pos hk, List.filter_cons_of_pos hk]; rfl
  · rw [if_neg hk, List.filter_cons_of_neg hk]; rfl
structure Fn where
  own : List Blk
  l : List Ct
  ro : List (List UInt8)
  q : Int
def okF (p : Fn) : Prop := treeOK p.own ∧ p.l.length ≤ 1000 ∧ (∀ c ∈ p.l, c.vs.length ≤ 1099511627776) ∧ p.ro.length ≤ 9223372036854775807
noncomputable def findC : Contract := mkC (α := Fn) okF (fun p => [.ptr 6400000 0, .c (.sl (ctrows p.l)), .c (.sl (texts p.ro)), .c (.int .i64 p.q)]) (fun p => [[.mp true (esOf p.own)]]) (fun p => ⟨[.pv (.c (.sl (forks (findS p.own p.ro p.q p.l).2)))], [[.mp true (esOf p.own)]]⟩)
theorem find_at (own : List Blk) (l : List Ct) (ro : List (List UInt8)) (q : Int) (h : okF ⟨own, l, ro, q⟩) : findC [.ptr 6400000 0, .c (.sl (ctrows l)), .c (.sl (texts ro)), .c (.int .i64 q)] [[.mp true (esOf own)]] = some ⟨[.pv (.c (.sl (forks (findS own ro q l).2)))], [[.mp true (esOf own)]]⟩ :=
  mkC_at (α := Fn) ⟨own, l, ro, q⟩ h (by
    rintro ⟨o', l', r', q'⟩ _ h ho
    simp only [List.cons.injEq, AV.c.injEq, PC.sl.injEq, PC.int.injEq, OV.mp.injEq, true_and, and_true, texts_iff, esOf_iff] at h ho
    obtain ⟨h1, rfl, rfl⟩ := h
    rw [ctrows_inj h1, ho])

set_option maxRecDepth 100000 in
set_option maxHeartbeats 16000000 in
theorem find_sound (hΓ : SoundG Tryz.prog Γ) (h1 : Γ 65 = ceckC) (h2 : Γ 70 = cflC) (h3 : Γ 71 = cpcC) : SoundC Tryz.prog 25 findC := by
  refine sound_fn Tryz.func25 (by kernel_rfl) rfl rfl ?_
  intro args objs r0 hr
  obtain ⟨⟨own, l, ro, q⟩, hok, rfl, rfl, rfl⟩ := mkC_inv hr
  refine ⟨rfl, by show 4 ≤ _; decide, fun E hN hns hF => ?_⟩
  refine vc_sound hΓ mixed _ _ _ ?_
  have hN := hN.trans nt_25
  obtain ⟨htr, hll, hvs, hro⟩ := hok
  have htr : treeOK own := htr
  have hll : l.length ≤ 1000 := hll
  have hvs : ∀ c ∈ l, c.vs.length ≤ 1099511627776 := hvs
  have hro : ro.length ≤ 9223372036854775807 := hro
  have hcl := ctrows_length l
  dsimp only
  simp only [runA, runB, runC, runD, runE, runF, fieldE, storeE, binE, ↓reduceIte, Nat.reduceLT, Nat.reduceLeDiff, Nat.reduceEqDiff, Nat.reduceAdd, Nat.reduceMul, Nat.reduceSub, reduceCtorEq, putAt, unE, Nat.reduceBEq, convE, buildE, List.replicate, Int.reduceLT, Int.reduceLE, Int.reduceToNat, mkE, mapSetE, hN, hF, ty_3, ty_9, ty_24, ty_29, ty_31, ty_37, ty_58, ty_59, ty_62, ty_68, notIf, isEq, hcl]
  iterate 1 (try (refine drawnP_intro (by kernel_rfl) (by kernel_rfl) ?_; simp only [runA, runB, runC, runD, runE, runF, fieldE, storeE, binE, ↓reduceIte, Nat.reduceLT, Nat.reduceLeDiff, Nat.reduceEqDiff, Nat.reduceAdd, Nat.reduceMul, Nat.reduceSub, reduceCtorEq, putAt, unE, Nat.reduceBEq, convE, buildE, List.replicate, Int.reduceLT, Int.reduceLE, Int.reduceToNat, mkE, mapSetE, hN, hF, ty_3, ty_9, ty_24, ty_29, ty_31, ty_37, ty_58, ty_59, ty_62, ty_68, notIf, isEq, hcl]))
  refine AWP.loop (fun c st => ∃ i : Nat, i ≤ l.length ∧ c = l.length - i ∧ st = ⟨[(0, .ptr 6400000 0), (2, .c (.sl (texts ro))), (3, .c (.int .i64 q)), (8, .nilsl), (15, .c (.sl (ctrows l))), (16, .c (.int .i64 (l.length : Int))), (17, .c (.int .i64 (i : Int))), (9, .own 2881 8 (forks (findS own ro q (l.take i)).2)), (10, .own 3201 4 (ctrows (findS own ro q (l.take i)).1))], [(6400000, .obj [.mp 6400001] false), (6400001, .mp true (esOf own)), (2881, .row 8 (findS own ro q (l.take i)).2.length), (3201, .row 4 (findS own ro q (l.take i)).1.length)]⟩) ⟨l.length, _, ?w, 0, Nat.zero_le _, rfl, rfl⟩ ?r
  case w =>
    rw [hns]
    simp only [runB, finC, finD, AS.get, AS.mem, false_implies, implies_true, ↓reduceIte, Nat.reduceEqDiff, Option.isSome_some, Option.isSome_none, forall_eq_or_imp, forall_eq, reduceCtorEq, Nat.reduceAdd, Nat.reduceMul, List.zip_cons_cons, List.zip_nil_left, List.zip_nil_right, List.forall_mem_nil, List.take_zero, findS, List.foldl_nil, show forks [] = [] from rfl, show ctrows [] = [] from rfl, List.length_nil]
    first | done | simp
  case r =>
    rintro c st ⟨i, hi, rfl, rfl⟩
    refine vc_sound hΓ mixed _ _ _ ?_
    obtain ⟨b1, b2⟩ := find_len own ro q l i hi
    have bm := find_mem own ro q l i hi
    have hii : i * i ≤ 1000 * 1000 := Nat.mul_le_mul (by omega) (by omega)
    by_cases hlt : i < l.length
    · have k1 : decide ((i : Int) < (l.length : Int)) = true := decide_eq_true (by omega)
      have e1 : IntKind.i64.wrap ((i : Int) + 1) = (i : Int) + 1 := wrapI (by omega)
      have hi2 : ((i : Int) < (l.length : Int)) = True := eq_true (by omega)
      have hg := ctrowsD l i hlt
      have hfs := find_succ own ro q l i hlt
      have hyv := hvs (l.getD i zeroC) (by rw [List.getD_eq_getElem?_getD, List.getElem?_eq_getElem hlt]; exact List.getElem_mem hlt)
      generalize findS own ro q (l.take i) = s at *
      generalize l.getD i zeroC = y at *
      obtain ⟨A, O⟩ := s
      dsimp only at b1 b2 bm ⊢
      have q1 := ceck_at y.vw y.ht y.bl y.vs ro q (by omega) hro
      rw [show (⟨y.vw, y.ht, y.bl, y.vs⟩ : Ct) = y from rfl] at q1
      have hAl := ctrows_length A
      have hOl := forks_length O
      unfold Ct.pcs at hg
      rcases ctS_val y ro q with hz | hz
      · rw [show stF own ro q (A, O) y = (A ++ [y], O ++ (A.filter fun x => conS own x.bl y.bl).map fun x => (x, y)) from if_pos hz] at hfs
        rw [hz] at q1
        have g0 : ((0 : Int) != 0) = false := rfl
        have qy := cpc_at y hyv
        simp only [runA, runB, runC, runD, runE, runF, fieldE, storeE, binE, ↓reduceIte, Nat.reduceLT, Nat.reduceLeDiff, Nat.reduceEqDiff, Nat.reduceAdd, Nat.reduceMul, Nat.reduceSub, reduceCtorEq, putAt, unE, Nat.reduceBEq, convE, buildE, List.replicate, Int.reduceLT, Int.reduceLE, Int.reduceToNat, mkE, mapSetE, hN, hF, ty_3, ty_9, ty_24, ty_29, ty_31, ty_37, ty_58, ty_59, ty_62, ty_68, notIf, isEq, k1, hi2, hcl, hg, h1, q1, g0, hAl]
        iterate 2 (try (refine drawnP_intro (by kernel_rfl) (by kernel_rfl) ?_; simp only [runA, runB, runC, runD, runE, runF, fieldE, storeE, binE, ↓reduceIte, Nat.reduceLT, Nat.reduceLeDiff, Nat.reduceEqDiff, Nat.reduceAdd, Nat.reduceMul, Nat.reduceSub, reduceCtorEq, putAt, unE, Nat.reduceBEq, convE, buildE, List.replicate, Int.reduceLT, Int.reduceLE, Int.reduceToNat, mkE, mapSetE, hN, hF, ty_3, ty_9, ty_24, ty_29, ty_31, ty_37, ty_58, ty_59, ty_62, ty_68, notIf, isEq, k1, hi2, hcl, hg, h1, q1, g0, hAl]))
        refine AWP.loop (fun c st => ∃ k : Nat, k ≤ A.length ∧ c = A.length - k ∧ st = ⟨[(0, .ptr 6400000 0), (2, .c (.sl (texts ro))), (3, .c (.int .i64 q)), (8, .nilsl), (15, .c (.sl (ctrows l))), (16, .c (.int .i64 (l.length : Int))), (17, .c (.int .i64 (i : Int))), (9, .own 2881 8 (forks (O ++ ((A.take k).filter fun x => conS own x.bl y.bl).map fun x => (x, y)))), (10, .own 3201 4 (ctrows A)), (12, .ptr 768 0), (26, .c (.sl (ctrows A))), (27, .c (.int .i64 (A.length : Int))), (28, .c (.int .i64 (k : Int)))], [(6400000, .obj [.mp 6400001] false), (6400001, .mp true (esOf own)), (2881, .row 8 (O ++ ((A.take k).filter fun x => conS own x.bl y.bl).map fun x => (x, y)).length), (3201, .row 4 A.length), (768, .obj [.c (.int .i64 y.vw), .c (.int .i64 y.ht), .c (.str y.bl), .c (.sl (votes y.vs))] false)]⟩) ⟨A.length, _, ?w2, 0, Nat.zero_le _, rfl, rfl⟩ ?r2
        case w2 =>
          rw [hns]
          simp only [runB, finC, finD, AS.get, AS.mem, false_implies, implies_true, ↓reduceIte, Nat.reduceEqDiff, Option.isSome_some, Option.isSome_none, forall_eq_or_imp, forall_eq, reduceCtorEq, Nat.reduceAdd, Nat.reduceMul, List.zip_cons_cons, List.zip_nil_left, List.zip_nil_right, List.forall_mem_nil, List.take_zero, List.filter_nil, List.map_nil, List.append_nil]
          first | done | simp
        case r2 =>
          rintro c st ⟨k, hk, rfl, rfl⟩
          refine vc_sound hΓ mixed _ _ _ ?_
          have hP : (O ++ ((A.take k).filter fun x => conS own x.bl y.bl).map fun x => (x, y)).length ≤ 2000000 := by
            have := List.length_filter_le (fun x : Ct => conS own x.bl y.bl) (A.take k)
            simp only [List.length_append, List.length_map, List.length_take] at this ⊢
            omega
          by_cases hlk : k < A.length
          · have k2 : decide ((k : Int) < (A.length : Int)) = true := decide_eq_true (by omega)
            have e2 : IntKind.i64.wrap ((k : Int) + 1) = (k : Int) + 1 := wrapI (by omega)
            have hk2 : ((k : Int) < (A.length : Int)) = True := eq_true (by omega)
            have hgk := ctrowsD A k hlk
            have hps := filt_succ (fun x => conS own x.bl y.bl) (fun x => (x, y)) A k hlk
            have hxv := hvs (A.getD k zeroC) (bm _ (by rw [List.getD_eq_getElem?_getD, List.getElem?_eq_getElem hlk]; exact List.getElem_mem hlk))
            generalize A.getD k zeroC = x at *
            have hps2 : O ++ ((A.take (k + 1)).filter fun x => conS own x.bl y.bl).map (fun x => (x, y)) = (O ++ ((A.take k).filter fun x => conS own x.bl y.bl).map fun x => (x, y)) ++ (if conS own x.bl y.bl = true then [(x, y)] else []) := by
              rw [hps, List.append_assoc]
            have hln : O.length + (((A.take (k + 1)).filter fun x => conS own x.bl y.bl).map fun x => (x, y)).length = ((O ++ ((A.take k).filter fun x => conS own x.bl y.bl).map fun x => (x, y)) ++ (if conS own x.bl y.bl = true then [(x, y)] else [])).length := by rw [← List.length_append, hps2]
            generalize O ++ ((A.take k).filter fun x => conS own x.bl y.bl).map (fun x => (x, y)) = P at *
            have q2 := cfl_at own x.bl y.bl htr
            have qx := cpc_at x hxv
            unfold Ct.pcs at hgk
            have hPl := forks_length P
            cases hcf : conS own x.bl y.bl with
            | true =>
              rw [hcf] at q2
              rw [hcf, if_pos rfl, List.length_append, List.length_singleton] at hln
              have hzr : rowsOK 8 [[PC.int .i64 x.vw, .int .i64 x.ht, .str x.bl, .sl (votes x.vs), .int .i64 y.vw, .int .i64 y.ht, .str y.bl, .sl (votes y.vs)]] := by
                intro r hr
                rw [List.mem_singleton] at hr
                rw [hr]; rfl
              have hLb : ((P.length + 1) * 112 ≤ 140737488355328) = True := eq_true (by omega)
              have happ : forks P ++ [[PC.int .i64 x.vw, .int .i64 x.ht, .str x.bl, .sl (votes x.vs), .int .i64 y.vw, .int .i64 y.ht, .str y.bl, .sl (votes y.vs)]] = forks (P ++ [(x, y)]) := by simp [forks, Ct.pcs]
              simp only [runA, runB, runC, runD, runE, runF, fieldE, storeE, binE, ↓reduceIte, Nat.reduceLT, Nat.reduceLeDiff, Nat.reduceEqDiff, Nat.reduceAdd, Nat.reduceMul, Nat.reduceSub, reduceCtorEq, putAt, unE, Nat.reduceBEq, convE, buildE, List.replicate, Int.reduceLT, Int.reduceLE, Int.reduceToNat, mkE, mapSetE, hN, hF, ty_3, ty_9, ty_24, ty_29, ty_31, ty_37, ty_58, ty_59, ty_62, ty_68, notIf, isEq, k2, hk2, hAl, hgk, e2, h2, q2, h3, qx, qy, hzr, hLb, hPl, happ]
              iterate 4 (try (refine drawnP_intro (by kernel_rfl) (by kernel_rfl) ?_; simp only [runA, runB, runC, runD, runE, runF, fieldE, storeE, binE, ↓reduceIte, Nat.reduceLT, Nat.reduceLeDiff, Nat.reduceEqDiff, Nat.reduceAdd, Nat.reduceMul, Nat.reduceSub, reduceCtorEq, putAt, unE, Nat.reduceBEq, convE, buildE, List.replicate, Int.reduceLT, Int.reduceLE, Int.reduceToNat, mkE, mapSetE, hN, hF, ty_3, ty_9, ty_24, ty_29, ty_31, ty_37, ty_58, ty_59, ty_62, ty_68, notIf, isEq, k2, hk2, hAl, hgk, e2, h2, q2, h3, qx, qy, hzr, hLb, hPl, happ]))
              refine ⟨A.length - (k + 1), _, by omega, ?_, k + 1, by omega, rfl, rfl⟩
              rw [hns, hps2, hcf, if_pos rfl]
              simp only [runB, finC, finD, AS.get, AS.mem, false_implies, implies_true, ↓reduceIte, Nat.reduceEqDiff, Option.isSome_some, Option.isSome_none, forall_eq_or_imp, forall_eq, reduceCtorEq, Nat.reduceAdd, Nat.reduceMul, List.zip_cons_cons, List.zip_nil_left, List.zip_nil_right, List.forall_mem_nil]
              first | done | (simp; done) | (refine ⟨by omega, by simp⟩; done) | (simp; omega) | omega
            | false =>
              rw [hcf] at q2
              rw [hcf, if_neg (by decide), List.append_nil] at hln
              simp only [runA, runB, runC, runD, runE, runF, fieldE, storeE, binE, ↓reduceIte, Nat.reduceLT, Nat.reduceLeDiff, Nat.reduceEqDiff, Nat.reduceAdd, Nat.reduceMul, Nat.reduceSub, reduceCtorEq, putAt, unE, Nat.reduceBEq, convE, buildE, List.replicate, Int.reduceLT, Int.reduceLE, Int.reduceToNat, mkE, mapSetE, hN, hF, ty_3, ty_9, ty_24, ty_29, ty_31, ty_37, ty_58, ty_59, ty_62, ty_68, notIf, isEq, k2, hk2, hAl, hgk, e2, h2, q2, hPl]
              iterate 4 (try (refine drawnP_intro (by kernel_rfl) (by kernel_rfl) ?_; simp only [runA, runB, runC, runD, runE, runF, fieldE, storeE, binE, ↓reduceIte, Nat.reduceLT, Nat.reduceLeDiff, Nat.reduceEqDiff, Nat.reduceAdd, Nat.reduceMul, Nat.reduceSub, reduceCtorEq, putAt, unE, Nat.reduceBEq, convE, buildE, List.replicate, Int.reduceLT, Int.reduceLE, Int.reduceToNat, mkE, mapSetE, hN, hF, ty_3, ty_9, ty_24, ty_29, ty_31, ty_37, ty_58, ty_59, ty_62, ty_68, notIf, isEq, k2, hk2, hAl, hgk, e2, h2, q2, hPl]))
              refine ⟨A.length - (k + 1), _, by omega, ?_, k + 1, by omega, rfl, rfl⟩
              rw [hns, hps2, hcf, if_neg (by decide), List.append_nil]
              simp only [runB, finC, finD, AS.get, AS.mem, false_implies, implies_true, ↓reduceIte, Nat.reduceEqDiff, Option.isSome_some, Option.isSome_none, forall_eq_or_imp, forall_eq, reduceCtorEq, Nat.reduceAdd, Nat.reduceMul, List.zip_cons_cons, List.zip_nil_left, List.zip_nil_right, List.forall_mem_nil]
              first | done | (simp; done) | (refine ⟨by omega, by simp⟩; done) | (simp; omega) | omega
          · have k2 : decide ((k : Int) < (A.length : Int)) = false := decide_eq_false (by omega)
            obtain rfl : k = A.length := by omega
            rw [List.take_length] at hP ⊢
            have hzr : rowsOK 4 [[PC.int .i64 y.vw, .int .i64 y.ht, .str y.bl, .sl (votes y.vs)]] := by
              intro r hr
              rw [List.mem_singleton] at hr
              rw [hr]; rfl
            have hLb : ((A.length + 1) * 56 ≤ 140737488355328) = True := eq_true (by omega)
            have happ : ctrows A ++ [[PC.int .i64 y.vw, .int .i64 y.ht, .str y.bl, .sl (votes y.vs)]] = ctrows (A ++ [y]) := by simp [ctrows, Ct.pcs]
            generalize O ++ (A.filter fun x => conS own x.bl y.bl).map (fun x => (x, y)) = P at *
            simp only [runA, runB, runC, runD, runE, runF, fieldE, storeE, binE, ↓reduceIte, Nat.reduceLT, Nat.reduceLeDiff, Nat.reduceEqDiff, Nat.reduceAdd, Nat.reduceMul, Nat.reduceSub, reduceCtorEq, putAt, unE, Nat.reduceBEq, convE, buildE, List.replicate, Int.reduceLT, Int.reduceLE, Int.reduceToNat, mkE, mapSetE, hN, hF, ty_3, ty_9, ty_24, ty_29, ty_31, ty_37, ty_58, ty_59, ty_62, ty_68, notIf, isEq, k2, hAl, e1, hzr, hLb, happ]
            iterate 3 (try (refine drawnP_intro (by kernel_rfl) (by kernel_rfl) ?_; simp only [runA, runB, runC, runD, runE, runF, fieldE, storeE, binE, ↓reduceIte, Nat.reduceLT, Nat.reduceLeDiff, Nat.reduceEqDiff, Nat.reduceAdd, Nat.reduceMul, Nat.reduceSub, reduceCtorEq, putAt, unE, Nat.reduceBEq, convE, buildE, List.replicate, Int.reduceLT, Int.reduceLE, Int.reduceToNat, mkE, mapSetE, hN, hF, ty_3, ty_9, ty_24, ty_29, ty_31, ty_37, ty_58, ty_59, ty_62, ty_68, notIf, isEq, k2, hAl, e1, hzr, hLb, happ]))
            refine ⟨l.length - (i + 1), _, by omega, ?_, i + 1, by omega, rfl, rfl⟩
            rw [hns, hfs]
            simp only [runB, finC, finD, AS.get, AS.mem, false_implies, implies_true, ↓reduceIte, Nat.reduceEqDiff, Option.isSome_some, Option.isSome_none, forall_eq_or_imp, forall_eq, reduceCtorEq, Nat.reduceAdd, Nat.reduceMul, List.zip_cons_cons, List.zip_nil_left, List.zip_nil_right, List.forall_mem_nil]
            first | done | (simp; done) | (refine ⟨by omega, by simp⟩; done) | (simp; omega) | omega
      · rw [show stF own ro q (A, O) y = (A, O) from if_neg (by rw [hz]; decide)] at hfs
        rw [hz] at q1
        have g0 : ((41 : Int) != 0) = true := rfl
        simp only [runA, runB, runC, runD, runE, runF, fieldE, storeE, binE, ↓reduceIte, Nat.reduceLT, Nat.reduceLeDiff, Nat.reduceEqDiff, Nat.reduceAdd, Nat.reduceMul, Nat.reduceSub, reduceCtorEq, putAt, unE, Nat.reduceBEq, convE, buildE, List.replicate, Int.reduceLT, Int.reduceLE, Int.reduceToNat, mkE, mapSetE, hN, hF, ty_3, ty_9, ty_24, ty_29, ty_31, ty_37, ty_58, ty_59, ty_62, ty_68, notIf, isEq, k1, hi2, hcl, hg, h1, q1, g0, e1]
        iterate 3 (try (refine drawnP_intro (by kernel_rfl) (by kernel_rfl) ?_; simp only [runA, runB, runC, runD, runE, runF, fieldE, storeE, binE, ↓reduceIte, Nat.reduceLT, Nat.reduceLeDiff, Nat.reduceEqDiff, Nat.reduceAdd, Nat.reduceMul, Nat.reduceSub, reduceCtorEq, putAt, unE, Nat.reduceBEq, convE, buildE, List.replicate, Int.reduceLT, Int.reduceLE, Int.reduceToNat, mkE, mapSetE, hN, hF, ty_3, ty_9, ty_24, ty_29, ty_31, ty_37, ty_58, ty_59, ty_62, ty_68, notIf, isEq, k1, hi2, hcl, hg, h1, q1, g0, e1]))
        refine ⟨l.length - (i + 1), _, by omega, ?_, i + 1, by omega, rfl, rfl⟩
        rw [hns, hfs]
        simp only [runB, finC, finD, AS.get, AS.mem, false_implies, implies_true, ↓reduceIte, Nat.reduceEqDiff, Option.isSome_some, Option.isSome_none, forall_eq_or_imp, forall_eq, reduceCtorEq, Nat.reduceAdd, Nat.reduceMul, List.zip_cons_cons, List.zip_nil_left, List.zip_nil_right, List.forall_mem_nil]
        first | done | (simp; done) | (refine ⟨by omega, by simp⟩; done) | (simp; omega) | omega
    · have k1 : decide ((i : Int) < (l.length : Int)) = false := decide_eq_false (by omega)
      obtain rfl : i = l.length := by omega
      rw [List.take_length]
      simp only [runA, runB, runC, runD, runE, runF, fieldE, storeE, binE, ↓reduceIte, Nat.reduceLT, Nat.reduceLeDiff, Nat.reduceEqDiff, Nat.reduceAdd, Nat.reduceMul, Nat.reduceSub, reduceCtorEq, putAt, unE, Nat.reduceBEq, convE, buildE, List.replicate, Int.reduceLT, Int.reduceLE, Int.reduceToNat, mkE, mapSetE, hN, hF, ty_3, ty_9, ty_24, ty_29, ty_31, ty_37, ty_58, ty_59, ty_62, ty_68, notIf, isEq, k1]
      simp only [runB, finC, finD, Option.isSome_some, Option.isSome_none, ↓reduceIte, Nat.reduceEqDiff, Nat.reduceAdd, Nat.reduceMul, forall_eq_or_imp, forall_eq, implies_true, Nat.reduceBEq, reduceCtorEq, false_implies, List.zip_cons_cons, List.zip_nil_left, List.zip_nil_right, Nat.reduceLeDiff, List.forall_mem_nil, rs_25]


variable {Γ : FuncId → Contract}

theorem nodup_le : ∀ (l m : List Int), l.Nodup → (∀ x ∈ l, x ∈ m) → l.length ≤ m.length
  | [], m, _, _ => by simp
  | x :: l, m, hn, hs => by
    have hx : x ∈ m := hs x (by simp)
    have h1 := nodup_le l (m.erase x) (List.nodup_cons.1 hn).2 (fun y hy => by
      have hne : y ≠ x := fun e => (List.nodup_cons.1 hn).1 (e ▸ hy)
      exact (List.mem_erase_of_ne hne).2 (hs y (by simp [hy])))
    rw [List.length_erase_of_mem hx] at h1
    have : 0 < m.length := List.length_pos_of_mem hx
    simp only [List.length_cons]
    omega
theorem filter_two (l : List Int) (p : Int → Bool) : (l.filter p).length + (l.filter fun x => !p x).length = l.length := by
  induction l with
  | nil => rfl
  | cons x l ih =>
    cases h : p x with
    | true => simp [List.filter_cons, h]; omega
    | false => simp [List.filter_cons, h]; omega
theorem share {LA LB S : List Int} {q r : Nat} (ha : LA.Nodup) (hb : LB.Nodup) (la : LA.length = q) (lb : LB.length = q) (ra : ∀ x ∈ LA, 0 ≤ x ∧ x < (r : Int)) (rb : ∀ x ∈ LB, 0 ≤ x ∧ x < (r : Int)) (hs : ∀ x, x ∈ LA → x ∈ LB → x ∈ S) : 2 * q ≤ S.length + r := by
  have h1 : (LB.filter fun x => decide (x ∈ LA)).length ≤ S.length := by
    refine nodup_le _ _ (hb.filter _) (fun x hx => ?_)
    have := List.mem_filter.1 hx
    exact hs x (by simpa using this.2) this.1
  have h2 : (LA ++ LB.filter fun x => !decide (x ∈ LA)).length ≤ ((List.range r).map fun n : Nat => (n : Int)).length := by
    refine nodup_le _ _ ?_ (fun x hx => ?_)
    · rw [List.nodup_append]
      refine ⟨ha, hb.filter _, fun x hx y hy e => ?_⟩
      have := (List.mem_filter.1 hy).2
      subst e
      simp [hx] at this
    · have hr : 0 ≤ x ∧ x < (r : Int) := by
        rcases List.mem_append.1 hx with h | h
        · exact ra x h
        · exact rb x (List.mem_filter.1 h).1
      exact List.mem_map.2 ⟨x.toNat, by rw [List.mem_range]; omega, by omega⟩
  have h3 := filter_two LB fun x => decide (x ∈ LA)
  rw [List.length_append, List.length_map, List.length_range] at h2
  omega

end Go.Proofs.YtenmlgalcjkdbaaGreat.AM
