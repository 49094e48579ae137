/-
  QH: Wl6 Ro3.
-/
import Derived.Test.YtofkehedjcinhaaQG
import Derived.Test.YtofkehedjcinhaaQ7
set_option linter.unusedVariables false
set_option linter.unusedSimpArgs false
namespace Go.Proofs.Ytofkehedjcinhaa.AM
open Go

variable {Γ : FuncId → Contract}

theorem voKeyK_len (i : Int) : (voKeyK i).leaves.length ≤ 9223372036854775807 := by
  unfold voKeyK
  split
  · have := leavesS_length (rsd i.toNat) 16
    show (leavesS (rsd i.toNat) 16).length ≤ _
    omega
  · simp [zeroK]
theorem txKeyK_len (i : Int) : (txKeyK i).leaves.length ≤ 9223372036854775807 := by
  unfold txKeyK
  split
  · have := leavesS_length (cs i.toNat) 4
    show (leavesS (cs i.toNat) 4).length ≤ _
    omega
  · simp [zeroK]
theorem kyR_app (ks : List Ky) (sd : List UInt8) (lv : List (List UInt8)) (nx : Int) : kyR ks ++ [[.str sd, .sl (texts lv), .int .i64 nx]] = kyR (ks ++ [⟨sd, lv, nx⟩]) := by simp [kyR]
theorem kyR_last (ks : List Ky) (sd : List UInt8) (lv : List (List UInt8)) (nx : Int) : (kyR (ks ++ [⟨sd, lv, nx⟩]))[ks.length]? = some [.str sd, .sl (texts lv), .int .i64 nx] := by simp [kyR]
theorem texts_app1 (rs : List (List UInt8)) (r : List UInt8) : texts rs ++ [[.str r]] = texts (rs ++ [r]) := by simp [texts]
noncomputable def wNC : Contract := mkC (α := Setp) (fun s => s.l.length ≤ 9223372036854775807) (fun s => [.agg [.c (.int .i64 s.r), .c (.int .i64 s.q), .c (.int .i64 s.c), .c (.sl (ruls s.l))]]) (fun _ => []) (fun s => ⟨[.pv (.c .junk), .pv (.c (.int .i64 (checkS s)))], []⟩)
theorem wN_at (r q c : Int) (l : List Rul) (h : l.length ≤ 9223372036854775807) : wNC [.agg [.c (.int .i64 r), .c (.int .i64 q), .c (.int .i64 c), .c (.sl (ruls l))]] [] = some ⟨[.pv (.c .junk), .pv (.c (.int .i64 (checkS ⟨r, q, c, l⟩)))], []⟩ :=
  mkC_at (α := Setp) ⟨r, q, c, l⟩ h (by
    rintro ⟨r', q', c', l'⟩ _ h' _
    simp only [List.cons.injEq, AV.c.injEq, PC.int.injEq, PC.sl.injEq, AV.agg.injEq, true_and, and_true] at h'
    obtain ⟨rfl, rfl, rfl, h'⟩ := h'
    obtain rfl := ruls_inj h'
    rfl)
theorem rowsOK_z {z : Nat} {r : List PC} (h : r.length = z) : rowsOK z [r] := by
  intro x hx
  rw [List.mem_singleton] at hx
  rw [hx]; exact h
theorem firstBad_all {r q : Int} : ∀ {l : List Rul}, firstBad r q l = 0 → ∀ x ∈ l, ruleS x.1 x.2 r q = 0
  | [], _, x, hx => by cases hx
  | y :: l, h, x, hx => by
    unfold firstBad at h
    split at h
    · rename_i h0
      rcases List.mem_cons.1 hx with rfl | hx
      · exact h0
      · exact firstBad_all h x hx
    · rename_i h0
      exact absurd h h0
theorem checkS_ok {s : Setp} (h : checkS s = 0) : ¬ badS s ∧ ∀ x ∈ s.l, ruleS x.1 x.2 s.r s.q = 0 := by
  unfold checkS at h
  split at h
  · cases h
  · rename_i hb
    exact ⟨hb, firstBad_all h⟩
set_option maxRecDepth 100000 in
set_option maxHeartbeats 16000000 in
theorem wN_sound (hΓ : SoundG Try.prog Γ) (h1 : Γ 8 = ckLC) (h2 : Γ 9 = clnRC) (h3 : Γ 10 = cfirstC) (h4 : Γ 11 = voKeyC) (h5 : Γ 12 = rootKC) (h6 : Γ 13 = txKeyC) (h7 : Γ 14 = pplC) : SoundC Try.prog 5 wNC := by
  refine sound_fn Try.func5 (by kernel_rfl) rfl rfl ?_
  intro args objs r0 hr
  obtain ⟨⟨r, q, C, l⟩, hl, rfl, rfl, rfl⟩ := mkC_inv hr
  have hl : l.length ≤ 9223372036854775807 := hl
  refine ⟨rfl, by show 1 ≤ _; decide, fun E hN hns hF => ?_⟩
  refine vc_sound hΓ mixed _ _ _ ?_
  have hN := hN.trans nt_5
  have k0 := ckL_at r q C l hl
  have k2 : cfirstC [] [] = some ⟨[.pv (.agg [.c (.int .i64 0), .c (.int .i64 0), .c (.str genS), .c (.sl [])])], []⟩ := rfl
  dsimp only
  by_cases hz0 : checkS ⟨r, q, C, l⟩ = 0
  case neg =>
    have g0 : (checkS ⟨r, q, C, l⟩ != 0) = true := by simpa using hz0
    generalize checkS ⟨r, q, C, l⟩ = e at *
    simp only [runA, runB, runC, runD, runE, runF, fieldE, storeE, binE, ↓reduceIte, Nat.reduceLT, Nat.reduceLeDiff, Nat.reduceEqDiff, Nat.reduceAdd, Nat.reduceMul, Nat.reduceSub, reduceCtorEq, putAt, unE, Nat.reduceBEq, convE, buildE, List.replicate, Int.reduceLT, Int.reduceLE, Int.reduceToNat, mkE, mapSetE, hN, hF, ty_3, ty_4, ty_9, ty_22, ty_24, ty_26, ty_27, ty_36, ty_37, ty_38, ty_39, ty_40, ty_41, ty_42, ty_43, ty_45, ty_46, ty_47, ty_48, ty_49, ty_50, ty_51, ty_52, ty_53, ty_55, ty_58, ty_61, ty_73, ty_189, notIf, isEq, h1, k0, g0]
    simp only [runB, finC, finD, Option.isSome_some, Option.isSome_none, ↓reduceIte, Nat.reduceEqDiff, Nat.reduceAdd, Nat.reduceMul, forall_eq_or_imp, forall_eq, implies_true, Nat.reduceBEq, reduceCtorEq, false_implies, List.zip_cons_cons, List.zip_nil_left, List.zip_nil_right, Nat.reduceLeDiff, List.forall_mem_nil, rs_5]
  case pos =>
    have hok := checkS_ok hz0
    rw [hz0] at k0 ⊢
    obtain ⟨hb, hru⟩ := hok
    unfold badS at hb
    simp only [not_or] at hb
    obtain ⟨b1, b2, b3, b4, b5, b6, b7⟩ := hb
    dsimp only at b1 b2 b3 b4 b5 b6 hru
    obtain ⟨n, rfl⟩ : ∃ n : Nat, r = (n : Int) := ⟨r.toNat, by omega⟩
    have g0 : ((0 : Int) != 0) = false := rfl
    have k1 := clnR_at l (by omega)
    have c1 : ((0 : Int) ≤ (n : Int)) = True := eq_true (by omega)
    have c2 : ((n : Int) ≤ 9223372036854775807) = True := eq_true (by omega)
    have c3 : ((n : Int) * ((1 : Nat) : Int) ≤ 140737488355328) = True := eq_true (by omega)
    have c4 : ((4 : Int) * ((8 : Nat) : Int) ≤ 140737488355328) = True := eq_true (by decide)
    have c5 : ((n : Int) ≤ (n : Int)) = True := eq_true (Int.le_refl _)
    simp only [runA, runB, runC, runD, runE, runF, fieldE, storeE, binE, ↓reduceIte, Nat.reduceLT, Nat.reduceLeDiff, Nat.reduceEqDiff, Nat.reduceAdd, Nat.reduceMul, Nat.reduceSub, reduceCtorEq, putAt, unE, Nat.reduceBEq, convE, buildE, List.replicate, Int.reduceLT, Int.reduceLE, Int.reduceToNat, mkE, mapSetE, hN, hF, ty_3, ty_4, ty_9, ty_22, ty_24, ty_26, ty_27, ty_36, ty_37, ty_38, ty_39, ty_40, ty_41, ty_42, ty_43, ty_45, ty_46, ty_47, ty_48, ty_49, ty_50, ty_51, ty_52, ty_53, ty_55, ty_58, ty_61, ty_73, ty_189, notIf, isEq, h1, h2, h3, k0, k1, k2, g0, c1, c2, c3, Option.isSome_some, op_makeMap, Option.bind_some, ruls_length, c4, c5]
    iterate 4 (try (refine drawnP_intro (by kernel_rfl) (by kernel_rfl) ?_; try simp only [runA, runB, runC, runD, runE, runF, fieldE, storeE, binE, ↓reduceIte, Nat.reduceLT, Nat.reduceLeDiff, Nat.reduceEqDiff, Nat.reduceAdd, Nat.reduceMul, Nat.reduceSub, reduceCtorEq, putAt, unE, Nat.reduceBEq, convE, buildE, List.replicate, Int.reduceLT, Int.reduceLE, Int.reduceToNat, mkE, mapSetE, hN, hF, ty_3, ty_4, ty_9, ty_22, ty_24, ty_26, ty_27, ty_36, ty_37, ty_38, ty_39, ty_40, ty_41, ty_42, ty_43, ty_45, ty_46, ty_47, ty_48, ty_49, ty_50, ty_51, ty_52, ty_53, ty_55, ty_58, ty_61, ty_73, ty_189, notIf, isEq, h1, h2, h3, k0, k1, k2, g0, c1, c2, c3, Option.isSome_some, op_makeMap, Option.bind_some, ruls_length, c4, c5]))
    refine AWP.loop (fun k st => ∃ (i : Nat) (ks : List Ky) (rs : List (List UInt8)), i ≤ n ∧ k = n - i ∧ ks.length = i ∧ rs.length = i ∧ st = ⟨[(1, .ptr 64 0), (5, .ptr 2048 0), (6, .own 20001 3 (kyR ks)), (45, .c (.int .i64 (n : Int))), (46, .c (.int .i64 (i : Int)))], [(64, .obj [.c (.int .i64 (n : Int)), .c (.int .i64 q), .c (.int .i64 C), .c (.sl (ruls l))] false), (2048, .obj [.c (.int .i64 (n : Int)), .c (.int .i64 q), .c (.int .i64 C), .c (.sl (ruls l)), .own 20002 1 (texts rs), .own 20003 1 [], .c (.int .i64 q), .c (.int .i64 4), .c (.int .i64 32), .c (.int .i64 0), .own 20004 1 [], .own 20005 1 [], .mp 1472, .own 20006 3 [], .c .junk, .c .junk, .c .junk, .c .junk, .c .junk, .c .junk, .c .junk, .c .junk, .c .junk, .c .junk, .c (.bool false), .c (.bool false)] false), (20001, .row 3 i), (20002, .row 1 i), (20003, .row 1 0), (20004, .row 1 0), (20005, .row 1 0), (1472, .mp true []), (20006, .row 3 0)]⟩) ⟨n, _, ?w, 0, [], [], Nat.zero_le _, rfl, rfl, rfl, rfl⟩ ?r
    case w =>
      rw [hns]
      simp only [runB, finC, finD, AS.get, AS.mem, false_implies, implies_true, ↓reduceIte, Nat.reduceEqDiff, Option.isSome_some, Option.isSome_none, forall_eq_or_imp, forall_eq, reduceCtorEq, Nat.reduceAdd, Nat.reduceMul, List.zip_cons_cons, List.zip_nil_left, List.zip_nil_right, List.forall_mem_nil, kyR, texts, List.map_nil]
      first | done | simp
    case r =>
      rintro k st ⟨i, ks, rs, hi, rfl, hks, hrs, rfl⟩
      refine vc_sound hΓ mixed _ _ _ ?_
      by_cases hlt : i < n
      · have g8 : decide ((i : Int) < (n : Int)) = true := by simpa using hlt
        have e2 : IntKind.i64.wrap ((i : Int) + 1) = (i : Int) + 1 := wrapI (by omega)
        have k3 := voKey_at (i : Int)
        have hlen := voKeyK_len (i : Int)
        generalize voKeyK (i : Int) = ky at k3 hlen
        obtain ⟨sd, lv, nx⟩ := ky
        unfold Ky.av at k3
        have k4 := rootK_at ⟨sd, lv, nx⟩ hlen
        dsimp only at k3 k4
        generalize rootK ⟨sd, lv, nx⟩ = rt at k4
        obtain ⟨rt, re⟩ := rt
        dsimp only at k4
        have z3 : rowsOK 3 [[PC.str sd, PC.sl (texts lv), PC.int .i64 nx]] := rowsOK_z rfl
        have z1 : rowsOK 1 [[PC.str rt]] := rowsOK_z rfl
        have L3 : ((i + 1) * 48 ≤ 140737488355328) = True := eq_true (by omega)
        have L1 : ((i + 1) * 16 ≤ 140737488355328) = True := eq_true (by omega)
        have hka := kyR_app ks sd lv nx
        have hkl := kyR_last ks sd lv nx
        rw [hks] at hkl
        have hra := texts_app1 rs rt
        have hkn : (kyR ks).length = i := by rw [kyR_length, hks]
        have hrn : (texts rs).length = i := by rw [texts_length, hrs]
        simp only [runA, runB, runC, runD, runE, runF, fieldE, storeE, binE, ↓reduceIte, Nat.reduceLT, Nat.reduceLeDiff, Nat.reduceEqDiff, Nat.reduceAdd, Nat.reduceMul, Nat.reduceSub, reduceCtorEq, putAt, unE, Nat.reduceBEq, convE, buildE, List.replicate, Int.reduceLT, Int.reduceLE, Int.reduceToNat, mkE, mapSetE, hN, hF, ty_3, ty_4, ty_9, ty_22, ty_24, ty_26, ty_27, ty_36, ty_37, ty_38, ty_39, ty_40, ty_41, ty_42, ty_43, ty_45, ty_46, ty_47, ty_48, ty_49, ty_50, ty_51, ty_52, ty_53, ty_55, ty_58, ty_61, ty_73, ty_189, notIf, isEq, g8, e2, h4, h5, k3, k4, z3, z1, L3, L1, hka, hkl, hra, hkn, hrn]
        iterate 4 (try (refine drawnP_intro (by kernel_rfl) (by kernel_rfl) ?_; try simp only [runA, runB, runC, runD, runE, runF, fieldE, storeE, binE, ↓reduceIte, Nat.reduceLT, Nat.reduceLeDiff, Nat.reduceEqDiff, Nat.reduceAdd, Nat.reduceMul, Nat.reduceSub, reduceCtorEq, putAt, unE, Nat.reduceBEq, convE, buildE, List.replicate, Int.reduceLT, Int.reduceLE, Int.reduceToNat, mkE, mapSetE, hN, hF, ty_3, ty_4, ty_9, ty_22, ty_24, ty_26, ty_27, ty_36, ty_37, ty_38, ty_39, ty_40, ty_41, ty_42, ty_43, ty_45, ty_46, ty_47, ty_48, ty_49, ty_50, ty_51, ty_52, ty_53, ty_55, ty_58, ty_61, ty_73, ty_189, notIf, isEq, g8, e2, h4, h5, k3, k4, z3, z1, L3, L1, hka, hkl, hra, hkn, hrn]))
        refine ⟨n - (i + 1), _, by omega, ?_, i + 1, ks ++ [⟨sd, lv, nx⟩], rs ++ [rt], by omega, rfl, by simp [hks], by simp [hrs], rfl⟩
        rw [hns]
        simp only [runB, finC, finD, AS.get, AS.mem, false_implies, implies_true, ↓reduceIte, Nat.reduceEqDiff, Option.isSome_some, Option.isSome_none, forall_eq_or_imp, forall_eq, reduceCtorEq, Nat.reduceAdd, Nat.reduceMul, List.zip_cons_cons, List.zip_nil_left, List.zip_nil_right, List.forall_mem_nil, kyR_length, texts_length]
        first | done | simp
      · have g8 : decide ((i : Int) < (n : Int)) = false := by simpa using hlt
        obtain rfl : n = i := by omega
        simp only [runA, runB, runC, runD, runE, runF, fieldE, storeE, binE, ↓reduceIte, Nat.reduceLT, Nat.reduceLeDiff, Nat.reduceEqDiff, Nat.reduceAdd, Nat.reduceMul, Nat.reduceSub, reduceCtorEq, putAt, unE, Nat.reduceBEq, convE, buildE, List.replicate, Int.reduceLT, Int.reduceLE, Int.reduceToNat, mkE, mapSetE, hN, hF, ty_3, ty_4, ty_9, ty_22, ty_24, ty_26, ty_27, ty_36, ty_37, ty_38, ty_39, ty_40, ty_41, ty_42, ty_43, ty_45, ty_46, ty_47, ty_48, ty_49, ty_50, ty_51, ty_52, ty_53, ty_55, ty_58, ty_61, ty_73, ty_189, notIf, isEq, g8]
        refine AWP.loop (fun k st => ∃ (j : Nat) (cks : List Ky) (cs : List (List UInt8)), j ≤ 4 ∧ k = 4 - j ∧ cks.length = j ∧ cs.length = j ∧ st = ⟨[(5, .ptr 2048 0), (6, .own 20001 3 (kyR ks)), (75, .c (.int .i64 (j : Int)))], [(2048, .obj [.c (.int .i64 (n : Int)), .c (.int .i64 q), .c (.int .i64 C), .c (.sl (ruls l)), .c (.sl (texts rs)), .own 20003 1 (texts cs), .c (.int .i64 q), .c (.int .i64 4), .c (.int .i64 32), .c (.int .i64 0), .own 20004 1 [], .own 20005 1 [], .mp 1472, .own 20006 3 (kyR cks), .c .junk, .c .junk, .c .junk, .c .junk, .c .junk, .c .junk, .c .junk, .c .junk, .c .junk, .c .junk, .c (.bool false), .c (.bool false)] false), (20001, .row 3 n), (20003, .row 1 j), (20004, .row 1 0), (20005, .row 1 0), (1472, .mp true []), (20006, .row 3 j)]⟩) ⟨4, _, ?w, 0, [], [], Nat.zero_le _, rfl, rfl, rfl, rfl⟩ ?r
        case w =>
          rw [hns]
          simp only [runB, finC, finD, AS.get, AS.mem, false_implies, implies_true, ↓reduceIte, Nat.reduceEqDiff, Option.isSome_some, Option.isSome_none, forall_eq_or_imp, forall_eq, reduceCtorEq, Nat.reduceAdd, Nat.reduceMul, List.zip_cons_cons, List.zip_nil_left, List.zip_nil_right, List.forall_mem_nil, kyR, texts, List.map_nil]
          first | done | simp
        case r =>
          rintro k st ⟨j, cks, cs, hj, rfl, hcks, hcs, rfl⟩
          refine vc_sound hΓ mixed _ _ _ ?_
          by_cases hlt2 : j < 4
          · have g9 : decide ((j : Int) < 4) = true := by simp; omega
            have e2 : IntKind.i64.wrap ((j : Int) + 1) = (j : Int) + 1 := wrapI (by omega)
            have k3 := txKey_at (j : Int)
            have hlen := txKeyK_len (j : Int)
            generalize txKeyK (j : Int) = ky at k3 hlen
            obtain ⟨sd, lv, nx⟩ := ky
            unfold Ky.av at k3
            have k4 := rootK_at ⟨sd, lv, nx⟩ hlen
            dsimp only at k3 k4
            generalize rootK ⟨sd, lv, nx⟩ = rt at k4
            obtain ⟨rt, re⟩ := rt
            dsimp only at k4
            have z3 : rowsOK 3 [[PC.str sd, PC.sl (texts lv), PC.int .i64 nx]] := rowsOK_z rfl
            have z1 : rowsOK 1 [[PC.str rt]] := rowsOK_z rfl
            have L3 : ((j + 1) * 48 ≤ 140737488355328) = True := eq_true (by omega)
            have L1 : ((j + 1) * 16 ≤ 140737488355328) = True := eq_true (by omega)
            have hka := kyR_app cks sd lv nx
            have hkl := kyR_last cks sd lv nx
            rw [hcks] at hkl
            have hra := texts_app1 cs rt
            have hkn : (kyR cks).length = j := by rw [kyR_length, hcks]
            have hrn : (texts cs).length = j := by rw [texts_length, hcs]
            simp only [runA, runB, runC, runD, runE, runF, fieldE, storeE, binE, ↓reduceIte, Nat.reduceLT, Nat.reduceLeDiff, Nat.reduceEqDiff, Nat.reduceAdd, Nat.reduceMul, Nat.reduceSub, reduceCtorEq, putAt, unE, Nat.reduceBEq, convE, buildE, List.replicate, Int.reduceLT, Int.reduceLE, Int.reduceToNat, mkE, mapSetE, hN, hF, ty_3, ty_4, ty_9, ty_22, ty_24, ty_26, ty_27, ty_36, ty_37, ty_38, ty_39, ty_40, ty_41, ty_42, ty_43, ty_45, ty_46, ty_47, ty_48, ty_49, ty_50, ty_51, ty_52, ty_53, ty_55, ty_58, ty_61, ty_73, ty_189, notIf, isEq, g9, e2, h5, h6, k3, k4, z3, z1, L3, L1, hka, hkl, hra, hkn, hrn]
            iterate 4 (try (refine drawnP_intro (by kernel_rfl) (by kernel_rfl) ?_; try simp only [runA, runB, runC, runD, runE, runF, fieldE, storeE, binE, ↓reduceIte, Nat.reduceLT, Nat.reduceLeDiff, Nat.reduceEqDiff, Nat.reduceAdd, Nat.reduceMul, Nat.reduceSub, reduceCtorEq, putAt, unE, Nat.reduceBEq, convE, buildE, List.replicate, Int.reduceLT, Int.reduceLE, Int.reduceToNat, mkE, mapSetE, hN, hF, ty_3, ty_4, ty_9, ty_22, ty_24, ty_26, ty_27, ty_36, ty_37, ty_38, ty_39, ty_40, ty_41, ty_42, ty_43, ty_45, ty_46, ty_47, ty_48, ty_49, ty_50, ty_51, ty_52, ty_53, ty_55, ty_58, ty_61, ty_73, ty_189, notIf, isEq, g9, e2, h5, h6, k3, k4, z3, z1, L3, L1, hka, hkl, hra, hkn, hrn]))
            refine ⟨4 - (j + 1), _, by omega, ?_, j + 1, cks ++ [⟨sd, lv, nx⟩], cs ++ [rt], by omega, rfl, by simp [hcks], by simp [hcs], rfl⟩
            rw [hns]
            simp only [runB, finC, finD, AS.get, AS.mem, false_implies, implies_true, ↓reduceIte, Nat.reduceEqDiff, Option.isSome_some, Option.isSome_none, forall_eq_or_imp, forall_eq, reduceCtorEq, Nat.reduceAdd, Nat.reduceMul, List.zip_cons_cons, List.zip_nil_left, List.zip_nil_right, List.forall_mem_nil, kyR_length, texts_length]
            first | done | simp
          · obtain rfl : j = 4 := by omega
            have g9 : decide (((4 : Nat) : Int) < 4) = false := rfl
            have k7 := ppl_at ⟨(n : Int), q, C, l, rs, cs, [], [], true, [], kyR cks⟩ ks ⟨by show (1 : Int) ≤ n; omega, by show (n : Int) ≤ 5; omega, by show (n : Int) = (rs.length : Int); omega, by show cs.length ≤ 4; omega, by show 1 ≤ q; omega, by show q ≤ (n : Int); omega, by show l.length ≤ 3; omega, hru, by show (n : Int) = (ks.length : Int); omega, rfl, rfl⟩
            unfold Wo.ov at k7
            dsimp only at k7
            rw [Int.toNat_natCast] at k7
            have hkn : (kyR ks).length = n := by rw [kyR_length, hks]
            have hrn : (texts cs).length = 4 := by rw [texts_length, hcs]
            have hcn : (kyR cks).length = 4 := by rw [kyR_length, hcks]
            simp only [runA, runB, runC, runD, runE, runF, fieldE, storeE, binE, ↓reduceIte, Nat.reduceLT, Nat.reduceLeDiff, Nat.reduceEqDiff, Nat.reduceAdd, Nat.reduceMul, Nat.reduceSub, reduceCtorEq, putAt, unE, Nat.reduceBEq, convE, buildE, List.replicate, Int.reduceLT, Int.reduceLE, Int.reduceToNat, mkE, mapSetE, hN, hF, ty_3, ty_4, ty_9, ty_22, ty_24, ty_26, ty_27, ty_36, ty_37, ty_38, ty_39, ty_40, ty_41, ty_42, ty_43, ty_45, ty_46, ty_47, ty_48, ty_49, ty_50, ty_51, ty_52, ty_53, ty_55, ty_58, ty_61, ty_73, ty_189, notIf, isEq, g9, h7, k7, hkn, hrn, hcn, jr_length]
            simp only [runB, finC, finD, Option.isSome_some, Option.isSome_none, ↓reduceIte, Nat.reduceEqDiff, Nat.reduceAdd, Nat.reduceMul, forall_eq_or_imp, forall_eq, implies_true, Nat.reduceBEq, reduceCtorEq, false_implies, List.zip_cons_cons, List.zip_nil_left, List.zip_nil_right, Nat.reduceLeDiff, List.forall_mem_nil, rs_5]


variable {Γ : FuncId → Contract}

structure Sm where
  a : Setp
  b : Setp
end Go.Proofs.Ytofkehedjcinhaa.AM
