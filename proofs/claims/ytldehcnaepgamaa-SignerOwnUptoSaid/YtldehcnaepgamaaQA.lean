/-
  QA: Sn2 Sn3 Sg2 Mk1 Mk2 Mk3 Mk4.
-/
import Derived.Test.YtldehcnaepgamaaQ9
set_option linter.unusedVariables false
set_option linter.unusedSimpArgs false
namespace Go.Proofs.Ytldehcnaepgamaa.AM
open Go

variable {Γ : FuncId → Contract}

noncomputable def digC : Contract := mkC (α := Nat × Nat) (fun p => p.1 < 65536 ∧ p.2 ≤ 8) (fun p => [.c (.int .i64 (p.1 : Int)), .c (.int .i64 (p.2 : Int))]) (fun _ => []) (fun p => ⟨[.fresh 1 (ints (digS p.1 p.2))], []⟩)
theorem dig_at (n c : Nat) (h : n < 65536) (h2 : c ≤ 8) : digC [.c (.int .i64 (n : Int)), .c (.int .i64 (c : Int))] [] = some ⟨[.fresh 1 (ints (digS n c))], []⟩ :=
  mkC_at (α := Nat × Nat) (n, c) ⟨h, h2⟩ (by
    rintro ⟨a, b⟩ _ h _
    simp only [List.cons.injEq, AV.c.injEq, PC.int.injEq, true_and, and_true] at h
    obtain ⟨e1, e2⟩ := h
    obtain rfl : a = n := by omega
    obtain rfl : b = c := by omega
    rfl)

set_option maxRecDepth 100000 in
set_option maxHeartbeats 1000000 in
theorem dig_sound : SoundC Try.prog 133 digC := by
  refine sound_fnA ⟨[8], [(7, .toOwn 4 1)]⟩ Try.func133 (by kernel_rfl) rfl rfl ?_
  intro args objs r hr
  obtain ⟨⟨n, c⟩, ⟨hn, hc⟩, rfl, rfl, rfl⟩ := mkC_inv hr
  have hn : n < 65536 := hn
  have hc : c ≤ 8 := hc
  refine ⟨rfl, by show 2 ≤ _; decide, fun E hN hns hF => ?_⟩
  refine vc_sound none0_sound mixed _ _ _ ?_
  have hN := hN.trans nt_133
  have g1 : ((c : Int) * ((8 : Nat) : Int) ≤ 140737488355328) = True := eq_true (by omega)
  have g2 : ((c : Int) ≤ 9223372036854775807) = True := eq_true (by omega)
  simp only [runA, runB, runC, runD, runE, runF, fieldE, storeE, binE, ↓reduceIte, Nat.reduceLT, Nat.reduceLeDiff, Nat.reduceEqDiff, Nat.reduceAdd, Nat.reduceMul, Nat.reduceSub, reduceCtorEq, putAt, unE, Nat.reduceBEq, convE, buildE, List.replicate, Int.reduceLT, Int.reduceLE, Int.reduceToNat, mkE, mapSetE, hN, hF, ty_3, ty_62, notIf, isEq, Int.le_refl, g1, g2, cellsI_rep]
  refine AWP.loop (fun k st => ∃ i : Nat, i ≤ c ∧ k = c - i ∧ st = ⟨[(0, .c (.int .i64 (n : Int))), (1, .c (.int .i64 (c : Int))), (5, .msl 512 0 c true), (10, .c (.int .i64 (c : Int))), (11, .c (.int .i64 (i : Int)))], [(512, .obj (cellsI (dz n c i)) false)]⟩) ⟨c, _, ?w, 0, Nat.zero_le _, rfl, rfl⟩ ?r
  case w =>
    rw [hns]
    simp only [runB, finC, finD, AS.get, AS.mem, false_implies, implies_true, ↓reduceIte, Nat.reduceEqDiff, Option.isSome_some, Option.isSome_none, forall_eq_or_imp, forall_eq, reduceCtorEq, Nat.reduceAdd, Nat.reduceMul, List.zip_cons_cons, List.zip_nil_left, List.zip_nil_right, List.forall_mem_nil, cellsI_amds]
    rw [dz_zero]
    exact ⟨cellsI_amds _ _, rfl⟩
  case r =>
    rintro k st ⟨i, hi, rfl, rfl⟩
    refine vc_sound none0_sound mixed _ _ _ ?_
    have hcl := cellsI_length (dz n c i)
    rw [dz_length] at hcl
    by_cases hlt : i < c
    · have k1 : decide ((i : Int) < (c : Int)) = true := by simpa using hlt
      have k2 : ((i : Int) < (c : Int)) = True := eq_true (by omega)
      have k3 : (i + 1 ≤ c) = True := eq_true hlt
      have e1 : IntKind.i64.wrap ((i : Int) + 1) = (i : Int) + 1 := wrapI (by omega)
      have e2 : IntKind.i64.wrap ((c : Int) - 1) = ((c - 1 : Nat) : Int) := by rw [wrapI (by omega)]; omega
      have e3 : IntKind.i64.wrap (((c - 1 : Nat) : Int) - (i : Int)) = ((c - 1 - i : Nat) : Int) := by rw [wrapI (by omega)]; omega
      have e4 : IntKind.i64.wrap (2 * ((c - 1 - i : Nat) : Int)) = ((2 * (c - 1 - i) : Nat) : Int) := by rw [wrapI (by omega)]; omega
      have e5 := shr_two n (c - 1 - i) (by omega)
      have hq : n / 4 ^ (c - 1 - i) ≤ n := Nat.div_le_self _ _
      have e6 := and_three (n / 4 ^ (c - 1 - i)) (by omega)
      have hp := cellsI_put (l := dz n c i) (i := i) (n / 4 ^ (c - 1 - i) % 4) (by rw [dz_length]; exact hlt)
      rw [dz_set n c i hlt] at hp
      generalize n / 4 ^ (c - 1 - i) % 4 = d at hp e6
      simp only [runA, runB, runC, runD, runE, runF, fieldE, storeE, binE, ↓reduceIte, Nat.reduceLT, Nat.reduceLeDiff, Nat.reduceEqDiff, Nat.reduceAdd, Nat.reduceMul, Nat.reduceSub, reduceCtorEq, unE, Nat.reduceBEq, convE, buildE, List.replicate, Int.reduceLT, Int.reduceLE, Int.reduceToNat, mkE, mapSetE, hN, hF, ty_3, ty_62, notIf, isEq, k1, k2, k3, e1, e2, e3, e4, e5, e6, hcl, hp]
      refine ⟨c - (i + 1), _, by omega, ?_, i + 1, hlt, rfl, rfl⟩
      rw [hns]
      simp only [runB, finC, finD, AS.get, AS.mem, false_implies, implies_true, ↓reduceIte, Nat.reduceEqDiff, Option.isSome_some, Option.isSome_none, forall_eq_or_imp, forall_eq, reduceCtorEq, Nat.reduceAdd, Nat.reduceMul, List.zip_cons_cons, List.zip_nil_left, List.zip_nil_right, List.forall_mem_nil, cellsI_amds]
      first | done | simp
    · have k1 : decide ((i : Int) < (c : Int)) = false := by simpa using hlt
      obtain rfl : i = c := by omega
      have hT := cellsI_toPCs (dz n i i)
      have hch := chunks_ints (dz n i i) i (dz_length n i i).symm
      simp only [runA, runB, runC, runD, runE, runF, fieldE, storeE, binE, ↓reduceIte, Nat.reduceLT, Nat.reduceLeDiff, Nat.reduceEqDiff, Nat.reduceAdd, Nat.reduceMul, Nat.reduceSub, reduceCtorEq, putAt, unE, Nat.reduceBEq, convE, buildE, List.replicate, Int.reduceLT, Int.reduceLE, Int.reduceToNat, mkE, mapSetE, hN, hF, ty_3, ty_62, notIf, isEq, k1]
      rw [dz_full] at hT hch ⊢
      have hml : ((digS n i).map fun x : Nat => PC.int .i64 (x : Int)).length = i := by simp [digS_length]
      simp only [runA, runB, runC, runD, runE, runF, fieldE, storeE, binE, ↓reduceIte, Nat.reduceLT, Nat.reduceLeDiff, Nat.reduceEqDiff, Nat.reduceAdd, Nat.reduceMul, Nat.reduceSub, reduceCtorEq, putAt, unE, Nat.reduceBEq, convE, buildE, List.replicate, Int.reduceLT, Int.reduceLE, Int.reduceToNat, mkE, mapSetE, hN, hF, hns, ty_3, ty_62, doHint, dropT, noName, noNames, noMC, hT, hch, hml, Nat.zero_lt_one]
      simp only [runB, finC, finD, Option.isSome_some, Option.isSome_none, ↓reduceIte, Nat.reduceEqDiff, Nat.reduceAdd, Nat.reduceMul, forall_eq_or_imp, forall_eq, implies_true, Nat.reduceBEq, reduceCtorEq, false_implies, List.zip_cons_cons, List.zip_nil_left, List.zip_nil_right, Nat.reduceLeDiff, List.forall_mem_nil, rs_133]
      simp [ints_length, digS_length]

noncomputable def partC : Contract := mkC (α := List UInt8) (fun b => b.length ≤ 1099511627776) (fun b => [.c (.sl (bytes b))]) (fun _ => []) (fun b => ⟨[.fresh 1 (ints (dS b))], []⟩)
theorem part_at (b : List UInt8) (h : b.length ≤ 1099511627776) : partC [.c (.sl (bytes b))] [] = some ⟨[.fresh 1 (ints (dS b))], []⟩ :=
  mkC_at (α := List UInt8) b h (by
    rintro y _ h _
    simp at h
    rw [bytes_inj h])

set_option maxRecDepth 100000 in
set_option maxHeartbeats 1000000 in
theorem part_sound (hΓ : SoundG Try.prog Γ) (h1 : Γ 135 = sumC) (h2 : Γ 134 = wordC) (h3 : Γ 133 = digC) : SoundC Try.prog 102 partC := by
  refine sound_fn Try.func102 (by kernel_rfl) rfl rfl ?_
  intro args objs r hr
  obtain ⟨b, hl, rfl, rfl, rfl⟩ := mkC_inv hr
  refine ⟨rfl, by show 1 ≤ _; decide, fun E hN hns hF => ?_⟩
  refine vc_sound hΓ mixed _ _ _ ?_
  have hN := hN.trans nt_102
  have hs := sum_at b hl
  have hsl := shaS_length b
  have hw : wordC [.c (.sl (bytes (shaS b))), .c (.int .i64 0)] [] = some ⟨[.pv (.c (.int .u32 ((wordS (shaS b) 0).toNat : Int)))], []⟩ := word_at (shaS b) 0 (by omega)
  have hsh := shr_u32 (wordS (shaS b) 0).toNat
  rw [word_top (shaS b) (by omega)] at hsh
  have ht := top16_lt (shaS b)
  have e1 : IntKind.i64.wrap ((top16 (shaS b) : Nat) : Int) = ((top16 (shaS b) : Nat) : Int) := wrapI (by omega)
  have hd : digC [.c (.int .i64 ((top16 (shaS b) : Nat) : Int)), .c (.int .i64 8)] [] = some ⟨[.fresh 1 (ints (d8 b))], []⟩ := dig_at (top16 (shaS b)) 8 ht (by decide)
  have h8 := d8_length b
  have hi8 : (ints (d8 b)).length = 8 := by rw [ints_length, h8]
  have hz := rowsOK_ints
  simp only [runA, runB, runC, runD, runE, runF, fieldE, storeE, binE, ↓reduceIte, Nat.reduceLT, Nat.reduceLeDiff, Nat.reduceEqDiff, Nat.reduceAdd, Nat.reduceMul, Nat.reduceSub, reduceCtorEq, putAt, unE, Nat.reduceBEq, convE, buildE, List.replicate, Int.reduceLT, Int.reduceLE, Int.reduceToNat, mkE, mapSetE, hN, hF, ty_3, ty_5, ty_25, ty_62, ty_151, notIf, isEq, h1, h2, h3, hs, hw, hsh, e1, hd, hz, hi8]
  refine AWP.loop (fun k st => ∃ i : Nat, i ≤ 8 ∧ k = 8 - i ∧ st = ⟨[(3, .own 770 1 (ints (d8 b))), (4, .c (.int .i64 (lack ((d8 b).take i) : Int))), (13, .own 770 1 (ints (d8 b))), (14, .c (.int .i64 8)), (15, .c (.int .i64 (i : Int)))], [(770, .row 1 8)]⟩) ⟨8, _, ?w, 0, Nat.zero_le _, rfl, rfl⟩ ?r
  case w =>
    rw [hns]
    simp only [runB, finC, finD, AS.get, AS.mem, false_implies, implies_true, ↓reduceIte, Nat.reduceEqDiff, Option.isSome_some, Option.isSome_none, forall_eq_or_imp, forall_eq, reduceCtorEq, Nat.reduceAdd, Nat.reduceMul, List.zip_cons_cons, List.zip_nil_left, List.zip_nil_right, List.forall_mem_nil, hi8]
    simp [lack]
  case r =>
    rintro k st ⟨i, hi, rfl, rfl⟩
    refine vc_sound hΓ mixed _ _ _ ?_
    by_cases hlt : i < 8
    · have k1 : decide ((i : Int) < 8) = true := by simp; omega
      have e2 : IntKind.i64.wrap ((i : Int) + 1) = (i : Int) + 1 := wrapI (by omega)
      have hg := ints_get (d8 b) i (by omega)
      have hlk := lack_take (d8 b) i (by omega)
      have hb1 := lack_le ((d8 b).take i)
      have hb2 : ((d8 b).take i).length ≤ 8 := by rw [List.length_take]; omega
      have hx : (d8 b).getD i 0 < 4 := by rw [d8, digS_get _ _ _ hlt]; exact Nat.mod_lt _ (by decide)
      generalize (d8 b).getD i 0 = x at hg hlk hx
      have e3 : IntKind.i64.wrap (3 - (x : Int)) = ((3 - x : Nat) : Int) := by rw [wrapI (by omega)]; omega
      have e4 : IntKind.i64.wrap (((lack ((d8 b).take i) : Nat) : Int) + ((3 - x : Nat) : Int)) = ((lack ((d8 b).take (i + 1)) : Nat) : Int) := by rw [hlk, wrapI (by omega)]; omega
      simp only [runA, runB, runC, runD, runE, runF, fieldE, storeE, binE, ↓reduceIte, Nat.reduceLT, Nat.reduceLeDiff, Nat.reduceEqDiff, Nat.reduceAdd, Nat.reduceMul, Nat.reduceSub, reduceCtorEq, putAt, unE, Nat.reduceBEq, convE, buildE, List.replicate, Int.reduceLT, Int.reduceLE, Int.reduceToNat, mkE, mapSetE, hN, hF, ty_3, ty_5, ty_25, ty_62, ty_151, notIf, isEq, k1, e2, hg, e3, e4]
      refine ⟨8 - (i + 1), _, by omega, ?_, i + 1, by omega, rfl, rfl⟩
      rw [hns]
      simp only [runB, finC, finD, AS.get, AS.mem, false_implies, implies_true, ↓reduceIte, Nat.reduceEqDiff, Option.isSome_some, Option.isSome_none, forall_eq_or_imp, forall_eq, reduceCtorEq, Nat.reduceAdd, Nat.reduceMul, List.zip_cons_cons, List.zip_nil_left, List.zip_nil_right, List.forall_mem_nil]
      first | done | simp
    · have k1 : decide ((i : Int) < 8) = false := by simp; omega
      obtain rfl : i = 8 := by omega
      have htk : (d8 b).take 8 = d8 b := List.take_of_length_le (by omega)
      rw [htk]
      have hb1 := lack_le (d8 b)
      have hd3 : digC [.c (.int .i64 ((lack (d8 b) : Nat) : Int)), .c (.int .i64 3)] [] = some ⟨[.fresh 1 (ints (digS (lack (d8 b)) 3))], []⟩ := dig_at (lack (d8 b)) 3 (by omega) (by decide)
      have hl3 : (ints (digS (lack (d8 b)) 3)).length = 3 := by rw [ints_length, digS_length]
      have hap : ints (d8 b) ++ ints (digS (lack (d8 b)) 3) = ints (dS b) := ints_app _ _
      simp only [runA, runB, runC, runD, runE, runF, fieldE, storeE, binE, ↓reduceIte, Nat.reduceLT, Nat.reduceLeDiff, Nat.reduceEqDiff, Nat.reduceAdd, Nat.reduceMul, Nat.reduceSub, reduceCtorEq, putAt, unE, Nat.reduceBEq, convE, buildE, List.replicate, Int.reduceLT, Int.reduceLE, Int.reduceToNat, mkE, mapSetE, hN, hF, ty_3, ty_5, ty_25, ty_62, ty_151, notIf, isEq, k1, h3, hd3, hz, hi8, hl3, hap]
      simp only [runB, finC, finD, Option.isSome_some, Option.isSome_none, ↓reduceIte, Nat.reduceEqDiff, Nat.reduceAdd, Nat.reduceMul, forall_eq_or_imp, forall_eq, implies_true, Nat.reduceBEq, reduceCtorEq, false_implies, List.zip_cons_cons, List.zip_nil_left, List.zip_nil_right, Nat.reduceLeDiff, List.forall_mem_nil, rs_102]
      simp [ints_length, dS_length]

set_option maxRecDepth 100000 in
set_option maxHeartbeats 1000000 in
theorem refPar_sound (hΓ : SoundG Try.prog Γ) (h1 : Γ 136 = sumC) : SoundC Try.prog 105 partC := by
  refine sound_fn Try.func105 (by kernel_rfl) rfl rfl ?_
  intro args objs r hr
  obtain ⟨b, hl, rfl, rfl, rfl⟩ := mkC_inv hr
  refine ⟨rfl, by show 1 ≤ _; decide, fun E hN hns hF => ?_⟩
  refine vc_sound hΓ mixed _ _ _ ?_
  have hN := hN.trans nt_105
  have hs := sum_at b hl
  have hsl := shaS_length b
  have b0 := ((shaS b).getD 0 0).toNat_lt
  have b1 := ((shaS b).getD 1 0).toNat_lt
  have g0 : (bytes (shaS b))[0]? = some [.int .u8 (((shaS b).getD 0 0).toNat : Int)] := by simp [bytes, hsl]
  have g1 : (bytes (shaS b))[1]? = some [.int .u8 (((shaS b).getD 1 0).toNat : Int)] := by simp [bytes, hsl]
  have ht : top16 (shaS b) = ((shaS b).getD 0 0).toNat * 256 + ((shaS b).getD 1 0).toNat := rfl
  have htl := top16_lt (shaS b)
  have hz := rowsOK_ints
  have hd8 : d8 b = digS (top16 (shaS b)) 8 := rfl
  generalize ((shaS b).getD 0 0).toNat = x0 at b0 g0 ht
  generalize ((shaS b).getD 1 0).toNat = x1 at b1 g1 ht
  have e1 : IntKind.i64.wrap (x0 : Int) = (x0 : Int) := wrapI (by omega)
  have e2 : IntKind.i64.wrap (x1 : Int) = (x1 : Int) := wrapI (by omega)
  have e3 : IntKind.i64.wrap ((x0 : Int) * 256) = ((x0 * 256 : Nat) : Int) := by rw [wrapI (by omega)]; omega
  have e4 : IntKind.i64.wrap (((x0 * 256 : Nat) : Int) + (x1 : Int)) = ((top16 (shaS b) : Nat) : Int) := by rw [ht, wrapI (by omega)]; omega
  simp only [runA, runB, runC, runD, runE, runF, fieldE, storeE, binE, ↓reduceIte, Nat.reduceLT, Nat.reduceLeDiff, Nat.reduceEqDiff, Nat.reduceAdd, Nat.reduceMul, Nat.reduceSub, reduceCtorEq, putAt, unE, Nat.reduceBEq, convE, buildE, List.replicate, Int.reduceLT, Int.reduceLE, Int.reduceToNat, mkE, mapSetE, hN, hF, ty_3, ty_5, ty_25, ty_46, ty_62, notIf, isEq, h1, hs, g0, g1, e1, e2, e3, e4]
  refine drawnP_intro (by kernel_rfl) (by kernel_rfl) ?_
  simp only [runA, runB, runC, runD, runE, runF, fieldE, storeE, binE, ↓reduceIte, Nat.reduceLT, Nat.reduceLeDiff, Nat.reduceEqDiff, Nat.reduceAdd, Nat.reduceMul, Nat.reduceSub, reduceCtorEq, putAt, unE, Nat.reduceBEq, convE, buildE, List.replicate, Int.reduceLT, Int.reduceLE, Int.reduceToNat, mkE, mapSetE, hN, hF, ty_3, ty_5, ty_25, ty_46, ty_62, notIf, isEq, g0, g1, e1, e2, e3, e4]
  generalize top16 (shaS b) = n at htl hd8 ⊢
  have hl8 := d8_length b
  refine AWP.loop (fun k st => ∃ j : Nat, j ≤ 8 ∧ k = 8 - j ∧ st = ⟨[(4, .c (.int .i64 (n : Int))), (5, .own 2177 1 (ints ((d8 b).take j))), (6, .c (.int .i64 (lack ((d8 b).take j) : Int))), (7, .c (.int .i64 (7 - (j : Int))))], [(2177, .row 1 j)]⟩) ⟨8, _, ?w, 0, Nat.zero_le _, rfl, rfl⟩ ?r
  case w =>
    rw [hns]
    simp only [runB, finC, finD, AS.get, AS.mem, false_implies, implies_true, ↓reduceIte, Nat.reduceEqDiff, Option.isSome_some, Option.isSome_none, forall_eq_or_imp, forall_eq, reduceCtorEq, Nat.reduceAdd, Nat.reduceMul, List.zip_cons_cons, List.zip_nil_left, List.zip_nil_right, List.forall_mem_nil]
    simp [lack, ints]
  case r =>
    rintro k st ⟨i, hi, rfl, rfl⟩
    refine vc_sound hΓ mixed _ _ _ ?_
    by_cases hlt : i < 8
    · have k1 : decide ((7 : Int) - (i : Int) ≥ 0) = true := by simp; omega
      have f1 : IntKind.i64.wrap (2 * (7 - (i : Int))) = ((2 * (7 - i) : Nat) : Int) := by rw [wrapI (by omega)]; omega
      have f2 : IntKind.u64.wrap ((2 * (7 - i) : Nat) : Int) = ((2 * (7 - i) : Nat) : Int) := wrapU (by omega)
      have f3 := shr_two n (7 - i) (by omega)
      have hq : n / 4 ^ (7 - i) ≤ n := Nat.div_le_self _ _
      have f4 := tmod_4 (n / 4 ^ (7 - i))
      have f5 : ((4 : Int) = 0) = False := by simp
      have hlk := lack_take (d8 b) i (by omega)
      have hb1 := lack_le ((d8 b).take i)
      have hb2 : ((d8 b).take i).length ≤ 8 := by rw [List.length_take]; omega
      have hx0 : (d8 b).getD i 0 = n / 4 ^ (7 - i) % 4 := by rw [hd8, digS_get _ _ _ hlt]
      have hap := d8_take n i hlt
      rw [← hd8] at hap
      rw [hx0] at hlk
      have hx : n / 4 ^ (7 - i) % 4 < 4 := Nat.mod_lt _ (by decide)
      generalize n / 4 ^ (7 - i) % 4 = x at f4 hlk hx hap
      have f6 : IntKind.i64.wrap (((lack ((d8 b).take i) : Nat) : Int) + 3) = ((lack ((d8 b).take i) + 3 : Nat) : Int) := by rw [wrapI (by omega)]; omega
      have f7 : IntKind.i64.wrap (((lack ((d8 b).take i) + 3 : Nat) : Int) - (x : Int)) = ((lack ((d8 b).take (i + 1)) : Nat) : Int) := by rw [hlk, wrapI (by omega)]; omega
      have f8 : IntKind.i64.wrap (7 - (i : Int) - 1) = 7 - ((i + 1 : Nat) : Int) := by rw [wrapI (by omega)]; omega
      have hil : (ints ((d8 b).take i)).length = i := by rw [ints_length, List.length_take]; omega
      have hL : ((i + 1) * 8 ≤ 140737488355328) = True := eq_true (by omega)
      simp only [runA, runB, runC, runD, runE, runF, fieldE, storeE, binE, ↓reduceIte, Nat.reduceLT, Nat.reduceLeDiff, Nat.reduceEqDiff, Nat.reduceAdd, Nat.reduceMul, Nat.reduceSub, reduceCtorEq, putAt, unE, Nat.reduceBEq, convE, buildE, List.replicate, Int.reduceLT, Int.reduceLE, Int.reduceToNat, mkE, mapSetE, hN, hF, ty_3, ty_5, ty_25, ty_46, ty_62, notIf, isEq, k1, f1, f2, f3, f4, f5, f6, f7, f8, hap, hil, hL, hz, rowsOK_one]
      refine ⟨8 - (i + 1), _, by omega, ?_, i + 1, by omega, rfl, rfl⟩
      rw [hns]
      simp only [runB, finC, finD, AS.get, AS.mem, false_implies, implies_true, ↓reduceIte, Nat.reduceEqDiff, Option.isSome_some, Option.isSome_none, forall_eq_or_imp, forall_eq, reduceCtorEq, Nat.reduceAdd, Nat.reduceMul, List.zip_cons_cons, List.zip_nil_left, List.zip_nil_right, List.forall_mem_nil]
      first | done | simp
    · have k1 : decide ((7 : Int) - (i : Int) ≥ 0) = false := by simp; omega
      obtain rfl : i = 8 := by omega
      have htk : (d8 b).take 8 = d8 b := List.take_of_length_le (by omega)
      rw [htk]
      have hb1 := lack_le (d8 b)
      have f1 := tdiv_16 (lack (d8 b)) (by omega)
      have f2 := tdiv_4 (lack (d8 b)) (by omega)
      have f3 := tmod_4 (lack (d8 b))
      have f4 := tmod_4 (lack (d8 b) / 16)
      have f5 := tmod_4 (lack (d8 b) / 4)
      have f6 : ((4 : Int) = 0) = False := by simp
      have f7 : ((16 : Int) = 0) = False := by simp
      have hap : ints (d8 b) ++ ints (digS (lack (d8 b)) 3) = ints (dS b) := ints_app _ _
      have h3 := digS_three (lack (d8 b))
      have hi8 : (ints (d8 b)).length = 8 := by rw [ints_length, hl8]
      have hi3 : (ints (digS (lack (d8 b)) 3)).length = 3 := by rw [ints_length, digS_length]
      simp only [runA, runB, runC, runD, runE, runF, fieldE, storeE, binE, ↓reduceIte, Nat.reduceLT, Nat.reduceLeDiff, Nat.reduceEqDiff, Nat.reduceAdd, Nat.reduceMul, Nat.reduceSub, reduceCtorEq, putAt, unE, Nat.reduceBEq, convE, buildE, List.replicate, Int.reduceLT, Int.reduceLE, Int.reduceToNat, mkE, mapSetE, hN, hF, ty_3, ty_5, ty_25, ty_46, ty_62, notIf, isEq, k1, f1, f2, f3, f4, f5, f6, f7, h3, hap, hi8, hi3, hz]
      simp only [runB, finC, finD, Option.isSome_some, Option.isSome_none, ↓reduceIte, Nat.reduceEqDiff, Nat.reduceAdd, Nat.reduceMul, forall_eq_or_imp, forall_eq, implies_true, Nat.reduceBEq, reduceCtorEq, false_implies, List.zip_cons_cons, List.zip_nil_left, List.zip_nil_right, Nat.reduceLeDiff, List.forall_mem_nil, rs_105]
      simp [ints_length, dS_length]


variable {Γ : FuncId → Contract}

def sgnT (seed : List UInt8) (leaf : Int) (text : List UInt8) (n : Nat) : List (List UInt8) := (List.range n).map fun i : Nat => chainS (secS seed leaf (i : Int)) ((dS text).getD i 0)
def sgnS (seed : List UInt8) (leaf : Int) (text : List UInt8) : List (List UInt8) := sgnT seed leaf text 11
theorem sgnT_succ (seed : List UInt8) (leaf : Int) (text : List UInt8) (n : Nat) : sgnT seed leaf text (n + 1) = sgnT seed leaf text n ++ [chainS (secS seed leaf (n : Int)) ((dS text).getD n 0)] := by simp [sgnT, List.range_succ]
theorem sgnT_length (seed : List UInt8) (leaf : Int) (text : List UInt8) (n : Nat) : (sgnT seed leaf text n).length = n := by simp [sgnT]
theorem secS_length (seed : List UInt8) (leaf place : Int) : (secS seed leaf place).length = 8 := shortS_length _
theorem chain8 (s : List UInt8) (n : Nat) (h : s.length = 8) : (chainS s n).length = 8 := by
  cases n with
  | zero => exact h
  | succ n => exact shortS_length _
structure Sgn where
  seed : List UInt8
  leaf : Int
  text : List UInt8
noncomputable def sgnC : Contract := mkC (α := Sgn) (fun p => p.seed.length ≤ 1000000 ∧ p.text.length ≤ 1099511627776) (fun p => [.c (.str p.seed), .c (.int .i64 p.leaf), .c (.sl (bytes p.text))]) (fun _ => []) (fun p => ⟨[.fresh 1 (texts (sgnS p.seed p.leaf p.text))], []⟩)
theorem sgn_at (seed : List UInt8) (leaf : Int) (text : List UInt8) (h : seed.length ≤ 1000000) (h2 : text.length ≤ 1099511627776) : sgnC [.c (.str seed), .c (.int .i64 leaf), .c (.sl (bytes text))] [] = some ⟨[.fresh 1 (texts (sgnS seed leaf text))], []⟩ :=
  mkC_at (α := Sgn) ⟨seed, leaf, text⟩ ⟨h, h2⟩ (by
    rintro ⟨a, b, c⟩ _ h _
    simp only [List.cons.injEq, AV.c.injEq, PC.int.injEq, PC.str.injEq, PC.sl.injEq, true_and, and_true] at h
    obtain ⟨rfl, rfl, h⟩ := h
    rw [bytes_inj h])

set_option maxRecDepth 100000 in
set_option maxHeartbeats 1000000 in
theorem sgn_sound (hΓ : SoundG Try.prog Γ) (h1 : Γ 102 = partC) (h2 : Γ 104 = secC) (h3 : Γ 103 = chainC) : SoundC Try.prog 58 sgnC := by
  refine sound_fn Try.func58 (by kernel_rfl) rfl rfl ?_
  intro args objs r hr
  obtain ⟨⟨seed, leaf, text⟩, ⟨hl1, hl2⟩, rfl, rfl, rfl⟩ := mkC_inv hr
  have hl1 : seed.length ≤ 1000000 := hl1
  have hl2 : text.length ≤ 1099511627776 := hl2
  refine ⟨rfl, by show 3 ≤ _; decide, fun E hN hns hF => ?_⟩
  refine vc_sound hΓ mixed _ _ _ ?_
  have hN := hN.trans nt_58
  have hp := part_at text hl2
  have hd := dS_length text
  have hi : (ints (dS text)).length = 11 := by rw [ints_length, hd]
  simp only [runA, runB, runC, runD, runE, runF, fieldE, storeE, binE, ↓reduceIte, Nat.reduceLT, Nat.reduceLeDiff, Nat.reduceEqDiff, Nat.reduceAdd, Nat.reduceMul, Nat.reduceSub, reduceCtorEq, putAt, unE, Nat.reduceBEq, convE, buildE, List.replicate, Int.reduceLT, Int.reduceLE, Int.reduceToNat, mkE, mapSetE, hN, hF, ty_3, ty_5, ty_9, ty_22, ty_25, ty_62, notIf, isEq, h1, hp, hi]
  refine AWP.loop (fun k st => ∃ i : Nat, i ≤ 11 ∧ k = 11 - i ∧ st = ⟨[(0, .c (.str seed)), (1, .c (.int .i64 leaf)), (7, .own 1665 1 (texts (sgnT seed leaf text i))), (11, .own 706 1 (ints (dS text))), (12, .c (.int .i64 11)), (13, .c (.int .i64 (i : Int)))], [(1665, .row 1 i), (706, .row 1 11)]⟩) ⟨11, _, ?w, 0, Nat.zero_le _, rfl, rfl⟩ ?r
  case w =>
    rw [hns]
    simp only [runB, finC, finD, AS.get, AS.mem, false_implies, implies_true, ↓reduceIte, Nat.reduceEqDiff, Option.isSome_some, Option.isSome_none, forall_eq_or_imp, forall_eq, reduceCtorEq, Nat.reduceAdd, Nat.reduceMul, List.zip_cons_cons, List.zip_nil_left, List.zip_nil_right, List.forall_mem_nil, hi]
    first | done | simp [sgnT, texts]
  case r =>
    rintro k st ⟨i, hi', rfl, rfl⟩
    refine vc_sound hΓ mixed _ _ _ ?_
    have hpl := sgnT_length seed leaf text i
    by_cases hlt : i < 11
    · have k1 : decide ((i : Int) < 11) = true := by simp; omega
      have e1 : IntKind.i64.wrap ((i : Int) + 1) = (i : Int) + 1 := wrapI (by omega)
      have hg := ints_get (dS text) i (by omega)
      have hs := sec_at seed leaf (i : Int) hl1
      have hsl := secS_length seed leaf (i : Int)
      have hc := chain_at (secS seed leaf (i : Int)) ((dS text).getD i 0) (by omega) (by have := dS_get_lt text i; omega)
      have hz := rowsOK_texts
      have hL : ((i + 1) * 16 ≤ 140737488355328) = True := eq_true (by omega)
      have hsucc := sgnT_succ seed leaf text i
      generalize (dS text).getD i 0 = x at hg hc hsucc
      simp only [runA, runB, runC, runD, runE, runF, fieldE, storeE, binE, ↓reduceIte, Nat.reduceLT, Nat.reduceLeDiff, Nat.reduceEqDiff, Nat.reduceAdd, Nat.reduceMul, Nat.reduceSub, reduceCtorEq, putAt, unE, Nat.reduceBEq, convE, buildE, List.replicate, Int.reduceLT, Int.reduceLE, Int.reduceToNat, mkE, mapSetE, hN, hF, ty_3, ty_5, ty_9, ty_22, ty_25, ty_62, notIf, isEq, k1, e1, hg, h2, hs, h3, hc, texts1, texts_app, ← hsucc, hz, hL, texts_length, hpl]
      refine ⟨11 - (i + 1), _, by omega, ?_, i + 1, by omega, rfl, rfl⟩
      rw [hns]
      simp only [runB, finC, finD, AS.get, AS.mem, false_implies, implies_true, ↓reduceIte, Nat.reduceEqDiff, Option.isSome_some, Option.isSome_none, forall_eq_or_imp, forall_eq, reduceCtorEq, Nat.reduceAdd, Nat.reduceMul, List.zip_cons_cons, List.zip_nil_left, List.zip_nil_right, List.forall_mem_nil]
      first | done | simp
    · have k1 : decide ((i : Int) < 11) = false := by simp; omega
      obtain rfl : i = 11 := by omega
      simp only [runA, runB, runC, runD, runE, runF, fieldE, storeE, binE, ↓reduceIte, Nat.reduceLT, Nat.reduceLeDiff, Nat.reduceEqDiff, Nat.reduceAdd, Nat.reduceMul, Nat.reduceSub, reduceCtorEq, putAt, unE, Nat.reduceBEq, convE, buildE, List.replicate, Int.reduceLT, Int.reduceLE, Int.reduceToNat, mkE, mapSetE, hN, hF, ty_3, ty_5, ty_9, ty_22, ty_25, ty_62, notIf, isEq, k1]
      simp only [runB, finC, finD, Option.isSome_some, Option.isSome_none, ↓reduceIte, Nat.reduceEqDiff, Nat.reduceAdd, Nat.reduceMul, forall_eq_or_imp, forall_eq, implies_true, Nat.reduceBEq, reduceCtorEq, false_implies, List.zip_cons_cons, List.zip_nil_left, List.zip_nil_right, Nat.reduceLeDiff, List.forall_mem_nil, rs_58, sgnS]
      first | done | simp [texts_length, sgnT_length]

set_option maxRecDepth 100000 in
set_option maxHeartbeats 1000000 in
theorem refSgn_sound (hΓ : SoundG Try.prog Γ) (h1 : Γ 105 = partC) (h2 : Γ 107 = secC) (h3 : Γ 106 = chainC) : SoundC Try.prog 62 sgnC := by
  refine sound_fn Try.func62 (by kernel_rfl) rfl rfl ?_
  intro args objs r hr
  obtain ⟨⟨seed, leaf, text⟩, ⟨hl1, hl2⟩, rfl, rfl, rfl⟩ := mkC_inv hr
  have hl1 : seed.length ≤ 1000000 := hl1
  have hl2 : text.length ≤ 1099511627776 := hl2
  refine ⟨rfl, by show 3 ≤ _; decide, fun E hN hns hF => ?_⟩
  refine vc_sound hΓ mixed _ _ _ ?_
  have hN := hN.trans nt_62
  have hp := part_at text hl2
  have hd := dS_length text
  have hi : (ints (dS text)).length = 11 := by rw [ints_length, hd]
  simp only [runA, runB, runC, runD, runE, runF, fieldE, storeE, binE, ↓reduceIte, Nat.reduceLT, Nat.reduceLeDiff, Nat.reduceEqDiff, Nat.reduceAdd, Nat.reduceMul, Nat.reduceSub, reduceCtorEq, putAt, unE, Nat.reduceBEq, convE, buildE, List.replicate, Int.reduceLT, Int.reduceLE, Int.reduceToNat, mkE, mapSetE, hN, hF, ty_3, ty_5, ty_9, ty_22, ty_25, ty_62, notIf, isEq, h1, hp, hi]
  refine AWP.loop (fun k st => ∃ i : Nat, i ≤ 11 ∧ k = 11 - i ∧ st = ⟨[(0, .c (.str seed)), (1, .c (.int .i64 leaf)), (7, .own 706 1 (ints (dS text))), (8, .own 1729 1 (texts (sgnT seed leaf text i))), (9, .c (.int .i64 (i : Int)))], [(1729, .row 1 i), (706, .row 1 11)]⟩) ⟨11, _, ?w, 0, Nat.zero_le _, rfl, rfl⟩ ?r
  case w =>
    rw [hns]
    simp only [runB, finC, finD, AS.get, AS.mem, false_implies, implies_true, ↓reduceIte, Nat.reduceEqDiff, Option.isSome_some, Option.isSome_none, forall_eq_or_imp, forall_eq, reduceCtorEq, Nat.reduceAdd, Nat.reduceMul, List.zip_cons_cons, List.zip_nil_left, List.zip_nil_right, List.forall_mem_nil, hi]
    first | done | simp [sgnT, texts]
  case r =>
    rintro k st ⟨i, hi', rfl, rfl⟩
    refine vc_sound hΓ mixed _ _ _ ?_
    have hpl := sgnT_length seed leaf text i
    by_cases hlt : i < 11
    · have k1 : decide ((i : Int) < 11) = true := by simp; omega
      have e1 : IntKind.i64.wrap ((i : Int) + 1) = (i : Int) + 1 := wrapI (by omega)
      have hg := ints_get (dS text) i (by omega)
      have hs := sec_at seed leaf (i : Int) hl1
      have hsl := secS_length seed leaf (i : Int)
      have hc := chain_at (secS seed leaf (i : Int)) ((dS text).getD i 0) (by omega) (by have := dS_get_lt text i; omega)
      have hz := rowsOK_texts
      have hL : ((i + 1) * 16 ≤ 140737488355328) = True := eq_true (by omega)
      have hsucc := sgnT_succ seed leaf text i
      generalize (dS text).getD i 0 = x at hg hc hsucc
      simp only [runA, runB, runC, runD, runE, runF, fieldE, storeE, binE, ↓reduceIte, Nat.reduceLT, Nat.reduceLeDiff, Nat.reduceEqDiff, Nat.reduceAdd, Nat.reduceMul, Nat.reduceSub, reduceCtorEq, putAt, unE, Nat.reduceBEq, convE, buildE, List.replicate, Int.reduceLT, Int.reduceLE, Int.reduceToNat, mkE, mapSetE, hN, hF, ty_3, ty_5, ty_9, ty_22, ty_25, ty_62, notIf, isEq, k1, e1, hg, h2, hs, h3, hc, texts1, texts_app, ← hsucc, hz, hL, texts_length, hpl]
      refine drawnP_intro (by kernel_rfl) (by kernel_rfl) ?_
      simp only [runA, runB, runC, runD, runE, runF, fieldE, storeE, binE, ↓reduceIte, Nat.reduceLT, Nat.reduceLeDiff, Nat.reduceEqDiff, Nat.reduceAdd, Nat.reduceMul, Nat.reduceSub, reduceCtorEq, putAt, unE, Nat.reduceBEq, convE, buildE, List.replicate, Int.reduceLT, Int.reduceLE, Int.reduceToNat, mkE, mapSetE, hN, hF, ty_3, ty_5, ty_9, ty_22, ty_25, ty_62, notIf, isEq, e1]
      refine ⟨11 - (i + 1), _, by omega, ?_, i + 1, by omega, rfl, rfl⟩
      rw [hns]
      simp only [runB, finC, finD, AS.get, AS.mem, false_implies, implies_true, ↓reduceIte, Nat.reduceEqDiff, Option.isSome_some, Option.isSome_none, forall_eq_or_imp, forall_eq, reduceCtorEq, Nat.reduceAdd, Nat.reduceMul, List.zip_cons_cons, List.zip_nil_left, List.zip_nil_right, List.forall_mem_nil]
      first | done | simp
    · have k1 : decide ((i : Int) < 11) = false := by simp; omega
      obtain rfl : i = 11 := by omega
      simp only [runA, runB, runC, runD, runE, runF, fieldE, storeE, binE, ↓reduceIte, Nat.reduceLT, Nat.reduceLeDiff, Nat.reduceEqDiff, Nat.reduceAdd, Nat.reduceMul, Nat.reduceSub, reduceCtorEq, putAt, unE, Nat.reduceBEq, convE, buildE, List.replicate, Int.reduceLT, Int.reduceLE, Int.reduceToNat, mkE, mapSetE, hN, hF, ty_3, ty_5, ty_9, ty_22, ty_25, ty_62, notIf, isEq, k1]
      simp only [runB, finC, finD, Option.isSome_some, Option.isSome_none, ↓reduceIte, Nat.reduceEqDiff, Nat.reduceAdd, Nat.reduceMul, forall_eq_or_imp, forall_eq, implies_true, Nat.reduceBEq, reduceCtorEq, false_implies, List.zip_cons_cons, List.zip_nil_left, List.zip_nil_right, Nat.reduceLeDiff, List.forall_mem_nil, rs_62, sgnS]
      first | done | simp [texts_length, sgnT_length]

def all8 (parts : List (List UInt8)) : Prop := ∀ p ∈ parts, p.length = 8
instance (parts : List (List UInt8)) : Decidable (all8 parts) := inferInstanceAs (Decidable (∀ p ∈ parts, p.length = 8))
theorem ne8f {n : Nat} (h : n = 8) : ((n : Int) != 8) = false := by subst h; rfl
theorem ne8t {n : Nat} (h : n ≠ 8) : ((n : Int) != 8) = true := by
  rw [bne_iff_ne]
  omega
theorem textsD (l : List (List UInt8)) (i : Nat) (h : i < l.length) : (texts l)[i]? = some [.str (l.getD i [])] := by
  simp [texts, List.getD, h]

variable {Γ : FuncId → Contract}

def keyAV (seed : List UInt8) (leaves : List (List UInt8)) (next : Int) : AV := .agg [.c (.str seed), .c (.sl (texts leaves)), .c (.int .i64 next)]

def sizeC : Contract := fun args objs => match args, objs with | [.c (.int .i64 4)], [] => some ⟨[.pv (.c (.int .i64 122))], []⟩ | _, _ => none
def alive5C : Contract := fun args objs => match args, objs with | [], [] => some ⟨[.pv (.c (.bool true))], []⟩ | _, _ => none

set_option maxHeartbeats 1000000 in
theorem size_sound : SoundC Try.prog 23 sizeC := by
  refine sound_fn Try.func23 (by kernel_rfl) rfl rfl ?_
  intro args objs r hr
  unfold sizeC at hr
  split at hr
  · cases hr
    refine ⟨rfl, by show 1 ≤ _; decide, fun E hN hns hF => ?_⟩
    refine vc_sound none0_sound mixed _ _ _ ?_
    have hN := hN.trans nt_23
    have e1 : IntKind.i64.wrap (11 + 4) = 15 := by decide
    have e2 : IntKind.i64.wrap (8 * 15) = 120 := by decide
    have e3 : IntKind.i64.wrap (2 + 120) = 122 := by decide
    have g1 : decide ((4 : Int) < 0) = false := by decide
    have g2 : decide ((4 : Int) > 4) = false := by decide
    simp only [runA, runB, runC, runD, runE, runF, fieldE, storeE, binE, ↓reduceIte, Nat.reduceLT, Nat.reduceLeDiff, Nat.reduceEqDiff, Nat.reduceAdd, Nat.reduceMul, Nat.reduceSub, reduceCtorEq, putAt, unE, Nat.reduceBEq, convE, buildE, List.replicate, Int.reduceLT, Int.reduceLE, Int.reduceToNat, mkE, mapSetE, hN, hF, ty_3, notIf, isEq, e1, e2, e3, g1, g2]
    simp only [runB, finC, finD, Option.isSome_some, Option.isSome_none, ↓reduceIte, Nat.reduceEqDiff, Nat.reduceAdd, Nat.reduceMul, forall_eq_or_imp, forall_eq, implies_true, Nat.reduceBEq, reduceCtorEq, false_implies, List.zip_cons_cons, List.zip_nil_left, List.zip_nil_right, Nat.reduceLeDiff, List.forall_mem_nil, rs_23]
  · cases hr

set_option maxHeartbeats 1000000 in
theorem alive5_sound (hΓ : SoundG Try.prog Γ) (h1 : Γ 23 = sizeC) : SoundC Try.prog 12 alive5C := by
  refine sound_fn Try.func12 (by kernel_rfl) rfl rfl ?_
  intro args objs r hr
  unfold alive5C at hr
  split at hr
  · cases hr
    refine ⟨rfl, by show 0 ≤ _; decide, fun E hN hns hF => ?_⟩
    refine vc_sound hΓ mixed _ _ _ ?_
    have hN := hN.trans nt_12
    have g1 : ((122 : Int) == 122) = true := rfl
    simp only [runA, runB, runC, runD, runE, runF, fieldE, storeE, binE, ↓reduceIte, Nat.reduceLT, Nat.reduceLeDiff, Nat.reduceEqDiff, Nat.reduceAdd, Nat.reduceMul, Nat.reduceSub, reduceCtorEq, putAt, unE, Nat.reduceBEq, convE, buildE, List.replicate, Int.reduceLT, Int.reduceLE, Int.reduceToNat, mkE, mapSetE, hN, hF, ty_3, ty_4, notIf, isEq, h1, sizeC, g1]
    simp only [runB, finC, finD, Option.isSome_some, Option.isSome_none, ↓reduceIte, Nat.reduceEqDiff, Nat.reduceAdd, Nat.reduceMul, forall_eq_or_imp, forall_eq, implies_true, Nat.reduceBEq, reduceCtorEq, false_implies, List.zip_cons_cons, List.zip_nil_left, List.zip_nil_right, Nat.reduceLeDiff, List.forall_mem_nil, rs_12]
  · cases hr


noncomputable def upS : List (List UInt8) → List (List UInt8)
  | a :: b :: l => shortS (a ++ b) :: upS l
  | l => l
theorem upS_nil : upS [] = [] := by rw [upS]; intro a b l h; cases h
theorem upS_one (x : List UInt8) : upS [x] = [x] := by rw [upS]; intro a b l h; cases h
theorem upS_length : ∀ (l : List (List UInt8)), (upS l).length = (l.length + 1) / 2
  | [] => by rw [upS_nil]; rfl
  | [x] => by rw [upS_one]; simp
  | a :: b :: l => by
    rw [upS, List.length_cons, upS_length l]
    simp only [List.length_cons]; omega
/-- All texts are short enough. -/
def Okl (l : List (List UInt8)) : Prop := l.length ≤ 1099511627 ∧ ∀ s ∈ l, s.length ≤ 10995116277
theorem upS_mem : ∀ (l : List (List UInt8)), (∀ s ∈ l, s.length ≤ 10995116277) → ∀ s ∈ upS l, s.length ≤ 10995116277
  | [], _, s, hs => by rw [upS_nil] at hs; cases hs
  | [x], h, s, hs => by rw [upS_one] at hs; exact h s hs
  | a :: b :: l, h, s, hs => by
    rw [upS] at hs
    rcases List.mem_cons.1 hs with rfl | hs
    · rw [shortS_length]; decide
    · exact upS_mem l (fun x hx => h x (by simp [hx])) s hs
theorem upS_ok {l : List (List UInt8)} (h : Okl l) : Okl (upS l) := by
  refine ⟨?_, upS_mem l h.2⟩
  rw [upS_length]
  have := h.1
  omega

/-- A number of leaves that is a power of two. -/
def powB : Nat → Nat → Bool
  | 0, _ => false
  | f + 1, n => if n ≤ 1 then n == 1 else n % 2 == 0 && powB f (n / 2)
/-- The neighbours on the way up. -/
noncomputable def pathF : Nat → List (List UInt8) → Nat → List (List UInt8)
  | 0, _, _ => []
  | n + 1, l, at_ => if l.length ≤ 1 then [] else l.getD (if at_ % 2 = 1 then at_ - 1 else at_ + 1) [] :: pathF n (upS l) (at_ / 2)
theorem powB_even {f n : Nat} (h : powB (f + 1) n = true) (h1 : 1 < n) : n % 2 = 0 ∧ powB f (n / 2) = true := by
  rw [powB, if_neg (by omega), Bool.and_eq_true, beq_iff_eq] at h
  exact h
theorem powB_of : ∀ (f j : Nat), j < f → powB f (2 ^ j) = true
  | 0, j, h => by omega
  | f + 1, 0, _ => rfl
  | f + 1, j + 1, h => by
    have h2 : 2 ^ (j + 1) = 2 * 2 ^ j := by rw [Nat.pow_succ]; omega
    have hp : 1 ≤ 2 ^ j := Nat.one_le_two_pow
    rw [powB, if_neg (by omega), h2, Nat.mul_mod_right, Nat.mul_div_cancel_left _ (by decide), powB_of f j (by omega)]
    rfl
theorem powB_to : ∀ (f n : Nat), powB f n = true → ∃ j, n = 2 ^ j
  | 0, n, h => by simp [powB] at h
  | f + 1, n, h => by
    by_cases h1 : n ≤ 1
    · rw [powB, if_pos h1, beq_iff_eq] at h; exact ⟨0, h⟩
    · obtain ⟨h2, h3⟩ := powB_even h (by omega)
      obtain ⟨j, hj⟩ := powB_to f _ h3
      exact ⟨j + 1, by rw [Nat.pow_succ]; omega⟩
theorem pow_lt (n : Nat) : n < 2 ^ n := Nat.lt_two_pow_self
theorem powB_fuel {f g n : Nat} (hf : n ≤ f) (hg : n ≤ g) (hn : 1 ≤ n) : powB f n = powB g n := by
  have key : ∀ f g, n ≤ f → n ≤ g → powB f n = true → powB g n = true := by
    intro f g _ hg h
    obtain ⟨j, rfl⟩ := powB_to f n h
    exact powB_of g j (by have := pow_lt j; omega)
  cases h1 : powB f n <;> cases h2 : powB g n <;> try rfl
  · rw [key g f hg hf h2] at h1; cases h1
  · rw [key f g hf hg h1] at h2; cases h2
/-- Is it a power of two? -/
def powN (n : Nat) : Bool := powB n n
theorem powN_half {n : Nat} (h : powN n = true) (h1 : 1 < n) : n % 2 = 0 ∧ powN (n / 2) = true := by
  unfold powN at h ⊢
  obtain ⟨f, rfl⟩ : ∃ f, n = f + 1 := ⟨n - 1, by omega⟩
  obtain ⟨h2, h3⟩ := powB_even h h1
  exact ⟨h2, by rw [powB_fuel (g := f) (Nat.le_refl _) (by omega) (by omega)]; exact h3⟩
theorem powN_of (j : Nat) : powN (2 ^ j) = true := powB_of _ _ (pow_lt j)
theorem powN_to {n : Nat} (h : powN n = true) : ∃ j, n = 2 ^ j := powB_to n n h

theorem pathF_eq : ∀ (n m : Nat) (l : List (List UInt8)) (a : Nat), l.length ≤ n + 1 → l.length ≤ m + 1 → pathF n l a = pathF m l a
  | 0, 0, l, a, _, _ => rfl
  | 0, m + 1, l, a, h, _ => by rw [pathF, pathF, if_pos (by omega)]
  | n + 1, 0, l, a, _, h => by rw [pathF, pathF, if_pos (by omega)]
  | n + 1, m + 1, l, a, h1, h2 => by
    rw [pathF, pathF]
    split
    · rfl
    · rw [pathF_eq n m _ _ (by rw [upS_length]; omega) (by rw [upS_length]; omega)]
noncomputable def pathP (l : List (List UInt8)) (a : Nat) : List (List UInt8) := pathF l.length l a
def nb (a : Nat) : Nat := if a % 2 = 1 then a - 1 else a + 1
theorem pathP_le {l : List (List UInt8)} (h : l.length ≤ 1) (a : Nat) : pathP l a = [] := by
  unfold pathP
  rw [pathF_eq l.length 0 l a (by omega) (by omega), pathF]
theorem pathP_gt {l : List (List UInt8)} (h : ¬ l.length ≤ 1) (a : Nat) : pathP l a = l.getD (nb a) [] :: pathP (upS l) (a / 2) := by
  unfold pathP
  have hl := upS_length l
  obtain ⟨n, hn⟩ : ∃ n, l.length = n + 1 := ⟨l.length - 1, by omega⟩
  rw [hn, pathF, if_neg h, pathF_eq n (upS l).length _ _ (by omega) (by omega)]
  rfl
/-- The path, or why there is none. -/
noncomputable def pathS (l : List (List UInt8)) (a : Int) : List (List UInt8) × Int :=
  if a < 0 ∨ (l.length : Int) ≤ a then ([], 4) else if powN l.length = true then (pathP l a.toNat, 0) else ([], 3)
theorem land_pred : ∀ (f n : Nat), n ≤ f → 1 ≤ n → (n &&& (n - 1) = 0 ↔ powB f n = true)
  | 0, n, h, h1 => by omega
  | f + 1, n, h, h1 => by
    have hd := @Nat.and_div_two n (n - 1)
    have hm := @Nat.and_mod_two_eq_one n (n - 1)
    by_cases e : n ≤ 1
    · have : n = 1 := by omega
      subst this
      simp [powB]
    · rw [powB, if_neg e, Bool.and_eq_true, beq_iff_eq]
      by_cases e2 : n % 2 = 0
      · have ih := land_pred f (n / 2) (by omega) (by omega)
        rw [show (n - 1) / 2 = n / 2 - 1 from by omega] at hd
        constructor
        · intro h0
          refine ⟨e2, ih.1 ?_⟩
          rw [← hd, h0]
        · rintro ⟨_, h3⟩
          have := ih.2 h3
          omega
      · constructor
        · intro h0
          rw [show (n - 1) / 2 = n / 2 from by omega, Nat.and_self] at hd
          omega
        · rintro ⟨h3, _⟩; omega

theorem upS_get : ∀ (l : List (List UInt8)) (i : Nat), 2 * i + 1 < l.length → (upS l)[i]? = some (shortS (l.getD (2 * i) [] ++ l.getD (2 * i + 1) []))
  | [], i, h => by simp at h
  | [_], i, h => by simp at h
  | a :: b :: l, i, h => by
    rw [upS]
    cases i with
    | zero => simp
    | succ i =>
      have := upS_get l i (by simp at h; omega)
      rw [List.getElem?_cons_succ, this]
      have e1 : 2 * (i + 1) = 2 * i + 1 + 1 := by omega
      rw [e1]
      rfl
theorem upS_last : ∀ (l : List (List UInt8)) (i : Nat), 2 * i + 1 = l.length → (upS l)[i]? = l[2 * i]?
  | [], i, h => by simp at h
  | [x], i, h => by
    have : i = 0 := by simp at h; omega
    subst this; rw [upS_one]
  | a :: b :: l, i, h => by
    rw [upS]
    cases i with
    | zero => simp at h
    | succ i =>
      have := upS_last l i (by simp at h; omega)
      rw [List.getElem?_cons_succ, this]
      have e1 : 2 * (i + 1) = 2 * i + 1 + 1 := by omega
      rw [e1]
      rfl

variable {Γ : FuncId → Contract}

noncomputable def upC : Contract := mkC (α := List (List UInt8)) Okl (fun l => [.c (.sl (texts l))]) (fun _ => []) (fun l => ⟨[.pv (.c (.sl (texts (upS l))))], []⟩)
theorem up_at (l : List (List UInt8)) (h : Okl l) : upC [.c (.sl (texts l))] [] = some ⟨[.pv (.c (.sl (texts (upS l))))], []⟩ :=
  mkC_at (α := List (List UInt8)) l h (fun y _ h1 _ => by
    simp at h1
    rw [texts_inj h1])

/-- The pairs' part of the row above. -/
noncomputable def upP (l : List (List UInt8)) (i : Nat) : List (List UInt8) := (upS l).take i
theorem upP_succ (l : List (List UInt8)) (i : Nat) (h : 2 * i + 1 < l.length) : upP l (i + 1) = upP l i ++ [shortS (l[2 * i]'(by omega) ++ l[2 * i + 1]'h)] := by
  unfold upP
  have := upS_get l i h
  rw [List.take_add_one, this]
  simp only [List.getD, List.getElem?_eq_getElem h, List.getElem?_eq_getElem (show 2 * i < l.length by omega), Option.getD_some, Option.toList_some]
theorem upP_length (l : List (List UInt8)) (i : Nat) (h : 2 * i ≤ l.length) : (upP l i).length = i := by
  unfold upP
  rw [List.length_take, upS_length]
  omega
theorem upP_done (l : List (List UInt8)) (i : Nat) (h : 2 * i ≤ l.length) (h2 : l.length ≤ 2 * i + 1) : upP l i ++ l.drop (2 * i) = upS l := by
  have hl := upS_length l
  have hp : (upP l i).length = i := upP_length l i h
  apply List.ext_getElem?
  intro j
  by_cases hj : j < i
  · rw [List.getElem?_append_left (by omega), upP, List.getElem?_take, if_pos hj]
  · rw [List.getElem?_append_right (by omega), hp, List.getElem?_drop]
    by_cases e : l.length = 2 * i
    · rw [List.getElem?_eq_none (by omega), List.getElem?_eq_none (by omega)]
    · by_cases e2 : j = i
      · subst e2
        rw [upS_last l j (by omega)]
        congr 1; omega
      · rw [List.getElem?_eq_none (by omega), List.getElem?_eq_none (by omega)]

set_option maxRecDepth 100000 in
set_option maxHeartbeats 1000000 in
theorem up_sound (hΓ : SoundG Try.prog Γ) (h2 : Γ 113 = shortC) : SoundC Try.prog 131 upC := by
  refine sound_fn Try.func131 (by kernel_rfl) rfl rfl ?_
  intro args objs r hr
  obtain ⟨l, hl, rfl, rfl, rfl⟩ := mkC_inv hr
  refine ⟨rfl, by show 1 ≤ _; decide, fun E hN hns hF => ?_⟩
  refine vc_sound hΓ mixed _ _ _ ?_
  have hN := hN.trans nt_131
  obtain ⟨hl1, hl2⟩ := hl
  simp only [runA, runB, runC, runD, runE, runF, fieldE, storeE, binE, ↓reduceIte, Nat.reduceLT, Nat.reduceLeDiff, Nat.reduceEqDiff, Nat.reduceAdd, Nat.reduceMul, Nat.reduceSub, reduceCtorEq, putAt, unE, Nat.reduceBEq, convE, buildE, List.replicate, Int.reduceLT, Int.reduceLE, Int.reduceToNat, mkE, mapSetE, hN, hF, ty_3, ty_5, ty_9, ty_22, ty_25, ty_43, notIf, isEq]
  refine AWP.loop (fun c st => ∃ i : Nat, 2 * i ≤ l.length ∧ c = l.length - 2 * i ∧ st = ⟨[(0, .c (.sl (texts (l.drop (2 * i))))), (3, .own 1217 1 (texts (upP l i)))], [(1217, .row 1 i)]⟩) ⟨l.length, _, ?w, 0, by omega, by omega, rfl⟩ ?r
  case w =>
    rw [hns]
    simp only [runB, finC, finD, AS.get, AS.mem, false_implies, implies_true, ↓reduceIte, Nat.reduceEqDiff, Option.isSome_some, Option.isSome_none, forall_eq_or_imp, forall_eq, reduceCtorEq, Nat.reduceAdd, Nat.reduceMul, List.zip_cons_cons, List.zip_nil_left, List.zip_nil_right, List.forall_mem_nil]
    simp [upP, texts]
  case r =>
    rintro c st ⟨i, hi, rfl, rfl⟩
    refine vc_sound hΓ mixed _ _ _ ?_
    have hpl := upP_length l i hi
    have hdl : (l.drop (2 * i)).length = l.length - 2 * i := by simp
    by_cases hlt : 2 * i + 1 < l.length
    · have hd : l.drop (2 * i) = l[2 * i]'(by omega) :: l[2 * i + 1] :: l.drop (2 * (i + 1)) := by
        rw [List.drop_eq_getElem_cons (by omega), List.drop_eq_getElem_cons (by omega)]; congr 3
      have hsucc := upP_succ l i hlt
      have hm1 := hl2 _ (List.getElem_mem (show 2 * i < l.length by omega))
      have hm2 := hl2 _ (List.getElem_mem hlt)
      generalize l[2 * i]'(by omega) = a at hd hsucc hm1
      generalize l[2 * i + 1]'hlt = b at hd hsucc hm2
      obtain ⟨tl, htl⟩ : ∃ tl, l.drop (2 * (i + 1)) = tl := ⟨_, rfl⟩
      have ht : texts (l.drop (2 * i)) = [.str a] :: [.str b] :: texts tl := by rw [hd, htl]; rfl
      have hll : tl.length = l.length - 2 * (i + 1) := by rw [← htl]; simp
      have g1 : decide (((tl.length + 1 + 1 : Nat) : Int) > (1 : Int)) = true := by simp; omega
      have g2 : (2 : Int) ≤ ((tl.length + 1 + 1 : Nat) : Int) := by omega
      have hz2 : rowsOK 1 ([PC.str a] :: [PC.str b] :: texts tl) := rowsOK_texts (a :: b :: tl)
      have htk : (texts tl).take tl.length = texts tl := by rw [← texts_length tl, List.take_length]
      have z0 : (0 : Int) ≤ 2 := by decide
      have hs := short_at [a, b] ⟨by simp; omega, by simp⟩
      have hf : [a, b].flatten = a ++ b := by simp
      rw [hf] at hs
      have hsl : [[PC.sl (bytes a)], [PC.sl (bytes b)]] = slices [a, b] := rfl
      have hz := rowsOK_texts
      have hL : (i + 1) * 16 ≤ 140737488355328 := by omega
      rw [ht]
      simp only [runA, runB, runC, runD, runE, runF, fieldE, storeE, binE, ↓reduceIte, Nat.reduceLT, Nat.reduceLeDiff, Nat.reduceEqDiff, Nat.reduceAdd, Nat.reduceMul, Nat.reduceSub, reduceCtorEq, putAt, unE, Nat.reduceBEq, convE, buildE, List.replicate, Int.reduceLT, Int.reduceLE, Int.reduceToNat, mkE, mapSetE, hN, hF, ty_3, ty_5, ty_9, ty_22, ty_25, ty_43, notIf, isEq, g1, h2, hsl, hs, texts1, texts_app, ← hsucc, hz, hL, texts_length, hpl]
      refine drawnP_intro (by kernel_rfl) (by kernel_rfl) ?_
      simp only [runA, runB, runC, runD, runE, runF, fieldE, storeE, binE, ↓reduceIte, Nat.reduceLT, Nat.reduceLeDiff, Nat.reduceEqDiff, Nat.reduceAdd, Nat.reduceMul, Nat.reduceSub, reduceCtorEq, putAt, unE, Nat.reduceBEq, convE, buildE, List.replicate, Int.reduceLT, Int.reduceLE, Int.reduceToNat, mkE, mapSetE, hN, hF, ty_3, ty_5, ty_9, ty_22, ty_25, ty_43, notIf, isEq, g2, hz2, htk, z0, sliceE, boundE, Int.le_refl, texts_length]
      refine ⟨l.length - 2 * (i + 1), _, by omega, ?_, i + 1, by omega, rfl, rfl⟩
      rw [hns, htl]
      simp only [runB, finC, finD, AS.get, AS.mem, false_implies, implies_true, ↓reduceIte, Nat.reduceEqDiff, Option.isSome_some, Option.isSome_none, forall_eq_or_imp, forall_eq, reduceCtorEq, Nat.reduceAdd, Nat.reduceMul, List.zip_cons_cons, List.zip_nil_left, List.zip_nil_right, List.forall_mem_nil]
      first | done | simp
    · obtain ⟨tl, htl⟩ : ∃ tl, l.drop (2 * i) = tl := ⟨_, rfl⟩
      have hdone := upP_done l i hi (by omega)
      have hll : tl.length ≤ 1 := by rw [← htl]; simp; omega
      have g1 : decide ((tl.length : Int) > (1 : Int)) = false := by simp; omega
      have hz := rowsOK_texts
      have hL : (i + tl.length) * 16 ≤ 140737488355328 := by omega
      rw [htl] at hdone ⊢
      simp only [runA, runB, runC, runD, runE, runF, fieldE, storeE, binE, ↓reduceIte, Nat.reduceLT, Nat.reduceLeDiff, Nat.reduceEqDiff, Nat.reduceAdd, Nat.reduceMul, Nat.reduceSub, reduceCtorEq, putAt, unE, Nat.reduceBEq, convE, buildE, List.replicate, Int.reduceLT, Int.reduceLE, Int.reduceToNat, mkE, mapSetE, hN, hF, ty_3, ty_5, ty_9, ty_22, ty_25, ty_43, notIf, isEq, g1, hz, hL, texts_length, texts_app, hdone, hpl]
      simp only [runB, finC, finD, Option.isSome_some, Option.isSome_none, ↓reduceIte, Nat.reduceEqDiff, Nat.reduceAdd, Nat.reduceMul, forall_eq_or_imp, forall_eq, implies_true, Nat.reduceBEq, reduceCtorEq, false_implies, List.zip_cons_cons, List.zip_nil_left, List.zip_nil_right, Nat.reduceLeDiff, List.forall_mem_nil, rs_131]


variable {Γ : FuncId → Contract}

theorem upP_last (l : List (List UInt8)) (i : Nat) (h : 2 * i + 1 = l.length) : upP l (i + 1) = upP l i ++ [l[2 * i]'(by omega)] := by
  unfold upP
  have := upS_last l i h
  rw [List.take_add_one, this]
  simp
theorem upP_all (l : List (List UInt8)) (i : Nat) (h : l.length ≤ 2 * i) : upP l i = upS l := by
  unfold upP
  rw [List.take_of_length_le]
  rw [upS_length]; omega
theorem upP_length' (l : List (List UInt8)) (i : Nat) (h : 2 * i ≤ l.length + 1) : (upP l i).length = i := by
  unfold upP
  rw [List.length_take, upS_length]
  omega

set_option maxRecDepth 100000 in
set_option maxHeartbeats 1000000 in
theorem refUp_sound (hΓ : SoundG Try.prog Γ) (h2 : Γ 111 = short1C) : SoundC Try.prog 67 upC := by
  refine sound_fn Try.func67 (by kernel_rfl) rfl rfl ?_
  intro args objs r hr
  obtain ⟨l, hl, rfl, rfl, rfl⟩ := mkC_inv hr
  refine ⟨rfl, by show 1 ≤ _; decide, fun E hN hns hF => ?_⟩
  refine vc_sound hΓ mixed _ _ _ ?_
  have hN := hN.trans nt_67
  obtain ⟨hl1, hl2⟩ := hl
  simp only [runA, runB, runC, runD, runE, runF, fieldE, storeE, binE, ↓reduceIte, Nat.reduceLT, Nat.reduceLeDiff, Nat.reduceEqDiff, Nat.reduceAdd, Nat.reduceMul, Nat.reduceSub, reduceCtorEq, putAt, unE, Nat.reduceBEq, convE, buildE, List.replicate, Int.reduceLT, Int.reduceLE, Int.reduceToNat, mkE, mapSetE, hN, hF, ty_3, ty_5, ty_9, ty_22, ty_25, notIf, isEq]
  refine AWP.loop (fun c st => ∃ i : Nat, 2 * i ≤ l.length + 1 ∧ c = l.length + 1 - 2 * i ∧ st = ⟨[(0, .c (.sl (texts l))), (3, .own 193 1 (texts (upP l i))), (4, .c (.int .i64 ((2 * i : Nat) : Int)))], [(193, .row 1 i)]⟩) ⟨l.length + 1, _, ?w, 0, by omega, by omega, rfl⟩ ?r
  case w =>
    rw [hns]
    simp only [runB, finC, finD, AS.get, AS.mem, false_implies, implies_true, ↓reduceIte, Nat.reduceEqDiff, Option.isSome_some, Option.isSome_none, forall_eq_or_imp, forall_eq, reduceCtorEq, Nat.reduceAdd, Nat.reduceMul, List.zip_cons_cons, List.zip_nil_left, List.zip_nil_right, List.forall_mem_nil]
    simp [upP, texts]
  case r =>
    rintro c st ⟨i, hi, rfl, rfl⟩
    refine vc_sound hΓ mixed _ _ _ ?_
    have hpl := upP_length' l i hi
    have hz := rowsOK_texts
    have hL : (i + 1) * 16 ≤ 140737488355328 := by omega
    have e2 : IntKind.i64.wrap (((2 * i : Nat) : Int) + 2) = ((2 * (i + 1) : Nat) : Int) := by rw [wrapI (by omega)]; omega
    by_cases hlt : 2 * i < l.length
    · have g1 : decide (((2 * i : Nat) : Int) < (l.length : Int)) = true := by simp; omega
      have e1 : IntKind.i64.wrap ((l.length : Int) - 1) = ((l.length - 1 : Nat) : Int) := by rw [wrapI (by omega)]; omega
      obtain ⟨a, ha⟩ : ∃ a, l[2 * i]? = some a := ⟨l[2 * i], by simp [hlt]⟩
      have har : (texts l)[2 * i]? = some [PC.str a] := by simp [texts, ha]
      have hae : l[2 * i] = a := by
        have := List.getElem?_eq_getElem hlt
        rw [ha] at this; exact (Option.some.inj this).symm
      have hma := hl2 a (List.mem_of_getElem? ha)
      by_cases hlast : 2 * i + 1 = l.length
      · have hsucc := upP_last l i hlast
        rw [hae] at hsucc
        have g2 : ((((2 * i : Nat) : Int)) == ((l.length - 1 : Nat) : Int)) = true := by simp; omega
        simp only [runA, runB, runC, runD, runE, runF, fieldE, storeE, binE, ↓reduceIte, Nat.reduceLT, Nat.reduceLeDiff, Nat.reduceEqDiff, Nat.reduceAdd, Nat.reduceMul, Nat.reduceSub, reduceCtorEq, putAt, unE, Nat.reduceBEq, convE, buildE, List.replicate, Int.reduceLT, Int.reduceLE, Int.reduceToNat, mkE, mapSetE, hN, hF, ty_3, ty_5, ty_9, ty_22, ty_25, notIf, isEq, g1, e1, g2, har, hz, hL, texts1, texts_app, ← hsucc, texts_length, hpl, e2]
        refine ⟨l.length + 1 - 2 * (i + 1), _, by omega, ?_, i + 1, by omega, rfl, rfl⟩
        rw [hns]
        simp only [runB, finC, finD, AS.get, AS.mem, false_implies, implies_true, ↓reduceIte, Nat.reduceEqDiff, Option.isSome_some, Option.isSome_none, forall_eq_or_imp, forall_eq, reduceCtorEq, Nat.reduceAdd, Nat.reduceMul, List.zip_cons_cons, List.zip_nil_left, List.zip_nil_right, List.forall_mem_nil]
        first | done | simp
      · have hlt2 : 2 * i + 1 < l.length := by omega
        have hsucc := upP_succ l i hlt2
        obtain ⟨b, hb⟩ : ∃ b, l[2 * i + 1]? = some b := ⟨l[2 * i + 1], by simp [hlt2]⟩
        have hbr : (texts l)[2 * i + 1]? = some [PC.str b] := by simp [texts, hb]
        have hbe : l[2 * i + 1] = b := by
          have := List.getElem?_eq_getElem hlt2
          rw [hb] at this; exact (Option.some.inj this).symm
        have hmb := hl2 b (List.mem_of_getElem? hb)
        rw [hae, hbe] at hsucc
        have g2 : ((((2 * i : Nat) : Int)) == ((l.length - 1 : Nat) : Int)) = false := by simp; omega
        have e3 : IntKind.i64.wrap (((2 * i : Nat) : Int) + 1) = ((2 * i + 1 : Nat) : Int) := by rw [wrapI (by omega)]; omega
        have hs := short1_at (a ++ b) (by simp; omega)
        have hab : a.length + b.length ≤ 9223372036854775807 := by omega
        simp only [runA, runB, runC, runD, runE, runF, fieldE, storeE, binE, ↓reduceIte, Nat.reduceLT, Nat.reduceLeDiff, Nat.reduceEqDiff, Nat.reduceAdd, Nat.reduceMul, Nat.reduceSub, reduceCtorEq, putAt, unE, Nat.reduceBEq, convE, buildE, List.replicate, Int.reduceLT, Int.reduceLE, Int.reduceToNat, mkE, mapSetE, hN, hF, ty_3, ty_5, ty_9, ty_22, ty_25, notIf, isEq, g1, e1, g2, e3, har, hbr, hab, hz, hL, h2, hs, texts1, texts_app, ← hsucc, texts_length, hpl, e2]
        refine drawnP_intro (by kernel_rfl) (by kernel_rfl) ?_
        simp only [runA, runB, runC, runD, runE, runF, fieldE, storeE, binE, ↓reduceIte, Nat.reduceLT, Nat.reduceLeDiff, Nat.reduceEqDiff, Nat.reduceAdd, Nat.reduceMul, Nat.reduceSub, reduceCtorEq, putAt, unE, Nat.reduceBEq, convE, buildE, List.replicate, Int.reduceLT, Int.reduceLE, Int.reduceToNat, mkE, mapSetE, hN, hF, ty_3, ty_5, ty_9, ty_22, ty_25, notIf, isEq, e2]
        refine ⟨l.length + 1 - 2 * (i + 1), _, by omega, ?_, i + 1, by omega, rfl, rfl⟩
        rw [hns]
        simp only [runB, finC, finD, AS.get, AS.mem, false_implies, implies_true, ↓reduceIte, Nat.reduceEqDiff, Option.isSome_some, Option.isSome_none, forall_eq_or_imp, forall_eq, reduceCtorEq, Nat.reduceAdd, Nat.reduceMul, List.zip_cons_cons, List.zip_nil_left, List.zip_nil_right, List.forall_mem_nil]
        first | done | simp
    · have g1 : decide (((2 * i : Nat) : Int) < (l.length : Int)) = false := by simp; omega
      have hall := upP_all l i (by omega)
      simp only [runA, runB, runC, runD, runE, runF, fieldE, storeE, binE, ↓reduceIte, Nat.reduceLT, Nat.reduceLeDiff, Nat.reduceEqDiff, Nat.reduceAdd, Nat.reduceMul, Nat.reduceSub, reduceCtorEq, putAt, unE, Nat.reduceBEq, convE, buildE, List.replicate, Int.reduceLT, Int.reduceLE, Int.reduceToNat, mkE, mapSetE, hN, hF, ty_3, ty_5, ty_9, ty_22, ty_25, notIf, isEq, g1, hz, texts_length, hall]
      simp only [runB, finC, finD, Option.isSome_some, Option.isSome_none, ↓reduceIte, Nat.reduceEqDiff, Nat.reduceAdd, Nat.reduceMul, forall_eq_or_imp, forall_eq, implies_true, Nat.reduceBEq, reduceCtorEq, false_implies, List.zip_cons_cons, List.zip_nil_left, List.zip_nil_right, Nat.reduceLeDiff, List.forall_mem_nil, rs_67]


variable {Γ : FuncId → Contract}

theorem ofNat64 (n : Nat) : BitVec.ofInt 64 (n : Int) = BitVec.ofNat 64 n := by rw [BitVec.ofInt_natCast]
theorem xor_one_nat (n : Nat) : n ^^^ 1 = if n % 2 = 1 then n - 1 else n + 1 := by
  have h1 : (n ^^^ 1) / 2 = n / 2 := by rw [Nat.xor_div_two]; simp
  have h2 : (n ^^^ 1) % 2 = (n + 1) % 2 := by have := @Nat.xor_mod_two_eq_one n 1; omega
  split <;> omega
theorem xor_one (n : Nat) (h : n < 9223372036854775807) : IntKind.i64.wrap (((BitVec.ofInt IntKind.i64.bits (n : Int) ^^^ BitVec.ofInt IntKind.i64.bits 1).toNat : Nat) : Int) = ((if n % 2 = 1 then n - 1 else n + 1 : Nat) : Int) := by
  have e : (BitVec.ofInt 64 (n : Int) ^^^ BitVec.ofInt 64 1).toNat = if n % 2 = 1 then n - 1 else n + 1 := by
    rw [ofNat64, show (1 : Int) = ((1 : Nat) : Int) from rfl, ofNat64, BitVec.toNat_xor, BitVec.toNat_ofNat, BitVec.toNat_ofNat, Nat.mod_eq_of_lt (by omega), Nat.mod_eq_of_lt (by omega), xor_one_nat]
  show IntKind.i64.wrap (((BitVec.ofInt 64 (n : Int) ^^^ BitVec.ofInt 64 1).toNat : Nat) : Int) = _
  rw [e, wrapI (by split <;> omega)]
theorem shr_one (n : Nat) : ((n : Int).fdiv (2 ^ (min 1 IntKind.i64.bits))) = ((n / 2 : Nat) : Int) := by
  have : (2 : Int) ^ (min 1 IntKind.i64.bits) = 2 := rfl
  rw [this, Int.fdiv_eq_ediv_of_nonneg _ (by decide)]
  omega
theorem tmod_two (n : Nat) : (n : Int).tmod 2 = ((n % 2 : Nat) : Int) := by
  rw [Int.tmod_eq_emod_of_nonneg (by omega)]; omega
theorem tdiv_two (n : Nat) (h : n < 9223372036854775808) : IntKind.i64.wrap ((n : Int).tdiv 2) = ((n / 2 : Nat) : Int) := by
  rw [Int.tdiv_eq_ediv_of_nonneg (by omega), show (n : Int) / 2 = ((n / 2 : Nat) : Int) from by omega, wrapI (by omega)]

structure Cl where
  leaf : List UInt8
  i : Int
  path : List (List UInt8)
end Go.Proofs.Ytldehcnaepgamaa.AM
