/-
  QD: Sn1 Sn2 Sn3.
-/
import Derived.Test.YtenmlgalcjkdbaaGreatQC
set_option linter.unusedVariables false
set_option linter.unusedSimpArgs false
namespace Go.Proofs.YtenmlgalcjkdbaaGreat.AM
open Go

def digS (n count : Nat) : List Nat := (List.range count).map fun i : Nat => n / 4 ^ (count - 1 - i) % 4
def ints (l : List Nat) : List (List PC) := l.map fun x : Nat => [PC.int .i64 (x : Int)]
theorem ints_length (l : List Nat) : (ints l).length = l.length := by simp [ints]
theorem ints_app (a b : List Nat) : ints a ++ ints b = ints (a ++ b) := by simp [ints]
theorem rowsOK_ints (l : List Nat) : rowsOK 1 (ints l) := by
  intro r hr
  simp only [ints, List.mem_map] at hr
  obtain ⟨b, _, rfl⟩ := hr
  rfl
theorem rowsOK_one (c : PC) : rowsOK 1 [[c]] := by
  intro r hr
  simp only [List.mem_singleton] at hr
  rw [hr]
  rfl
theorem ints_get (l : List Nat) (i : Nat) (h : i < l.length) : (ints l)[i]? = some [.int .i64 ((l.getD i 0 : Nat) : Int)] := by
  simp [ints, List.getD, h]
theorem digS_length (n c : Nat) : (digS n c).length = c := by simp [digS]
theorem digS_lt {n c x : Nat} (h : x ∈ digS n c) : x < 4 := by
  simp only [digS, List.mem_map] at h
  obtain ⟨i, _, rfl⟩ := h
  exact Nat.mod_lt _ (by decide)
theorem digS_get (n c i : Nat) (h : i < c) : (digS n c).getD i 0 = n / 4 ^ (c - 1 - i) % 4 := by
  simp [digS, List.getD, h]
def lack : List Nat → Nat
  | [] => 0
  | x :: l => (3 - x) + lack l
theorem lack_le (l : List Nat) : lack l ≤ 3 * l.length := by
  induction l with
  | nil => simp [lack]
  | cons x l ih => simp only [lack, List.length_cons]; omega
theorem lack_app (a b : List Nat) : lack (a ++ b) = lack a + lack b := by
  induction a with
  | nil => simp [lack]
  | cons x a ih => simp only [List.cons_append, lack, ih]; omega
def top16 (b : List UInt8) : Nat := (b.getD 0 0).toNat * 256 + (b.getD 1 0).toNat
theorem top16_lt (b : List UInt8) : top16 b < 65536 := by
  unfold top16
  have h1 := (b.getD 0 0).toNat_lt
  have h2 := (b.getD 1 0).toNat_lt
  omega
def d8 (b : List UInt8) : List Nat := digS (top16 (shaS b)) 8
def dS (b : List UInt8) : List Nat := d8 b ++ digS (lack (d8 b)) 3
theorem d8_length (b : List UInt8) : (d8 b).length = 8 := digS_length _ _
theorem dS_length (b : List UInt8) : (dS b).length = 11 := by rw [dS, List.length_append, d8_length, digS_length]
theorem dS_lt {b : List UInt8} {x : Nat} (h : x ∈ dS b) : x < 4 := by
  rcases List.mem_append.1 h with h | h
  · exact digS_lt h
  · exact digS_lt h
theorem dS_get_lt (b : List UInt8) (i : Nat) : (dS b).getD i 0 < 4 := by
  rw [List.getD]
  cases h : (dS b)[i]? with
  | none => decide
  | some x => exact dS_lt (List.mem_of_getElem? h)

theorem word_step (a : W32) (c : UInt8) (h : a.toNat < 16777216) : ((a <<< 8) ||| bw c).toNat = a.toNat * 256 + c.toNat := by
  have hc := c.toNat_lt
  have h1 : (bw c).toNat = c.toNat := by
    simp only [bw, BitVec.toNat_ofNat]
    exact Nat.mod_eq_of_lt (by omega)
  rw [BitVec.toNat_or, BitVec.toNat_shiftLeft, h1, Nat.mod_eq_of_lt (by rw [Nat.shiftLeft_eq]; omega), ← Nat.shiftLeft_add_eq_or_of_lt (by omega), Nat.shiftLeft_eq]
theorem word_top (b : List UInt8) (h : 4 ≤ b.length) : (wordS b 0).toNat / 65536 = top16 b := by
  have c0 : (if (0 : Int) ≤ 0 ∧ (0 : Int) < (b.length : Int) - ((0 : Nat) : Int) then bw (b.getD ((0 : Int).toNat + 0) 0) else 0) = bw (b.getD 0 0) := by rw [if_pos (by omega)]; rfl
  have c1 : (if (0 : Int) ≤ 0 ∧ (0 : Int) < (b.length : Int) - ((1 : Nat) : Int) then bw (b.getD ((0 : Int).toNat + 1) 0) else 0) = bw (b.getD 1 0) := by rw [if_pos (by omega)]; rfl
  have c2 : (if (0 : Int) ≤ 0 ∧ (0 : Int) < (b.length : Int) - ((2 : Nat) : Int) then bw (b.getD ((0 : Int).toNat + 2) 0) else 0) = bw (b.getD 2 0) := by rw [if_pos (by omega)]; rfl
  have c3 : (if (0 : Int) ≤ 0 ∧ (0 : Int) < (b.length : Int) - ((3 : Nat) : Int) then bw (b.getD ((0 : Int).toNat + 3) 0) else 0) = bw (b.getD 3 0) := by rw [if_pos (by omega)]; rfl
  have h0 := (b.getD 0 0).toNat_lt
  have h1 := (b.getD 1 0).toNat_lt
  have h2 := (b.getD 2 0).toNat_lt
  have h3 := (b.getD 3 0).toNat_lt
  have w1 : (wordTo b 0 1).toNat = (b.getD 0 0).toNat := by
    rw [wordTo, c0, wordTo, word_step _ _ (by decide)]; simp
  have w2 : (wordTo b 0 2).toNat = (b.getD 0 0).toNat * 256 + (b.getD 1 0).toNat := by
    rw [wordTo, c1, word_step _ _ (by omega), w1]
  have w3 : (wordTo b 0 3).toNat = ((b.getD 0 0).toNat * 256 + (b.getD 1 0).toNat) * 256 + (b.getD 2 0).toNat := by
    rw [wordTo, c2, word_step _ _ (by omega), w2]
  have w4 : (wordS b 0).toNat = (((b.getD 0 0).toNat * 256 + (b.getD 1 0).toNat) * 256 + (b.getD 2 0).toNat) * 256 + (b.getD 3 0).toNat := by
    rw [wordS, wordTo, c3, word_step _ _ (by omega), w3]
  rw [w4]
  unfold top16
  omega

theorem ofNat64s (n : Nat) : BitVec.ofInt 64 (n : Int) = BitVec.ofNat 64 n := by simp
theorem and_three (n : Nat) (h : n < 9223372036854775808) : IntKind.i64.wrap (((BitVec.ofInt IntKind.i64.bits (n : Int) &&& BitVec.ofInt IntKind.i64.bits 3).toNat : Nat) : Int) = ((n % 4 : Nat) : Int) := by
  have e : (BitVec.ofInt 64 (n : Int) &&& BitVec.ofInt 64 3).toNat = n % 4 := by
    rw [ofNat64s, show (3 : Int) = ((3 : Nat) : Int) from rfl, ofNat64s, BitVec.toNat_and, BitVec.toNat_ofNat, BitVec.toNat_ofNat, Nat.mod_eq_of_lt (by omega), Nat.mod_eq_of_lt (by omega)]
    exact Nat.and_two_pow_sub_one_eq_mod n 2
  show IntKind.i64.wrap (((BitVec.ofInt 64 (n : Int) &&& BitVec.ofInt 64 3).toNat : Nat) : Int) = _
  rw [e, wrapI (by omega)]
theorem shr_two (n j : Nat) (h : j ≤ 16) : shOp .shr .i64 (n : Int) ((2 * j : Nat) : Int) = some (.int .i64 ((n / 4 ^ j : Nat) : Int)) := by
  have h1 : ¬ (((2 * j : Nat) : Int) < 0) := by omega
  have h2 : (((2 * j : Nat) : Int)).toNat = 2 * j := Int.toNat_natCast _
  have h3 : min (2 * j) IntKind.i64.bits = 2 * j := Nat.min_eq_left (by show 2 * j ≤ 64; omega)
  unfold shOp
  rw [if_neg h1]
  simp only [h2, h3]
  have h4 : ((2 : Int) ^ (2 * j)) = ((4 ^ j : Nat) : Int) := by
    rw [Int.pow_mul]; simp
  rw [h4, Int.fdiv_eq_ediv_of_nonneg _ (Int.natCast_nonneg _)]
  rfl

/-- An array of digits that is half filled. -/
def dz (n c i : Nat) : List Nat := (List.range c).map fun k : Nat => if k < i then n / 4 ^ (c - 1 - k) % 4 else 0
theorem dz_length (n c i : Nat) : (dz n c i).length = c := by simp [dz]
theorem dz_zero (n c : Nat) : dz n c 0 = List.replicate c 0 := by
  unfold dz
  rw [List.eq_replicate_iff]
  refine ⟨by simp, fun x hx => ?_⟩
  simp at hx
  exact hx.2.symm
theorem dz_full (n c : Nat) : dz n c c = digS n c := by
  unfold dz digS
  refine List.map_congr_left fun k hk => ?_
  rw [if_pos (List.mem_range.1 hk)]
theorem dz_set (n c i : Nat) (h : i < c) : (dz n c i).set i (n / 4 ^ (c - 1 - i) % 4) = dz n c (i + 1) := by
  refine List.ext_getElem (by simp [dz]) fun j h1 h2 => ?_
  simp only [dz, List.getElem_set, List.getElem_map, List.getElem_range]
  by_cases e : i = j
  · subst e; rw [if_pos rfl, if_pos (by omega)]
  · rw [if_neg e]
    by_cases e2 : j < i
    · rw [if_pos e2, if_pos (by omega)]
    · rw [if_neg e2, if_neg (by omega)]
def cellsI (l : List Nat) : List AV := l.map fun x : Nat => .c (.int .i64 (x : Int))
theorem cellsI_length (l : List Nat) : (cellsI l).length = l.length := by simp [cellsI]
theorem cellsI_put {l : List Nat} {i : Nat} (x : Nat) (h : i < l.length) : putAt (cellsI l) i [.c (.int .i64 (x : Int))] = cellsI (l.set i x) := by
  unfold putAt cellsI
  rw [List.set_eq_take_append_cons_drop, if_pos h]
  simp [List.map_take, List.map_drop]
theorem cellsI_toPCs (l : List Nat) : toPCs (cellsI l) = some (l.map fun x : Nat => PC.int .i64 (x : Int)) := by
  induction l with
  | nil => rfl
  | cons x l ih =>
    show toPCs (.c (.int .i64 (x : Int)) :: cellsI l) = _
    simp only [toPCs, AV.toPC, ih, List.map_cons]
theorem chunks_ints : ∀ (l : List Nat) (c : Nat), c = l.length → chunks 1 c (l.map fun x : Nat => PC.int .i64 (x : Int)) = ints l
  | [], _, rfl => rfl
  | x :: l, _, rfl => by
    show chunks 1 (l.length + 1) (PC.int .i64 (x : Int) :: l.map fun x : Nat => PC.int .i64 (x : Int)) = [PC.int .i64 (x : Int)] :: ints l
    simp only [chunks, List.take_succ_cons, List.take_zero, List.drop_succ_cons, List.drop_zero]
    rw [chunks_ints l l.length rfl]
theorem cellsI_rep (c : Nat) : (List.replicate c [AV.c (PC.int .i64 0)]).flatten = cellsI (List.replicate c 0) := by
  induction c with
  | zero => rfl
  | succ c ih => rw [List.replicate_succ, List.flatten_cons, ih, List.replicate_succ]; rfl
theorem cellsI_amds (ρ : Ren) (l : List Nat) : AMds ρ (cellsI l) (cellsI l) := by
  induction l with
  | nil => trivial
  | cons x l ih => exact ⟨rfl, ih⟩

theorem lack_take (l : List Nat) (i : Nat) (h : i < l.length) : lack (l.take (i + 1)) = lack (l.take i) + (3 - l.getD i 0) := by
  rw [List.take_add_one, lack_app]
  simp [List.getD, h, lack]
theorem shr_u32 (W : Nat) : shOp .shr .u32 (W : Int) 16 = some (.int .u32 ((W / 65536 : Nat) : Int)) := by
  have h3 : min 16 IntKind.u32.bits = 16 := rfl
  show some (PC.int .u32 ((W : Int).fdiv (2 ^ (min 16 IntKind.u32.bits)))) = _
  rw [h3, Int.fdiv_eq_ediv_of_nonneg _ (by decide)]
  rfl

theorem tmod_4 (n : Nat) : (n : Int).tmod 4 = ((n % 4 : Nat) : Int) := by
  rw [Int.tmod_eq_emod_of_nonneg (by omega)]; omega
theorem tdiv_16 (n : Nat) (h : n < 9223372036854775808) : IntKind.i64.wrap ((n : Int).tdiv 16) = ((n / 16 : Nat) : Int) := by
  rw [Int.tdiv_eq_ediv_of_nonneg (by omega), show (n : Int) / 16 = ((n / 16 : Nat) : Int) from by omega, wrapI (by omega)]
theorem tdiv_4 (n : Nat) (h : n < 9223372036854775808) : IntKind.i64.wrap ((n : Int).tdiv 4) = ((n / 4 : Nat) : Int) := by
  rw [Int.tdiv_eq_ediv_of_nonneg (by omega), show (n : Int) / 4 = ((n / 4 : Nat) : Int) from by omega, wrapI (by omega)]
theorem digS_three (S : Nat) : [[PC.int .i64 ((S / 16 % 4 : Nat) : Int)], [PC.int .i64 ((S / 4 % 4 : Nat) : Int)], [PC.int .i64 ((S % 4 : Nat) : Int)]] = ints (digS S 3) := by
  simp [digS, ints, List.range_succ]
theorem d8_take (n j : Nat) (h : j < 8) : ints ((digS n 8).take j) ++ [[PC.int .i64 ((n / 4 ^ (7 - j) % 4 : Nat) : Int)]] = ints ((digS n 8).take (j + 1)) := by
  have h1 : j < (digS n 8).length := by rw [digS_length]; exact h
  rw [List.take_add_one, ← ints_app]
  congr 1
  rw [List.getElem?_eq_getElem h1]
  have := digS_get n 8 j h
  rw [List.getD, List.getElem?_eq_getElem h1] at this
  simp only [Option.getD_some] at this
  rw [this]
  rfl


variable {Γ : FuncId → Contract}

noncomputable def digC : Contract := mkC (α := Nat × Nat) (fun p => p.1 < 65536 ∧ p.2 ≤ 8) (fun p => [.c (.int .i64 (p.1 : Int)), .c (.int .i64 (p.2 : Int))]) (fun _ => []) (fun p => ⟨[.fresh 1 (ints (digS p.1 p.2))], []⟩)
theorem dig_at (n c : Nat) (h : n < 65536) (h2 : c ≤ 8) : digC [.c (.int .i64 (n : Int)), .c (.int .i64 (c : Int))] [] = some ⟨[.fresh 1 (ints (digS n c))], []⟩ :=
  mkC_at (α := Nat × Nat) (n, c) ⟨h, h2⟩ (by
    rintro ⟨a, b⟩ _ h _
    simp only [List.cons.injEq, AV.c.injEq, PC.int.injEq, true_and, and_true] at h
    obtain ⟨e1, e2⟩ := h
    obtain rfl : a = n := by omega
    obtain rfl : b = c := by omega
    rfl)

set_option maxRecDepth 100000 in
set_option maxHeartbeats 1000000 in
theorem dig_sound : SoundC Tryz.prog 201 digC := by
  refine sound_fnA ⟨[8], [(7, .toOwn 4 1)]⟩ Tryz.func201 (by kernel_rfl) rfl rfl ?_
  intro args objs r hr
  obtain ⟨⟨n, c⟩, ⟨hn, hc⟩, rfl, rfl, rfl⟩ := mkC_inv hr
  have hn : n < 65536 := hn
  have hc : c ≤ 8 := hc
  refine ⟨rfl, by show 2 ≤ _; decide, fun E hN hns hF => ?_⟩
  refine vc_sound none0_sound mixed _ _ _ ?_
  have hN := hN.trans nt_201
  have g1 : ((c : Int) * ((8 : Nat) : Int) ≤ 140737488355328) = True := eq_true (by omega)
  have g2 : ((c : Int) ≤ 9223372036854775807) = True := eq_true (by omega)
  simp only [runA, runB, runC, runD, runE, runF, fieldE, storeE, binE, ↓reduceIte, Nat.reduceLT, Nat.reduceLeDiff, Nat.reduceEqDiff, Nat.reduceAdd, Nat.reduceMul, Nat.reduceSub, reduceCtorEq, putAt, unE, Nat.reduceBEq, convE, buildE, List.replicate, Int.reduceLT, Int.reduceLE, Int.reduceToNat, mkE, mapSetE, hN, hF, ty_3, ty_69, notIf, isEq, Int.le_refl, g1, g2, cellsI_rep]
  refine AWP.loop (fun k st => ∃ i : Nat, i ≤ c ∧ k = c - i ∧ st = ⟨[(0, .c (.int .i64 (n : Int))), (1, .c (.int .i64 (c : Int))), (5, .msl 512 0 c true), (10, .c (.int .i64 (c : Int))), (11, .c (.int .i64 (i : Int)))], [(512, .obj (cellsI (dz n c i)) false)]⟩) ⟨c, _, ?w, 0, Nat.zero_le _, rfl, rfl⟩ ?r
  case w =>
    rw [hns]
    simp only [runB, finC, finD, AS.get, AS.mem, false_implies, implies_true, ↓reduceIte, Nat.reduceEqDiff, Option.isSome_some, Option.isSome_none, forall_eq_or_imp, forall_eq, reduceCtorEq, Nat.reduceAdd, Nat.reduceMul, List.zip_cons_cons, List.zip_nil_left, List.zip_nil_right, List.forall_mem_nil, cellsI_amds]
    rw [dz_zero]
    exact ⟨cellsI_amds _ _, rfl⟩
  case r =>
    rintro k st ⟨i, hi, rfl, rfl⟩
    refine vc_sound none0_sound mixed _ _ _ ?_
    have hcl := cellsI_length (dz n c i)
    rw [dz_length] at hcl
    by_cases hlt : i < c
    · have k1 : decide ((i : Int) < (c : Int)) = true := by simpa using hlt
      have k2 : ((i : Int) < (c : Int)) = True := eq_true (by omega)
      have k3 : (i + 1 ≤ c) = True := eq_true hlt
      have e1 : IntKind.i64.wrap ((i : Int) + 1) = (i : Int) + 1 := wrapI (by omega)
      have e2 : IntKind.i64.wrap ((c : Int) - 1) = ((c - 1 : Nat) : Int) := by rw [wrapI (by omega)]; omega
      have e3 : IntKind.i64.wrap (((c - 1 : Nat) : Int) - (i : Int)) = ((c - 1 - i : Nat) : Int) := by rw [wrapI (by omega)]; omega
      have e4 : IntKind.i64.wrap (2 * ((c - 1 - i : Nat) : Int)) = ((2 * (c - 1 - i) : Nat) : Int) := by rw [wrapI (by omega)]; omega
      have e5 := shr_two n (c - 1 - i) (by omega)
      have hq : n / 4 ^ (c - 1 - i) ≤ n := Nat.div_le_self _ _
      have e6 := and_three (n / 4 ^ (c - 1 - i)) (by omega)
      have hp := cellsI_put (l := dz n c i) (i := i) (n / 4 ^ (c - 1 - i) % 4) (by rw [dz_length]; exact hlt)
      rw [dz_set n c i hlt] at hp
      generalize n / 4 ^ (c - 1 - i) % 4 = d at hp e6
      simp only [runA, runB, runC, runD, runE, runF, fieldE, storeE, binE, ↓reduceIte, Nat.reduceLT, Nat.reduceLeDiff, Nat.reduceEqDiff, Nat.reduceAdd, Nat.reduceMul, Nat.reduceSub, reduceCtorEq, unE, Nat.reduceBEq, convE, buildE, List.replicate, Int.reduceLT, Int.reduceLE, Int.reduceToNat, mkE, mapSetE, hN, hF, ty_3, ty_69, notIf, isEq, k1, k2, k3, e1, e2, e3, e4, e5, e6, hcl, hp]
      refine ⟨c - (i + 1), _, by omega, ?_, i + 1, hlt, rfl, rfl⟩
      rw [hns]
      simp only [runB, finC, finD, AS.get, AS.mem, false_implies, implies_true, ↓reduceIte, Nat.reduceEqDiff, Option.isSome_some, Option.isSome_none, forall_eq_or_imp, forall_eq, reduceCtorEq, Nat.reduceAdd, Nat.reduceMul, List.zip_cons_cons, List.zip_nil_left, List.zip_nil_right, List.forall_mem_nil, cellsI_amds]
      first | done | simp
    · have k1 : decide ((i : Int) < (c : Int)) = false := by simpa using hlt
      obtain rfl : i = c := by omega
      have hT := cellsI_toPCs (dz n i i)
      have hch := chunks_ints (dz n i i) i (dz_length n i i).symm
      simp only [runA, runB, runC, runD, runE, runF, fieldE, storeE, binE, ↓reduceIte, Nat.reduceLT, Nat.reduceLeDiff, Nat.reduceEqDiff, Nat.reduceAdd, Nat.reduceMul, Nat.reduceSub, reduceCtorEq, putAt, unE, Nat.reduceBEq, convE, buildE, List.replicate, Int.reduceLT, Int.reduceLE, Int.reduceToNat, mkE, mapSetE, hN, hF, ty_3, ty_69, notIf, isEq, k1]
      rw [dz_full] at hT hch ⊢
      have hml : ((digS n i).map fun x : Nat => PC.int .i64 (x : Int)).length = i := by simp [digS_length]
      simp only [runA, runB, runC, runD, runE, runF, fieldE, storeE, binE, ↓reduceIte, Nat.reduceLT, Nat.reduceLeDiff, Nat.reduceEqDiff, Nat.reduceAdd, Nat.reduceMul, Nat.reduceSub, reduceCtorEq, putAt, unE, Nat.reduceBEq, convE, buildE, List.replicate, Int.reduceLT, Int.reduceLE, Int.reduceToNat, mkE, mapSetE, hN, hF, hns, ty_3, ty_69, doHint, dropT, noName, noNames, noMC, hT, hch, hml, Nat.zero_lt_one]
      simp only [runB, finC, finD, Option.isSome_some, Option.isSome_none, ↓reduceIte, Nat.reduceEqDiff, Nat.reduceAdd, Nat.reduceMul, forall_eq_or_imp, forall_eq, implies_true, Nat.reduceBEq, reduceCtorEq, false_implies, List.zip_cons_cons, List.zip_nil_left, List.zip_nil_right, Nat.reduceLeDiff, List.forall_mem_nil, rs_201]
      simp [ints_length, digS_length]

noncomputable def partC : Contract := mkC (α := List UInt8) (fun b => b.length ≤ 1099511627776) (fun b => [.c (.sl (bytes b))]) (fun _ => []) (fun b => ⟨[.fresh 1 (ints (dS b))], []⟩)
theorem part_at (b : List UInt8) (h : b.length ≤ 1099511627776) : partC [.c (.sl (bytes b))] [] = some ⟨[.fresh 1 (ints (dS b))], []⟩ :=
  mkC_at (α := List UInt8) b h (by
    rintro y _ h _
    simp at h
    rw [bytes_inj h])

set_option maxRecDepth 100000 in
set_option maxHeartbeats 1000000 in
theorem part_sound (hΓ : SoundG Tryz.prog Γ) (h1 : Γ 105 = sumC) (h2 : Γ 202 = wordC) (h3 : Γ 201 = digC) : SoundC Tryz.prog 147 partC := by
  refine sound_fn Tryz.func147 (by kernel_rfl) rfl rfl ?_
  intro args objs r hr
  obtain ⟨b, hl, rfl, rfl, rfl⟩ := mkC_inv hr
  refine ⟨rfl, by show 1 ≤ _; decide, fun E hN hns hF => ?_⟩
  refine vc_sound hΓ mixed _ _ _ ?_
  have hN := hN.trans nt_147
  have hs := sum_at b hl
  have hsl := shaS_length b
  have hw : wordC [.c (.sl (bytes (shaS b))), .c (.int .i64 0)] [] = some ⟨[.pv (.c (.int .u32 ((wordS (shaS b) 0).toNat : Int)))], []⟩ := word_at (shaS b) 0 (by omega)
  have hsh := shr_u32 (wordS (shaS b) 0).toNat
  rw [word_top (shaS b) (by omega)] at hsh
  have ht := top16_lt (shaS b)
  have e1 : IntKind.i64.wrap ((top16 (shaS b) : Nat) : Int) = ((top16 (shaS b) : Nat) : Int) := wrapI (by omega)
  have hd : digC [.c (.int .i64 ((top16 (shaS b) : Nat) : Int)), .c (.int .i64 8)] [] = some ⟨[.fresh 1 (ints (d8 b))], []⟩ := dig_at (top16 (shaS b)) 8 ht (by decide)
  have h8 := d8_length b
  have hi8 : (ints (d8 b)).length = 8 := by rw [ints_length, h8]
  have hz := rowsOK_ints
  simp only [runA, runB, runC, runD, runE, runF, fieldE, storeE, binE, ↓reduceIte, Nat.reduceLT, Nat.reduceLeDiff, Nat.reduceEqDiff, Nat.reduceAdd, Nat.reduceMul, Nat.reduceSub, reduceCtorEq, putAt, unE, Nat.reduceBEq, convE, buildE, List.replicate, Int.reduceLT, Int.reduceLE, Int.reduceToNat, mkE, mapSetE, hN, hF, ty_3, ty_5, ty_47, ty_69, ty_161, notIf, isEq, h1, h2, h3, hs, hw, hsh, e1, hd, hz, hi8]
  refine AWP.loop (fun k st => ∃ i : Nat, i ≤ 8 ∧ k = 8 - i ∧ st = ⟨[(3, .own 770 1 (ints (d8 b))), (4, .c (.int .i64 (lack ((d8 b).take i) : Int))), (13, .own 770 1 (ints (d8 b))), (14, .c (.int .i64 8)), (15, .c (.int .i64 (i : Int)))], [(770, .row 1 8)]⟩) ⟨8, _, ?w, 0, Nat.zero_le _, rfl, rfl⟩ ?r
  case w =>
    rw [hns]
    simp only [runB, finC, finD, AS.get, AS.mem, false_implies, implies_true, ↓reduceIte, Nat.reduceEqDiff, Option.isSome_some, Option.isSome_none, forall_eq_or_imp, forall_eq, reduceCtorEq, Nat.reduceAdd, Nat.reduceMul, List.zip_cons_cons, List.zip_nil_left, List.zip_nil_right, List.forall_mem_nil, hi8]
    simp [lack]
  case r =>
    rintro k st ⟨i, hi, rfl, rfl⟩
    refine vc_sound hΓ mixed _ _ _ ?_
    by_cases hlt : i < 8
    · have k1 : decide ((i : Int) < 8) = true := by simp; omega
      have e2 : IntKind.i64.wrap ((i : Int) + 1) = (i : Int) + 1 := wrapI (by omega)
      have hg := ints_get (d8 b) i (by omega)
      have hlk := lack_take (d8 b) i (by omega)
      have hb1 := lack_le ((d8 b).take i)
      have hb2 : ((d8 b).take i).length ≤ 8 := by rw [List.length_take]; omega
      have hx : (d8 b).getD i 0 < 4 := by rw [d8, digS_get _ _ _ hlt]; exact Nat.mod_lt _ (by decide)
      generalize (d8 b).getD i 0 = x at hg hlk hx
      have e3 : IntKind.i64.wrap (3 - (x : Int)) = ((3 - x : Nat) : Int) := by rw [wrapI (by omega)]; omega
      have e4 : IntKind.i64.wrap (((lack ((d8 b).take i) : Nat) : Int) + ((3 - x : Nat) : Int)) = ((lack ((d8 b).take (i + 1)) : Nat) : Int) := by rw [hlk, wrapI (by omega)]; omega
      simp only [runA, runB, runC, runD, runE, runF, fieldE, storeE, binE, ↓reduceIte, Nat.reduceLT, Nat.reduceLeDiff, Nat.reduceEqDiff, Nat.reduceAdd, Nat.reduceMul, Nat.reduceSub, reduceCtorEq, putAt, unE, Nat.reduceBEq, convE, buildE, List.replicate, Int.reduceLT, Int.reduceLE, Int.reduceToNat, mkE, mapSetE, hN, hF, ty_3, ty_5, ty_47, ty_69, ty_161, notIf, isEq, k1, e2, hg, e3, e4]
      refine ⟨8 - (i + 1), _, by omega, ?_, i + 1, by omega, rfl, rfl⟩
      rw [hns]
      simp only [runB, finC, finD, AS.get, AS.mem, false_implies, implies_true, ↓reduceIte, Nat.reduceEqDiff, Option.isSome_some, Option.isSome_none, forall_eq_or_imp, forall_eq, reduceCtorEq, Nat.reduceAdd, Nat.reduceMul, List.zip_cons_cons, List.zip_nil_left, List.zip_nil_right, List.forall_mem_nil]
      first | done | simp
    · have k1 : decide ((i : Int) < 8) = false := by simp; omega
      obtain rfl : i = 8 := by omega
      have htk : (d8 b).take 8 = d8 b := List.take_of_length_le (by omega)
      rw [htk]
      have hb1 := lack_le (d8 b)
      have hd3 : digC [.c (.int .i64 ((lack (d8 b) : Nat) : Int)), .c (.int .i64 3)] [] = some ⟨[.fresh 1 (ints (digS (lack (d8 b)) 3))], []⟩ := dig_at (lack (d8 b)) 3 (by omega) (by decide)
      have hl3 : (ints (digS (lack (d8 b)) 3)).length = 3 := by rw [ints_length, digS_length]
      have hap : ints (d8 b) ++ ints (digS (lack (d8 b)) 3) = ints (dS b) := ints_app _ _
      simp only [runA, runB, runC, runD, runE, runF, fieldE, storeE, binE, ↓reduceIte, Nat.reduceLT, Nat.reduceLeDiff, Nat.reduceEqDiff, Nat.reduceAdd, Nat.reduceMul, Nat.reduceSub, reduceCtorEq, putAt, unE, Nat.reduceBEq, convE, buildE, List.replicate, Int.reduceLT, Int.reduceLE, Int.reduceToNat, mkE, mapSetE, hN, hF, ty_3, ty_5, ty_47, ty_69, ty_161, notIf, isEq, k1, h3, hd3, hz, hi8, hl3, hap]
      simp only [runB, finC, finD, Option.isSome_some, Option.isSome_none, ↓reduceIte, Nat.reduceEqDiff, Nat.reduceAdd, Nat.reduceMul, forall_eq_or_imp, forall_eq, implies_true, Nat.reduceBEq, reduceCtorEq, false_implies, List.zip_cons_cons, List.zip_nil_left, List.zip_nil_right, Nat.reduceLeDiff, List.forall_mem_nil, rs_147]
      simp [ints_length, dS_length]

set_option maxRecDepth 100000 in
set_option maxHeartbeats 1000000 in
theorem refPar_sound (hΓ : SoundG Tryz.prog Γ) (h1 : Γ 58 = sumC) : SoundC Tryz.prog 196 partC := by
  refine sound_fn Tryz.func196 (by kernel_rfl) rfl rfl ?_
  intro args objs r hr
  obtain ⟨b, hl, rfl, rfl, rfl⟩ := mkC_inv hr
  refine ⟨rfl, by show 1 ≤ _; decide, fun E hN hns hF => ?_⟩
  refine vc_sound hΓ mixed _ _ _ ?_
  have hN := hN.trans nt_196
  have hs := sum_at b hl
  have hsl := shaS_length b
  have b0 := ((shaS b).getD 0 0).toNat_lt
  have b1 := ((shaS b).getD 1 0).toNat_lt
  have g0 : (bytes (shaS b))[0]? = some [.int .u8 (((shaS b).getD 0 0).toNat : Int)] := by simp [bytes, hsl]
  have g1 : (bytes (shaS b))[1]? = some [.int .u8 (((shaS b).getD 1 0).toNat : Int)] := by simp [bytes, hsl]
  have ht : top16 (shaS b) = ((shaS b).getD 0 0).toNat * 256 + ((shaS b).getD 1 0).toNat := rfl
  have htl := top16_lt (shaS b)
  have hz := rowsOK_ints
  have hd8 : d8 b = digS (top16 (shaS b)) 8 := rfl
  generalize ((shaS b).getD 0 0).toNat = x0 at b0 g0 ht
  generalize ((shaS b).getD 1 0).toNat = x1 at b1 g1 ht
  have e1 : IntKind.i64.wrap (x0 : Int) = (x0 : Int) := wrapI (by omega)
  have e2 : IntKind.i64.wrap (x1 : Int) = (x1 : Int) := wrapI (by omega)
  have e3 : IntKind.i64.wrap ((x0 : Int) * 256) = ((x0 * 256 : Nat) : Int) := by rw [wrapI (by omega)]; omega
  have e4 : IntKind.i64.wrap (((x0 * 256 : Nat) : Int) + (x1 : Int)) = ((top16 (shaS b) : Nat) : Int) := by rw [ht, wrapI (by omega)]; omega
  simp only [runA, runB, runC, runD, runE, runF, fieldE, storeE, binE, ↓reduceIte, Nat.reduceLT, Nat.reduceLeDiff, Nat.reduceEqDiff, Nat.reduceAdd, Nat.reduceMul, Nat.reduceSub, reduceCtorEq, putAt, unE, Nat.reduceBEq, convE, buildE, List.replicate, Int.reduceLT, Int.reduceLE, Int.reduceToNat, mkE, mapSetE, hN, hF, ty_3, ty_5, ty_47, ty_69, ty_165, notIf, isEq, h1, hs, g0, g1, e1, e2, e3, e4]
  refine drawnP_intro (by kernel_rfl) (by kernel_rfl) ?_
  simp only [runA, runB, runC, runD, runE, runF, fieldE, storeE, binE, ↓reduceIte, Nat.reduceLT, Nat.reduceLeDiff, Nat.reduceEqDiff, Nat.reduceAdd, Nat.reduceMul, Nat.reduceSub, reduceCtorEq, putAt, unE, Nat.reduceBEq, convE, buildE, List.replicate, Int.reduceLT, Int.reduceLE, Int.reduceToNat, mkE, mapSetE, hN, hF, ty_3, ty_5, ty_47, ty_69, ty_165, notIf, isEq, g0, g1, e1, e2, e3, e4]
  generalize top16 (shaS b) = n at htl hd8 ⊢
  have hl8 := d8_length b
  refine AWP.loop (fun k st => ∃ j : Nat, j ≤ 8 ∧ k = 8 - j ∧ st = ⟨[(4, .c (.int .i64 (n : Int))), (5, .own 2177 1 (ints ((d8 b).take j))), (6, .c (.int .i64 (lack ((d8 b).take j) : Int))), (7, .c (.int .i64 (7 - (j : Int))))], [(2177, .row 1 j)]⟩) ⟨8, _, ?w, 0, Nat.zero_le _, rfl, rfl⟩ ?r
  case w =>
    rw [hns]
    simp only [runB, finC, finD, AS.get, AS.mem, false_implies, implies_true, ↓reduceIte, Nat.reduceEqDiff, Option.isSome_some, Option.isSome_none, forall_eq_or_imp, forall_eq, reduceCtorEq, Nat.reduceAdd, Nat.reduceMul, List.zip_cons_cons, List.zip_nil_left, List.zip_nil_right, List.forall_mem_nil]
    simp [lack, ints]
  case r =>
    rintro k st ⟨i, hi, rfl, rfl⟩
    refine vc_sound hΓ mixed _ _ _ ?_
    by_cases hlt : i < 8
    · have k1 : decide ((7 : Int) - (i : Int) ≥ 0) = true := by simp; omega
      have f1 : IntKind.i64.wrap (2 * (7 - (i : Int))) = ((2 * (7 - i) : Nat) : Int) := by rw [wrapI (by omega)]; omega
      have f2 : IntKind.u64.wrap ((2 * (7 - i) : Nat) : Int) = ((2 * (7 - i) : Nat) : Int) := wrapU (by omega)
      have f3 := shr_two n (7 - i) (by omega)
      have hq : n / 4 ^ (7 - i) ≤ n := Nat.div_le_self _ _
      have f4 := tmod_4 (n / 4 ^ (7 - i))
      have f5 : ((4 : Int) = 0) = False := by simp
      have hlk := lack_take (d8 b) i (by omega)
      have hb1 := lack_le ((d8 b).take i)
      have hb2 : ((d8 b).take i).length ≤ 8 := by rw [List.length_take]; omega
      have hx0 : (d8 b).getD i 0 = n / 4 ^ (7 - i) % 4 := by rw [hd8, digS_get _ _ _ hlt]
      have hap := d8_take n i hlt
      rw [← hd8] at hap
      rw [hx0] at hlk
      have hx : n / 4 ^ (7 - i) % 4 < 4 := Nat.mod_lt _ (by decide)
      generalize n / 4 ^ (7 - i) % 4 = x at f4 hlk hx hap
      have f6 : IntKind.i64.wrap (((lack ((d8 b).take i) : Nat) : Int) + 3) = ((lack ((d8 b).take i) + 3 : Nat) : Int) := by rw [wrapI (by omega)]; omega
      have f7 : IntKind.i64.wrap (((lack ((d8 b).take i) + 3 : Nat) : Int) - (x : Int)) = ((lack ((d8 b).take (i + 1)) : Nat) : Int) := by rw [hlk, wrapI (by omega)]; omega
      have f8 : IntKind.i64.wrap (7 - (i : Int) - 1) = 7 - ((i + 1 : Nat) : Int) := by rw [wrapI (by omega)]; omega
      have hil : (ints ((d8 b).take i)).length = i := by rw [ints_length, List.length_take]; omega
      have hL : ((i + 1) * 8 ≤ 140737488355328) = True := eq_true (by omega)
      simp only [runA, runB, runC, runD, runE, runF, fieldE, storeE, binE, ↓reduceIte, Nat.reduceLT, Nat.reduceLeDiff, Nat.reduceEqDiff, Nat.reduceAdd, Nat.reduceMul, Nat.reduceSub, reduceCtorEq, putAt, unE, Nat.reduceBEq, convE, buildE, List.replicate, Int.reduceLT, Int.reduceLE, Int.reduceToNat, mkE, mapSetE, hN, hF, ty_3, ty_5, ty_47, ty_69, ty_165, notIf, isEq, k1, f1, f2, f3, f4, f5, f6, f7, f8, hap, hil, hL, hz, rowsOK_one]
      refine ⟨8 - (i + 1), _, by omega, ?_, i + 1, by omega, rfl, rfl⟩
      rw [hns]
      simp only [runB, finC, finD, AS.get, AS.mem, false_implies, implies_true, ↓reduceIte, Nat.reduceEqDiff, Option.isSome_some, Option.isSome_none, forall_eq_or_imp, forall_eq, reduceCtorEq, Nat.reduceAdd, Nat.reduceMul, List.zip_cons_cons, List.zip_nil_left, List.zip_nil_right, List.forall_mem_nil]
      first | done | simp
    · have k1 : decide ((7 : Int) - (i : Int) ≥ 0) = false := by simp; omega
      obtain rfl : i = 8 := by omega
      have htk : (d8 b).take 8 = d8 b := List.take_of_length_le (by omega)
      rw [htk]
      have hb1 := lack_le (d8 b)
      have f1 := tdiv_16 (lack (d8 b)) (by omega)
      have f2 := tdiv_4 (lack (d8 b)) (by omega)
      have f3 := tmod_4 (lack (d8 b))
      have f4 := tmod_4 (lack (d8 b) / 16)
      have f5 := tmod_4 (lack (d8 b) / 4)
      have f6 : ((4 : Int) = 0) = False := by simp
      have f7 : ((16 : Int) = 0) = False := by simp
      have hap : ints (d8 b) ++ ints (digS (lack (d8 b)) 3) = ints (dS b) := ints_app _ _
      have h3 := digS_three (lack (d8 b))
      have hi8 : (ints (d8 b)).length = 8 := by rw [ints_length, hl8]
      have hi3 : (ints (digS (lack (d8 b)) 3)).length = 3 := by rw [ints_length, digS_length]
      simp only [runA, runB, runC, runD, runE, runF, fieldE, storeE, binE, ↓reduceIte, Nat.reduceLT, Nat.reduceLeDiff, Nat.reduceEqDiff, Nat.reduceAdd, Nat.reduceMul, Nat.reduceSub, reduceCtorEq, putAt, unE, Nat.reduceBEq, convE, buildE, List.replicate, Int.reduceLT, Int.reduceLE, Int.reduceToNat, mkE, mapSetE, hN, hF, ty_3, ty_5, ty_47, ty_69, ty_165, notIf, isEq, k1, f1, f2, f3, f4, f5, f6, f7, h3, hap, hi8, hi3, hz]
      simp only [runB, finC, finD, Option.isSome_some, Option.isSome_none, ↓reduceIte, Nat.reduceEqDiff, Nat.reduceAdd, Nat.reduceMul, forall_eq_or_imp, forall_eq, implies_true, Nat.reduceBEq, reduceCtorEq, false_implies, List.zip_cons_cons, List.zip_nil_left, List.zip_nil_right, Nat.reduceLeDiff, List.forall_mem_nil, rs_196]
      simp [ints_length, dS_length]


variable {Γ : FuncId → Contract}

theorem chain8 (s : List UInt8) (n : Nat) (h : s.length = 8) : (chainS s n).length = 8 := by
  cases n with
  | zero => exact h
  | succ n => exact shortS_length _
structure Sgn where
  seed : List UInt8
  leaf : Int
  text : List UInt8
def opnT (text : List UInt8) (parts : List (List UInt8)) (n : Nat) : List (List UInt8) := (List.range n).map fun i : Nat => chainS (parts.getD i []) (3 - (dS text).getD i 0)
def all8 (parts : List (List UInt8)) : Prop := ∀ p ∈ parts, p.length = 8
instance (parts : List (List UInt8)) : Decidable (all8 parts) := inferInstanceAs (Decidable (∀ p ∈ parts, p.length = 8))
def opnS (text : List UInt8) (parts : List (List UInt8)) : List UInt8 := if parts.length = 11 ∧ all8 parts then shortS (opnT text parts 11).flatten else []
theorem opnT_succ (text : List UInt8) (parts : List (List UInt8)) (n : Nat) : opnT text parts (n + 1) = opnT text parts n ++ [chainS (parts.getD n []) (3 - (dS text).getD n 0)] := by simp [opnT, List.range_succ]
theorem opnT_length (text : List UInt8) (parts : List (List UInt8)) (n : Nat) : (opnT text parts n).length = n := by simp [opnT]
theorem opnT_flat (text : List UInt8) (parts : List (List UInt8)) : ∀ n, (∀ k, k < n → (parts.getD k []).length = 8) → (opnT text parts n).flatten.length = 8 * n
  | 0, _ => rfl
  | n + 1, h => by
    rw [opnT_succ, List.flatten_append, List.length_append, opnT_flat text parts n fun k hk => h k (by omega)]
    rw [List.flatten_cons, List.flatten_nil, List.append_nil, chain8 _ _ (h n (by omega))]
    omega
theorem ne8f {n : Nat} (h : n = 8) : ((n : Int) != 8) = false := by subst h; rfl
theorem ne8t {n : Nat} (h : n ≠ 8) : ((n : Int) != 8) = true := by
  rw [bne_iff_ne]
  omega
theorem textsD (l : List (List UInt8)) (i : Nat) (h : i < l.length) : (texts l)[i]? = some [.str (l.getD i [])] := by
  simp [texts, List.getD, h]
noncomputable def opnC : Contract := mkC (α := List UInt8 × List (List UInt8)) (fun p => p.1.length ≤ 1099511627776) (fun p => [.c (.sl (bytes p.1)), .c (.sl (texts p.2))]) (fun _ => []) (fun p => ⟨[.pv (.c (.str (opnS p.1 p.2)))], []⟩)
theorem opn_at (text : List UInt8) (parts : List (List UInt8)) (h : text.length ≤ 1099511627776) : opnC [.c (.sl (bytes text)), .c (.sl (texts parts))] [] = some ⟨[.pv (.c (.str (opnS text parts)))], []⟩ :=
  mkC_at (α := List UInt8 × List (List UInt8)) (text, parts) h (by
    rintro ⟨a, b⟩ _ h _
    simp only [List.cons.injEq, AV.c.injEq, PC.sl.injEq, true_and, and_true] at h
    obtain ⟨h1, h2⟩ := h
    rw [bytes_inj h1, texts_inj h2])

set_option maxRecDepth 100000 in
set_option maxHeartbeats 1000000 in
theorem opn_sound (hΓ : SoundG Tryz.prog Γ) (h1 : Γ 147 = partC) (h2 : Γ 144 = endedC) (h3 : Γ 142 = chainC) : SoundC Tryz.prog 167 opnC := by
  refine sound_fn Tryz.func167 (by kernel_rfl) rfl rfl ?_
  intro args objs r hr
  obtain ⟨⟨text, parts⟩, hl, rfl, rfl, rfl⟩ := mkC_inv hr
  have hl : text.length ≤ 1099511627776 := hl
  refine ⟨rfl, by show 2 ≤ _; decide, fun E hN hns hF => ?_⟩
  refine vc_sound hΓ mixed _ _ _ ?_
  have hN := hN.trans nt_167
  have hp := part_at text hl
  have hd := dS_length text
  have hi : (ints (dS text)).length = 11 := by rw [ints_length, hd]
  by_cases h11 : parts.length = 11
  case neg =>
    have g1 : ((parts.length : Int) != 11) = true := by simp; omega
    have hS : opnS text parts = [] := by unfold opnS; rw [if_neg (by simp [h11])]
    rw [hS]
    simp only [runA, runB, runC, runD, runE, runF, fieldE, storeE, binE, ↓reduceIte, Nat.reduceLT, Nat.reduceLeDiff, Nat.reduceEqDiff, Nat.reduceAdd, Nat.reduceMul, Nat.reduceSub, reduceCtorEq, putAt, unE, Nat.reduceBEq, convE, buildE, List.replicate, Int.reduceLT, Int.reduceLE, Int.reduceToNat, mkE, mapSetE, hN, hF, ty_3, ty_5, ty_9, ty_24, ty_47, ty_69, notIf, isEq, texts_length, g1]
    simp only [runB, finC, finD, Option.isSome_some, Option.isSome_none, ↓reduceIte, Nat.reduceEqDiff, Nat.reduceAdd, Nat.reduceMul, forall_eq_or_imp, forall_eq, implies_true, Nat.reduceBEq, reduceCtorEq, false_implies, List.zip_cons_cons, List.zip_nil_left, List.zip_nil_right, Nat.reduceLeDiff, List.forall_mem_nil, rs_167]
  have g1 : ((parts.length : Int) != 11) = false := by simp; omega
  simp only [runA, runB, runC, runD, runE, runF, fieldE, storeE, binE, ↓reduceIte, Nat.reduceLT, Nat.reduceLeDiff, Nat.reduceEqDiff, Nat.reduceAdd, Nat.reduceMul, Nat.reduceSub, reduceCtorEq, putAt, unE, Nat.reduceBEq, convE, buildE, List.replicate, Int.reduceLT, Int.reduceLE, Int.reduceToNat, mkE, mapSetE, hN, hF, ty_3, ty_5, ty_9, ty_24, ty_47, ty_69, notIf, isEq, texts_length, g1, h1, hp, hi]
  refine AWP.loop (fun k st => ∃ i : Nat, (i ≤ 11 ∧ ∀ k, k < i → (parts.getD k []).length = 8) ∧ k = 11 - i ∧ st = ⟨[(1, .c (.sl (texts parts))), (5, .own 2177 1 (texts (opnT text parts i))), (12, .own 770 1 (ints (dS text))), (13, .c (.int .i64 11)), (14, .c (.int .i64 (i : Int)))], [(2177, .row 1 i), (770, .row 1 11)]⟩) ⟨11, _, ?w, 0, ⟨Nat.zero_le _, fun k hk => absurd hk (Nat.not_lt_zero k)⟩, rfl, rfl⟩ ?r
  case w =>
    rw [hns]
    simp only [runB, finC, finD, AS.get, AS.mem, false_implies, implies_true, ↓reduceIte, Nat.reduceEqDiff, Option.isSome_some, Option.isSome_none, forall_eq_or_imp, forall_eq, reduceCtorEq, Nat.reduceAdd, Nat.reduceMul, List.zip_cons_cons, List.zip_nil_left, List.zip_nil_right, List.forall_mem_nil, hi]
    first | done | simp [opnT, texts]
  case r =>
    rintro k st ⟨i, ⟨hi', h8⟩, rfl, rfl⟩
    refine vc_sound hΓ mixed _ _ _ ?_
    have hpl := opnT_length text parts i
    by_cases hlt : i < 11
    · have k1 : decide ((i : Int) < 11) = true := by simp; omega
      have e1 : IntKind.i64.wrap ((i : Int) + 1) = (i : Int) + 1 := wrapI (by omega)
      have hg := ints_get (dS text) i (by omega)
      have hgp := textsD parts i (by omega)
      by_cases hp8 : (parts.getD i []).length = 8
      · have k2 : (((parts.getD i []).length : Int) != 8) = false := ne8f hp8
        have hx := dS_get_lt text i
        have hc := chain_at (parts.getD i []) (3 - (dS text).getD i 0) (by omega) (by omega)
        have hz := rowsOK_texts
        have hL : ((i + 1) * 16 ≤ 140737488355328) = True := eq_true (by omega)
        have hsucc := opnT_succ text parts i
        have h8' : ∀ k, k < i + 1 → (parts.getD k []).length = 8 := fun k hk => by
          by_cases e : k = i
          · rw [e]; exact hp8
          · exact h8 k (by omega)
        generalize (dS text).getD i 0 = x at hg hc hsucc hx
        generalize parts.getD i [] = q at hgp hp8 k2 hc hsucc
        have e2 : IntKind.i64.wrap (3 - (x : Int)) = ((3 - x : Nat) : Int) := by rw [wrapI (by omega)]; omega
        simp only [runA, runB, runC, runD, runE, runF, fieldE, storeE, binE, ↓reduceIte, Nat.reduceLT, Nat.reduceLeDiff, Nat.reduceEqDiff, Nat.reduceAdd, Nat.reduceMul, Nat.reduceSub, reduceCtorEq, putAt, unE, Nat.reduceBEq, convE, buildE, List.replicate, Int.reduceLT, Int.reduceLE, Int.reduceToNat, mkE, mapSetE, hN, hF, ty_3, ty_5, ty_9, ty_24, ty_47, ty_69, notIf, isEq, k1, k2, e1, e2, hg, hgp, h3, hc, texts1, texts_app, ← hsucc, hz, hL, texts_length, hpl]
        refine ⟨11 - (i + 1), _, by omega, ?_, i + 1, ⟨by omega, h8'⟩, rfl, rfl⟩
        rw [hns]
        simp only [runB, finC, finD, AS.get, AS.mem, false_implies, implies_true, ↓reduceIte, Nat.reduceEqDiff, Option.isSome_some, Option.isSome_none, forall_eq_or_imp, forall_eq, reduceCtorEq, Nat.reduceAdd, Nat.reduceMul, List.zip_cons_cons, List.zip_nil_left, List.zip_nil_right, List.forall_mem_nil]
        first | done | simp
      · have k2 : (((parts.getD i []).length : Int) != 8) = true := ne8t hp8
        have hS : opnS text parts = [] := by
          unfold opnS
          rw [if_neg]
          rintro ⟨_, h⟩
          refine hp8 (h _ ?_)
          rw [List.getD, List.getElem?_eq_getElem (by omega)]
          exact List.getElem_mem _
        rw [hS]
        generalize (dS text).getD i 0 = x at hg
        generalize parts.getD i [] = q at hgp hp8 k2
        simp only [runA, runB, runC, runD, runE, runF, fieldE, storeE, binE, ↓reduceIte, Nat.reduceLT, Nat.reduceLeDiff, Nat.reduceEqDiff, Nat.reduceAdd, Nat.reduceMul, Nat.reduceSub, reduceCtorEq, putAt, unE, Nat.reduceBEq, convE, buildE, List.replicate, Int.reduceLT, Int.reduceLE, Int.reduceToNat, mkE, mapSetE, hN, hF, ty_3, ty_5, ty_9, ty_24, ty_47, ty_69, notIf, isEq, k1, k2, e1, hg, hgp]
        simp only [runB, finC, finD, Option.isSome_some, Option.isSome_none, ↓reduceIte, Nat.reduceEqDiff, Nat.reduceAdd, Nat.reduceMul, forall_eq_or_imp, forall_eq, implies_true, Nat.reduceBEq, reduceCtorEq, false_implies, List.zip_cons_cons, List.zip_nil_left, List.zip_nil_right, Nat.reduceLeDiff, List.forall_mem_nil, rs_167]
    · have k1 : decide ((i : Int) < 11) = false := by simp; omega
      obtain rfl : i = 11 := by omega
      have hf := opnT_flat text parts 11 h8
      have he := ended_at (opnT text parts 11) ⟨by omega, by omega⟩
      have hall : all8 parts := fun p hp => by
        obtain ⟨k, hk, rfl⟩ := List.getElem_of_mem hp
        have := h8 k (by omega)
        rw [List.getD, List.getElem?_eq_getElem hk] at this
        exact this
      have hS : opnS text parts = shortS (opnT text parts 11).flatten := by
        unfold opnS
        rw [if_pos ⟨h11, hall⟩]
      rw [hS]
      simp only [runA, runB, runC, runD, runE, runF, fieldE, storeE, binE, ↓reduceIte, Nat.reduceLT, Nat.reduceLeDiff, Nat.reduceEqDiff, Nat.reduceAdd, Nat.reduceMul, Nat.reduceSub, reduceCtorEq, putAt, unE, Nat.reduceBEq, convE, buildE, List.replicate, Int.reduceLT, Int.reduceLE, Int.reduceToNat, mkE, mapSetE, hN, hF, ty_3, ty_5, ty_9, ty_24, ty_47, ty_69, notIf, isEq, k1, h2, he]
      simp only [runB, finC, finD, Option.isSome_some, Option.isSome_none, ↓reduceIte, Nat.reduceEqDiff, Nat.reduceAdd, Nat.reduceMul, forall_eq_or_imp, forall_eq, implies_true, Nat.reduceBEq, reduceCtorEq, false_implies, List.zip_cons_cons, List.zip_nil_left, List.zip_nil_right, Nat.reduceLeDiff, List.forall_mem_nil, rs_167]

set_option maxRecDepth 100000 in
set_option maxHeartbeats 1000000 in
theorem refOpn_sound (hΓ : SoundG Tryz.prog Γ) (h1 : Γ 196 = partC) (h2 : Γ 195 = short1C) (h3 : Γ 197 = chainC) : SoundC Tryz.prog 140 opnC := by
  refine sound_fn Tryz.func140 (by kernel_rfl) rfl rfl ?_
  intro args objs r hr
  obtain ⟨⟨text, parts⟩, hl, rfl, rfl, rfl⟩ := mkC_inv hr
  have hl : text.length ≤ 1099511627776 := hl
  refine ⟨rfl, by show 2 ≤ _; decide, fun E hN hns hF => ?_⟩
  refine vc_sound hΓ mixed _ _ _ ?_
  have hN := hN.trans nt_140
  have hp := part_at text hl
  have hd := dS_length text
  have hi : (ints (dS text)).length = 11 := by rw [ints_length, hd]
  by_cases h11 : parts.length = 11
  case neg =>
    have g1 : ((parts.length : Int) != 11) = true := by simp; omega
    have hS : opnS text parts = [] := by unfold opnS; rw [if_neg (by simp [h11])]
    rw [hS]
    simp only [runA, runB, runC, runD, runE, runF, fieldE, storeE, binE, ↓reduceIte, Nat.reduceLT, Nat.reduceLeDiff, Nat.reduceEqDiff, Nat.reduceAdd, Nat.reduceMul, Nat.reduceSub, reduceCtorEq, putAt, unE, Nat.reduceBEq, convE, buildE, List.replicate, Int.reduceLT, Int.reduceLE, Int.reduceToNat, mkE, mapSetE, hN, hF, ty_3, ty_5, ty_9, ty_24, ty_47, ty_69, notIf, isEq, texts_length, g1]
    simp only [runB, finC, finD, Option.isSome_some, Option.isSome_none, ↓reduceIte, Nat.reduceEqDiff, Nat.reduceAdd, Nat.reduceMul, forall_eq_or_imp, forall_eq, implies_true, Nat.reduceBEq, reduceCtorEq, false_implies, List.zip_cons_cons, List.zip_nil_left, List.zip_nil_right, Nat.reduceLeDiff, List.forall_mem_nil, rs_140]
  have g1 : ((parts.length : Int) != 11) = false := by simp; omega
  simp only [runA, runB, runC, runD, runE, runF, fieldE, storeE, binE, ↓reduceIte, Nat.reduceLT, Nat.reduceLeDiff, Nat.reduceEqDiff, Nat.reduceAdd, Nat.reduceMul, Nat.reduceSub, reduceCtorEq, putAt, unE, Nat.reduceBEq, convE, buildE, List.replicate, Int.reduceLT, Int.reduceLE, Int.reduceToNat, mkE, mapSetE, hN, hF, ty_3, ty_5, ty_9, ty_24, ty_47, ty_69, notIf, isEq, texts_length, g1, h1, hp, hi]
  refine AWP.loop (fun k st => ∃ i : Nat, (i ≤ 11 ∧ ∀ k, k < i → (parts.getD k []).length = 8) ∧ k = 11 - i ∧ st = ⟨[(1, .c (.sl (texts parts))), (5, .own 770 1 (ints (dS text))), (6, .own 2177 1 (bytes (opnT text parts i).flatten)), (7, .c (.int .i64 (i : Int)))], [(2177, .row 1 (8 * i)), (770, .row 1 11)]⟩) ⟨11, _, ?w, 0, ⟨Nat.zero_le _, fun k hk => absurd hk (Nat.not_lt_zero k)⟩, rfl, rfl⟩ ?r
  case w =>
    rw [hns]
    simp only [runB, finC, finD, AS.get, AS.mem, false_implies, implies_true, ↓reduceIte, Nat.reduceEqDiff, Option.isSome_some, Option.isSome_none, forall_eq_or_imp, forall_eq, reduceCtorEq, Nat.reduceAdd, Nat.reduceMul, List.zip_cons_cons, List.zip_nil_left, List.zip_nil_right, List.forall_mem_nil, hi]
    first | done | simp [opnT, bytes]
  case r =>
    rintro k st ⟨i, ⟨hi', h8⟩, rfl, rfl⟩
    refine vc_sound hΓ mixed _ _ _ ?_
    have hpl := opnT_flat text parts i h8
    by_cases hlt : i < 11
    · have k1 : decide ((i : Int) < 11) = true := by simp; omega
      have e1 : IntKind.i64.wrap ((i : Int) + 1) = (i : Int) + 1 := wrapI (by omega)
      have hg := ints_get (dS text) i (by omega)
      have hgp := textsD parts i (by omega)
      by_cases hp8 : (parts.getD i []).length = 8
      · have k2 : (((parts.getD i []).length : Int) != 8) = false := ne8f hp8
        have hx := dS_get_lt text i
        have hc := chain_at (parts.getD i []) (3 - (dS text).getD i 0) (by omega) (by omega)
        have hz := rowsOK_bytes
        have hL : (8 * i + 8 ≤ 140737488355328) = True := eq_true (by omega)
        have hsucc : (opnT text parts i).flatten ++ chainS (parts.getD i []) (3 - (dS text).getD i 0) = (opnT text parts (i + 1)).flatten := by rw [opnT_succ]; simp
        have hc8 := chain8 (parts.getD i []) (3 - (dS text).getD i 0) hp8
        have h8' : ∀ k, k < i + 1 → (parts.getD k []).length = 8 := fun k hk => by
          by_cases e : k = i
          · rw [e]; exact hp8
          · exact h8 k (by omega)
        generalize (dS text).getD i 0 = x at hg hc hsucc hx hc8
        generalize parts.getD i [] = q at hgp hp8 k2 hc hsucc hc8
        have e2 : IntKind.i64.wrap (3 - (x : Int)) = ((3 - x : Nat) : Int) := by rw [wrapI (by omega)]; omega
        simp only [runA, runB, runC, runD, runE, runF, fieldE, storeE, binE, ↓reduceIte, Nat.reduceLT, Nat.reduceLeDiff, Nat.reduceEqDiff, Nat.reduceAdd, Nat.reduceMul, Nat.reduceSub, reduceCtorEq, putAt, unE, Nat.reduceBEq, convE, buildE, List.replicate, Int.reduceLT, Int.reduceLE, Int.reduceToNat, mkE, mapSetE, hN, hF, ty_3, ty_5, ty_9, ty_24, ty_47, ty_69, notIf, isEq, k1, k2, e1, e2, hg, hgp, h3, hc, bytes_app, hsucc, hz, hL, bytes_length, hpl, hc8]
        refine drawnP_intro (by kernel_rfl) (by kernel_rfl) ?_
        simp only [runA, runB, runC, runD, runE, runF, fieldE, storeE, binE, ↓reduceIte, Nat.reduceLT, Nat.reduceLeDiff, Nat.reduceEqDiff, Nat.reduceAdd, Nat.reduceMul, Nat.reduceSub, reduceCtorEq, putAt, unE, Nat.reduceBEq, convE, buildE, List.replicate, Int.reduceLT, Int.reduceLE, Int.reduceToNat, mkE, mapSetE, hN, hF, ty_3, ty_5, ty_9, ty_24, ty_47, ty_69, notIf, isEq, e1]
        refine ⟨11 - (i + 1), _, by omega, ?_, i + 1, ⟨by omega, h8'⟩, rfl, rfl⟩
        rw [hns]
        simp only [runB, finC, finD, AS.get, AS.mem, false_implies, implies_true, ↓reduceIte, Nat.reduceEqDiff, Option.isSome_some, Option.isSome_none, forall_eq_or_imp, forall_eq, reduceCtorEq, Nat.reduceAdd, Nat.reduceMul, List.zip_cons_cons, List.zip_nil_left, List.zip_nil_right, List.forall_mem_nil]
        first | done | omega | (simp; done) | (simp; omega)
      · have k2 : (((parts.getD i []).length : Int) != 8) = true := ne8t hp8
        have hS : opnS text parts = [] := by
          unfold opnS
          rw [if_neg]
          rintro ⟨_, h⟩
          refine hp8 (h _ ?_)
          rw [List.getD, List.getElem?_eq_getElem (by omega)]
          exact List.getElem_mem _
        rw [hS]
        generalize (dS text).getD i 0 = x at hg
        generalize parts.getD i [] = q at hgp hp8 k2
        simp only [runA, runB, runC, runD, runE, runF, fieldE, storeE, binE, ↓reduceIte, Nat.reduceLT, Nat.reduceLeDiff, Nat.reduceEqDiff, Nat.reduceAdd, Nat.reduceMul, Nat.reduceSub, reduceCtorEq, putAt, unE, Nat.reduceBEq, convE, buildE, List.replicate, Int.reduceLT, Int.reduceLE, Int.reduceToNat, mkE, mapSetE, hN, hF, ty_3, ty_5, ty_9, ty_24, ty_47, ty_69, notIf, isEq, k1, k2, e1, hg, hgp]
        simp only [runB, finC, finD, Option.isSome_some, Option.isSome_none, ↓reduceIte, Nat.reduceEqDiff, Nat.reduceAdd, Nat.reduceMul, forall_eq_or_imp, forall_eq, implies_true, Nat.reduceBEq, reduceCtorEq, false_implies, List.zip_cons_cons, List.zip_nil_left, List.zip_nil_right, Nat.reduceLeDiff, List.forall_mem_nil, rs_140]
    · have k1 : decide ((i : Int) < 11) = false := by simp; omega
      obtain rfl : i = 11 := by omega
      have hf := opnT_flat text parts 11 h8
      have he := short1_at (opnT text parts 11).flatten (by omega)
      have hall : all8 parts := fun p hp => by
        obtain ⟨k, hk, rfl⟩ := List.getElem_of_mem hp
        have := h8 k (by omega)
        rw [List.getD, List.getElem?_eq_getElem hk] at this
        exact this
      have hS : opnS text parts = shortS (opnT text parts 11).flatten := by
        unfold opnS
        rw [if_pos ⟨h11, hall⟩]
      rw [hS]
      simp only [runA, runB, runC, runD, runE, runF, fieldE, storeE, binE, ↓reduceIte, Nat.reduceLT, Nat.reduceLeDiff, Nat.reduceEqDiff, Nat.reduceAdd, Nat.reduceMul, Nat.reduceSub, reduceCtorEq, putAt, unE, Nat.reduceBEq, convE, buildE, List.replicate, Int.reduceLT, Int.reduceLE, Int.reduceToNat, mkE, mapSetE, hN, hF, ty_3, ty_5, ty_9, ty_24, ty_47, ty_69, notIf, isEq, k1, h2, he]
      simp only [runB, finC, finD, Option.isSome_some, Option.isSome_none, ↓reduceIte, Nat.reduceEqDiff, Nat.reduceAdd, Nat.reduceMul, forall_eq_or_imp, forall_eq, implies_true, Nat.reduceBEq, reduceCtorEq, false_implies, List.zip_cons_cons, List.zip_nil_left, List.zip_nil_right, Nat.reduceLeDiff, List.forall_mem_nil, rs_140]

end Go.Proofs.YtenmlgalcjkdbaaGreat.AM
