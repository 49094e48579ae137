/-
  Q9: Sh7 Sh8 Sh9 ShT Sg1 Sn1.
-/
import Derived.Test.YtldehcnaepgamaaQ8
import Derived.Test.YtldehcnaepgamaaQ7
set_option linter.unusedVariables false
set_option linter.unusedSimpArgs false
namespace Go.Proofs.Ytldehcnaepgamaa.AM
open Go

variable {Γ : FuncId → Contract}

def padS (b : List UInt8) : List UInt8 := [b, [128], List.replicate ((119 - b.length % 64) % 64) 0, putB (8 * (b.length : Int)) 8].flatten
theorem padS_eq (b : List UInt8) : padS b = b ++ ([128] ++ (List.replicate ((119 - b.length % 64) % 64) 0 ++ putB (8 * (b.length : Int)) 8)) := by simp [padS]
theorem padS_length (b : List UInt8) : (padS b).length % 64 = 0 ∧ (padS b).length ≤ b.length + 73 := by
  rw [padS_eq]
  simp only [List.length_append, List.length_replicate, List.length_cons, List.length_nil, putB_length]
  rw [show (min (max (8 : Int) 0) 8).toNat = 8 from rfl]
  omega
theorem rep_bytes (k : Nat) : List.replicate k [PC.int .u8 0] = bytes (List.replicate k 0) := by simp [bytes]

noncomputable def padC : Contract := mkC (α := List UInt8) (fun b => b.length ≤ 1099511627776) (fun b => [.c (.sl (bytes b))]) (fun _ => []) (fun b => ⟨[.fresh 1 (bytes (padS b))], []⟩)
theorem pad_at (b : List UInt8) (h : b.length ≤ 1099511627776) : padC [.c (.sl (bytes b))] [] = some ⟨[.fresh 1 (bytes (padS b))], []⟩ :=
  mkC_at (α := List UInt8) b h (by
    rintro y _ h _
    simp at h
    rw [bytes_inj h])

theorem slices4 (a c d : List UInt8) : [[PC.sl (bytes a)], [PC.sl [[PC.int .u8 128]]], [PC.sl (bytes c)], [PC.sl (bytes d)]] = slices [a, [128], c, d] := rfl

set_option maxRecDepth 100000 in
set_option maxHeartbeats 2000000 in
theorem pad_sound (hΓ : SoundG Try.prog Γ) (h53 : Γ 57 = putC) (h75 : Γ 154 = concatC) : SoundC Try.prog 148 padC := by
  refine sound_fn Try.func148 (by kernel_rfl) rfl rfl ?_
  intro args objs r hr
  obtain ⟨b, hl, rfl, rfl, rfl⟩ := mkC_inv hr
  refine ⟨rfl, by show 1 ≤ _; decide, fun E hN hns hF => ?_⟩
  refine vc_sound hΓ mixed _ _ _ ?_
  have hN := hN.trans nt_148
  have e1 : ((b.length : Int).tmod 64) = ((b.length % 64 : Nat) : Int) := rfl
  have e2 : IntKind.i64.wrap (119 - ((b.length % 64 : Nat) : Int)) = ((119 - b.length % 64 : Nat) : Int) := by rw [wrapI (by omega)]; omega
  have e3 : (((119 - b.length % 64 : Nat) : Int).tmod 64) = (((119 - b.length % 64) % 64 : Nat) : Int) := rfl
  have e4 : IntKind.i64.wrap (8 * (b.length : Int)) = 8 * (b.length : Int) := wrapI (by omega)
  obtain ⟨k, hk⟩ : ∃ k, k = (119 - b.length % 64) % 64 := ⟨_, rfl⟩
  have hk64 : k < 64 := by omega
  rw [← hk] at e3
  have e5 : (k : Int) ≤ 9223372036854775807 := by omega
  have e6 : (k : Int) * ((1 : Nat) : Int) ≤ 140737488355328 := by omega
  have hpad : [b, [128], List.replicate k 0, putB (8 * (b.length : Int)) 8].flatten = padS b := by rw [hk]; rfl
  have hpl := (padS_length b).2
  have hc := concat_at [b, [128], List.replicate k 0, putB (8 * (b.length : Int)) 8] ⟨by rw [hpad]; omega, by simp⟩
  rw [hpad] at hc
  simp only [runA, runB, runC, runD, runE, runF, fieldE, storeE, ↓reduceIte, Nat.reduceLT, Nat.reduceLeDiff, Nat.reduceEqDiff, Nat.reduceAdd, Nat.reduceMul, Nat.reduceSub, reduceCtorEq, putAt, Nat.reduceBEq, buildE, List.replicate, Int.reduceLT, Int.reduceLE, Int.reduceToNat, mkE, mapSetE, w_add, w_and, w_or, w_xor, w_xorF, w_not, w_shl8, w_shl16, w_shl24, w_shr3, w_shr8, w_shr10, w_shr16, w_shr24, b_add, b_sub, b_mul, b_quo, b_rem, b_and, b_or, b_xor, b_andNot, b_eql, b_neq, b_lss, b_leq, b_gtr, b_geq, b_str, b_bool, u_neg, u_not, c_bw, c_wb, cellsW_length, cellsW_pure, cellsW_all, cellsE_W, backCells_W, cellsAt_W, cellPairs_W, cellsW_toPCs, cellsW_map, hN, hF, ty_3, ty_5, ty_25, ty_43, notIf, isEq, intOp, e1, e2, e3, e4, e5, e6, Int.reduceEq, bytes_length, Int.le_refl, h53, putC, h75, rep_bytes, slices4, hc]
  refine drawnP_intro (by kernel_rfl) (by kernel_rfl) ?_
  simp only [thenA_normal, vc_ret]
  simp only [runB, finC, finD, Option.isSome_some, Option.isSome_none, ↓reduceIte, Nat.reduceEqDiff, Nat.reduceAdd, Nat.reduceMul, forall_eq_or_imp, forall_eq, implies_true, Nat.reduceBEq, reduceCtorEq, false_implies, List.zip_cons_cons, List.zip_nil_left, List.zip_nil_right, Nat.reduceLeDiff, List.forall_mem_nil, rs_148, bytes_length]

def H0 : S8 := ⟨1779033703, 3144134277, 1013904242, 2773480762, 1359893119, 2600822924, 528734635, 1541459225⟩
theorem H0_l : hS = H0.l := rfl
def chunk (p : List UInt8) (i : Nat) : List UInt8 := (p.drop (64 * i)).take 64
def stS (p : List UInt8) : Nat → S8
  | 0 => H0
  | i + 1 => blockS (stS p i) (chunk p i)
def shaS (b : List UInt8) : List UInt8 := octsOf (stS (padS b) ((padS b).length / 64)).l
theorem shaS_length (b : List UInt8) : (shaS b).length = 32 := by unfold shaS; rw [octsOf_length, S8.l_length]

noncomputable def sumC : Contract := mkC (α := List UInt8) (fun b => b.length ≤ 1099511627776) (fun b => [.c (.sl (bytes b))]) (fun _ => []) (fun b => ⟨[.fresh 1 (bytes (shaS b))], []⟩)
theorem sum_at (b : List UInt8) (h : b.length ≤ 1099511627776) : sumC [.c (.sl (bytes b))] [] = some ⟨[.fresh 1 (bytes (shaS b))], []⟩ :=
  mkC_at (α := List UInt8) b h (by
    rintro y _ h _
    simp at h
    rw [bytes_inj h])

theorem bytes_take (l : List UInt8) (n : Nat) : (bytes l).take n = bytes (l.take n) := by simp [bytes, List.map_take]
theorem bytes_drop (l : List UInt8) (n : Nat) : (bytes l).drop n = bytes (l.drop n) := by simp [bytes, List.map_drop]

set_option maxRecDepth 100000 in
set_option maxHeartbeats 2000000 in
theorem sum_sound (hΓ : SoundG Try.prog Γ) (h79 : Γ 146 = hC) (h80 : Γ 147 = kC) (h81 : Γ 148 = padC) (h82 : Γ 149 = blockC) (h83 : Γ 150 = wordsC) : SoundC Try.prog 135 sumC := by
  refine sound_fn Try.func135 (by kernel_rfl) rfl rfl ?_
  intro args objs r hr
  obtain ⟨b, hl, rfl, rfl, rfl⟩ := mkC_inv hr
  refine ⟨rfl, by show 1 ≤ _; decide, fun E hN hns hF => ?_⟩
  refine vc_sound hΓ mixed _ _ _ ?_
  have hN := hN.trans nt_135
  have hp := pad_at b hl
  obtain ⟨hp64, hpl⟩ := padS_length b
  have hsha : shaS b = octsOf (stS (padS b) ((padS b).length / 64)).l := rfl
  generalize padS b = p at hp hp64 hpl hsha
  obtain ⟨n, hn⟩ : ∃ n, p.length = 64 * n := ⟨p.length / 64, by omega⟩
  rw [show p.length / 64 = n from by omega] at hsha
  have q1 : putAt (cellsW (zerosW 64)) 0 (cellsW kS) = cellsW kS := cellsW_all_put (by rw [zerosW_length, kS_length])
  have q2 : putAt [AV.c (PC.int .u32 0), .c (.int .u32 0), .c (.int .u32 0), .c (.int .u32 0), .c (.int .u32 0), .c (.int .u32 0), .c (.int .u32 0), .c (.int .u32 0)] 0 (cellsW H0.l) = cellsW H0.l := cellsW_all_put (l := zerosW 8) ((S8.l_length H0).trans (zerosW_length 8).symm)
  simp only [runA, runB, runC, runD, runE, runF, fieldE, storeE, ↓reduceIte, Nat.reduceLT, Nat.reduceLeDiff, Nat.reduceEqDiff, Nat.reduceAdd, Nat.reduceMul, Nat.reduceSub, reduceCtorEq, Nat.reduceBEq, buildE, List.replicate, Int.reduceLT, Int.reduceLE, Int.reduceToNat, mkE, mapSetE, w_add, w_and, w_or, w_xor, w_xorF, w_not, w_shl8, w_shl16, w_shl24, w_shr3, w_shr8, w_shr10, w_shr16, w_shr24, b_add, b_sub, b_mul, b_quo, b_rem, b_and, b_or, b_xor, b_andNot, b_eql, b_neq, b_lss, b_leq, b_gtr, b_geq, b_str, b_bool, u_neg, u_not, c_bw, c_wb, cellsW_length, cellsW_pure, cellsW_all, cellsE_W, backCells_W, cellsAt_W, cellPairs_W, cellsW_toPCs, cellsW_map, hN, hF, ty_3, ty_5, ty_25, ty_151, ty_176, ty_178, ty_181, ty_183, notIf, isEq, zrep_W, h79, h80, h81, hC, kC, H0_l, hp, q1, q2, kS_length, S8.l_length, zerosW_length, bytes_length]
  refine AWP.loop (fun c s => ∃ i : Nat, i ≤ n ∧ c = n - i ∧ s = ⟨[(3, .ptr 192 0), (4, .ptr 256 0), (5, .c (.sl (bytes (p.drop (64 * i)))))], [(192, .obj (cellsW (stS p i).l) false), (256, .obj (cellsW kS) false)]⟩) ⟨n, _, ?w, 0, Nat.zero_le _, rfl, rfl⟩ ?r
  case w =>
    rw [hns]
    simp only [runB, finC, finD, AS.get, AS.mem, false_implies, implies_true, ↓reduceIte, Nat.reduceEqDiff, Option.isSome_some, Option.isSome_none, forall_eq_or_imp, forall_eq, reduceCtorEq, Nat.reduceAdd, Nat.reduceMul, List.zip_cons_cons, List.zip_nil_left, List.zip_nil_right, List.forall_mem_nil, cellsW_amds, stS]
    first | done | simp
  case r =>
    rintro c s ⟨i, hi, rfl, rfl⟩
    refine vc_sound hΓ mixed _ _ _ ?_
    have hql : (p.drop (64 * i)).length = 64 * (n - i) := by rw [List.length_drop, hn]; omega
    have hcl : (stS p i).l.length = 8 := S8.l_length _
    have ht : (cellsW (stS p i).l).take 8 = cellsW (stS p i).l := cellsW_take (S8.l_length _).symm
    by_cases hlt : i < n
    · have h1 : decide (((64 * (n - i) : Nat) : Int) > 0) = true := by simp; omega
      have e1 : (64 : Int) ≤ ((64 * (n - i) : Nat) : Int) := by omega
      have hb : blockC [.agg (cellsW (stS p i).l), .c (.sl (bytes (chunk p i))), .ptr 6400000 0] [ovW kS] = some ⟨[.pv (.agg (cellsW (blockS (stS p i) (chunk p i)).l))], [ovW kS]⟩ := block_at (stS p i) (chunk p i) (by unfold chunk; simp; omega)
      have hs : blockS (stS p i) (chunk p i) = stS p (i + 1) := rfl
      have hch : ((p.drop (64 * i)).take 64) = chunk p i := rfl
      have hd : (p.drop (64 * i)).drop 64 = p.drop (64 * (i + 1)) := by rw [List.drop_drop]; congr 1
      have hz := rowsOK_bytes
      rw [hs] at hb
      have q3 : putAt (cellsW (stS p i).l) 0 (cellsW (stS p (i + 1)).l) = cellsW (stS p (i + 1)).l := cellsW_all_put ((S8.l_length _).trans (S8.l_length _).symm)
      have q4 : (stS p (i + 1)).l.length = 8 := S8.l_length _
      have z0 : ((0 : Nat) : Int) ≤ 64 := by decide
      have htl : (bytes (p.drop (64 * i))).take (64 * (n - i)) = bytes (p.drop (64 * i)) := by rw [← hql, ← bytes_length, List.take_length]
      simp only [runA, runB, runC, runD, runE, runF, fieldE, storeE, ↓reduceIte, Nat.reduceLT, Nat.reduceLeDiff, Nat.reduceEqDiff, Nat.reduceAdd, Nat.reduceMul, Nat.reduceSub, reduceCtorEq, Nat.reduceBEq, buildE, List.replicate, Int.reduceLT, Int.reduceLE, Int.reduceToNat, mkE, mapSetE, w_add, w_and, w_or, w_xor, w_xorF, w_not, w_shl8, w_shl16, w_shl24, w_shr3, w_shr8, w_shr10, w_shr16, w_shr24, b_add, b_sub, b_mul, b_quo, b_rem, b_and, b_or, b_xor, b_andNot, b_eql, b_neq, b_lss, b_leq, b_gtr, b_geq, b_str, b_bool, u_neg, u_not, c_bw, c_wb, cellsW_length, cellsW_pure, cellsW_all, cellsE_W, backCells_W, cellsAt_W, cellPairs_W, cellsW_toPCs, cellsW_map, hN, hF, ty_3, ty_5, ty_25, ty_151, ty_176, ty_178, ty_181, ty_183, notIf, isEq, intOp, h1, e1, h82, hb, hz, hql, hcl, ht, sliceE, boundE, bytes_take, bytes_drop, hch, hd, q3, q4, bytes_length, Int.le_refl, z0, List.drop_zero, Option.isSome_some, htl]
      refine drawnP_intro (by kernel_rfl) (by kernel_rfl) ?_
      simp only [runA, runB, runC, runD, runE, runF, fieldE, storeE, ↓reduceIte, Nat.reduceLT, Nat.reduceLeDiff, Nat.reduceEqDiff, Nat.reduceAdd, Nat.reduceMul, Nat.reduceSub, reduceCtorEq, Nat.reduceBEq, buildE, List.replicate, Int.reduceLT, Int.reduceLE, Int.reduceToNat, mkE, mapSetE, w_add, w_and, w_or, w_xor, w_xorF, w_not, w_shl8, w_shl16, w_shl24, w_shr3, w_shr8, w_shr10, w_shr16, w_shr24, b_add, b_sub, b_mul, b_quo, b_rem, b_and, b_or, b_xor, b_andNot, b_eql, b_neq, b_lss, b_leq, b_gtr, b_geq, b_str, b_bool, u_neg, u_not, c_bw, c_wb, cellsW_length, cellsW_pure, cellsW_all, cellsE_W, backCells_W, cellsAt_W, cellPairs_W, cellsW_toPCs, cellsW_map, hN, hF, ty_3, ty_5, ty_25, ty_151, ty_176, ty_178, ty_181, ty_183, notIf, isEq, intOp, h1, e1, h82, hb, hz, hql, hcl, ht, sliceE, boundE, bytes_take, bytes_drop, hch, hd, q3, q4, bytes_length, Int.le_refl, z0, List.drop_zero, Option.isSome_some, htl]
      refine ⟨n - (i + 1), _, by omega, ?_, i + 1, by omega, rfl, rfl⟩
      rw [hns]
      simp only [runB, finC, finD, AS.get, AS.mem, false_implies, implies_true, ↓reduceIte, Nat.reduceEqDiff, Option.isSome_some, Option.isSome_none, forall_eq_or_imp, forall_eq, reduceCtorEq, Nat.reduceAdd, Nat.reduceMul, List.zip_cons_cons, List.zip_nil_left, List.zip_nil_right, List.forall_mem_nil, cellsW_amds]
      first | done | rfl | simp
    · have h1 : decide (((64 * (n - i) : Nat) : Int) > 0) = false := by simp; omega
      obtain rfl : i = n := by omega
      have hw : wordsC [.msl 6400000 0 8 true] [ovW (stS p i).l] = some ⟨[.fresh 1 (bytes (octsOf (stS p i).l))], [ovW (stS p i).l]⟩ := words_at (stS p i).l 8 (S8.l_length _).symm (by rw [S8.l_length]; decide)
      have c1 : ((0 : Nat) : Int) ≤ ((8 : Nat) : Int) := by decide
      have c2 : ((0 : Nat) : Int) = 0 := rfl
      have z8 : (0 : Int) ≤ ((8 : Nat) : Int) := by decide
      simp only [runA, runB, runC, runD, runE, runF, fieldE, storeE, ↓reduceIte, Nat.reduceLT, Nat.reduceLeDiff, Nat.reduceEqDiff, Nat.reduceAdd, Nat.reduceMul, Nat.reduceSub, reduceCtorEq, putAt, Nat.reduceBEq, buildE, List.replicate, Int.reduceLT, Int.reduceLE, Int.reduceToNat, mkE, mapSetE, w_add, w_and, w_or, w_xor, w_xorF, w_not, w_shl8, w_shl16, w_shl24, w_shr3, w_shr8, w_shr10, w_shr16, w_shr24, b_add, b_sub, b_mul, b_quo, b_rem, b_and, b_or, b_xor, b_andNot, b_eql, b_neq, b_lss, b_leq, b_gtr, b_geq, b_str, b_bool, u_neg, u_not, c_bw, c_wb, cellsW_length, cellsW_pure, cellsW_all, cellsE_W, backCells_W, cellsAt_W, cellPairs_W, cellsW_toPCs, cellsW_map, hN, hF, ty_3, ty_5, ty_25, ty_151, ty_176, ty_178, ty_181, ty_183, notIf, isEq, intOp, h1, hql, h83, hw, sliceE, boundE, z8, c1, c2, Int.le_refl, eq_self, true_or, bytes_length]
      simp only [runB, finC, finD, Option.isSome_some, Option.isSome_none, ↓reduceIte, Nat.reduceEqDiff, Nat.reduceAdd, Nat.reduceMul, forall_eq_or_imp, forall_eq, implies_true, Nat.reduceBEq, reduceCtorEq, false_implies, List.zip_cons_cons, List.zip_nil_left, List.zip_nil_right, Nat.reduceLeDiff, List.forall_mem_nil, rs_135, bytes_length, hsha]

def longOK (l : List (List UInt8)) : Prop := l.flatten.length ≤ 1099511627776 ∧ l.length ≤ 4611686018427387904
noncomputable def longC : Contract := mkC (α := List (List UInt8)) longOK (fun l => [.c (.sl (slices l))]) (fun _ => []) (fun l => ⟨[.pv (.c (.str (shaS l.flatten)))], []⟩)
theorem long_at (l : List (List UInt8)) (h : longOK l) : longC [.c (.sl (slices l))] [] = some ⟨[.pv (.c (.str (shaS l.flatten)))], []⟩ :=
  mkC_at (α := List (List UInt8)) l h (fun y _ h1 _ => by
    simp at h1
    rw [slices_inj h1])
/-- The first octets of a sum. -/
def shortS (b : List UInt8) : List UInt8 := (shaS b).take 8
theorem shortS_length (b : List UInt8) : (shortS b).length = 8 := by simp [shortS, shaS_length]
noncomputable def shortC : Contract := mkC (α := List (List UInt8)) longOK (fun l => [.c (.sl (slices l))]) (fun _ => []) (fun l => ⟨[.pv (.c (.str (shortS l.flatten)))], []⟩)
theorem short_at (l : List (List UInt8)) (h : longOK l) : shortC [.c (.sl (slices l))] [] = some ⟨[.pv (.c (.str (shortS l.flatten)))], []⟩ :=
  mkC_at (α := List (List UInt8)) l h (fun y _ h1 _ => by
    simp at h1
    rw [slices_inj h1])

set_option maxHeartbeats 1000000 in
theorem long_sound (hΓ : SoundG Try.prog Γ) (h75 : Γ 154 = concatC) (h74 : Γ 135 = sumC) : SoundC Try.prog 137 longC := by
  refine sound_fn Try.func137 (by kernel_rfl) rfl rfl ?_
  intro args objs r hr
  obtain ⟨l, ⟨hl1, hl2⟩, rfl, rfl, rfl⟩ := mkC_inv hr
  refine ⟨rfl, by show 1 ≤ _; decide, fun E hN hns hF => ?_⟩
  refine vc_sound hΓ mixed _ _ _ ?_
  have hN := hN.trans nt_137
  have h1 := concat_at l ⟨by omega, hl2⟩
  have h2 := sum_at l.flatten hl1
  simp only [runA, runB, runC, runD, runE, runF, fieldE, storeE, binE, ↓reduceIte, Nat.reduceLT, Nat.reduceLeDiff, Nat.reduceEqDiff, Nat.reduceAdd, Nat.reduceMul, Nat.reduceSub, reduceCtorEq, putAt, unE, Nat.reduceBEq, convE, buildE, List.replicate, Int.reduceLT, Int.reduceLE, Int.reduceToNat, mkE, mapSetE, hN, hF, ty_5, ty_9, ty_25, ty_43, notIf, isEq, h75, h74, h1, h2, bytes_length, bytesOf_bytes]
  simp only [runB, finC, finD, Option.isSome_some, Option.isSome_none, ↓reduceIte, Nat.reduceEqDiff, Nat.reduceAdd, Nat.reduceMul, forall_eq_or_imp, forall_eq, implies_true, Nat.reduceBEq, reduceCtorEq, false_implies, List.zip_cons_cons, List.zip_nil_left, List.zip_nil_right, Nat.reduceLeDiff, List.forall_mem_nil, rs_137]

set_option maxHeartbeats 1000000 in
theorem short_sound (hΓ : SoundG Try.prog Γ) (h68 : Γ 137 = longC) : SoundC Try.prog 113 shortC := by
  refine sound_fn Try.func113 (by kernel_rfl) rfl rfl ?_
  intro args objs r hr
  obtain ⟨l, hl, rfl, rfl, rfl⟩ := mkC_inv hr
  refine ⟨rfl, by show 1 ≤ _; decide, fun E hN hns hF => ?_⟩
  refine vc_sound hΓ mixed _ _ _ ?_
  have hN := hN.trans nt_113
  have h1 := long_at l hl
  have hlen := shaS_length l.flatten
  have z0 : ((0 : Nat) : Int) ≤ 8 := by decide
  have z8 : (8 : Int) ≤ ((32 : Nat) : Int) := by decide
  simp only [runA, runB, runC, runD, runE, runF, fieldE, storeE, binE, ↓reduceIte, Nat.reduceLT, Nat.reduceLeDiff, Nat.reduceEqDiff, Nat.reduceAdd, Nat.reduceMul, Nat.reduceSub, reduceCtorEq, putAt, unE, Nat.reduceBEq, convE, buildE, List.replicate, Int.reduceLT, Int.reduceLE, Int.reduceToNat, mkE, mapSetE, hN, hF, ty_9, ty_25, ty_43, notIf, isEq, h68, h1, sliceE, boundE, hlen, z0, z8, Int.le_refl, List.drop_zero]
  simp only [runB, finC, finD, Option.isSome_some, Option.isSome_none, ↓reduceIte, Nat.reduceEqDiff, Nat.reduceAdd, Nat.reduceMul, forall_eq_or_imp, forall_eq, implies_true, Nat.reduceBEq, reduceCtorEq, false_implies, List.zip_cons_cons, List.zip_nil_left, List.zip_nil_right, Nat.reduceLeDiff, List.forall_mem_nil, rs_113, shortS]


variable {Γ : FuncId → Contract}

theorem bw_toNat (c : UInt8) : (bw c).toNat = c.toNat := by
  have := c.toNat_lt
  unfold bw
  rw [BitVec.toNat_ofNat]
  omega
theorem or_step (x : W32) (hx : x.toNat < 16777216) (c : UInt8) : ((x <<< 8) ||| bw c).toNat = x.toNat * 256 + c.toNat := by
  have hc := c.toNat_lt
  rw [BitVec.toNat_or, bw_toNat, BitVec.toNat_shiftLeft]
  have h1 : x.toNat <<< 8 % 2 ^ 32 = x.toNat <<< 8 := by rw [Nat.shiftLeft_eq]; omega
  rw [h1, ← Nat.shiftLeft_add_eq_or_of_lt (by omega), Nat.shiftLeft_eq]
theorem be4 (a b c d : UInt8) : ((bw a <<< 24 + bw b <<< 16) + bw c <<< 8) + bw d = (((((0 : W32) <<< 8 ||| bw a) <<< 8 ||| bw b) <<< 8 ||| bw c) <<< 8 ||| bw d) := by
  have ha := a.toNat_lt; have hb := b.toNat_lt; have hc := c.toNat_lt; have hd := d.toNat_lt
  have z : (0 : W32).toNat = 0 := rfl
  have s1 := or_step 0 (by rw [z]; decide) a
  have s2 := or_step ((0 : W32) <<< 8 ||| bw a) (by rw [s1, z]; omega) b
  have s3 := or_step (((0 : W32) <<< 8 ||| bw a) <<< 8 ||| bw b) (by rw [s2, s1, z]; omega) c
  have s4 := or_step ((((0 : W32) <<< 8 ||| bw a) <<< 8 ||| bw b) <<< 8 ||| bw c) (by rw [s3, s2, s1, z]; omega) d
  apply BitVec.eq_of_toNat_eq
  rw [s4, s3, s2, s1, z]
  simp only [BitVec.toNat_add, BitVec.toNat_shiftLeft, bw_toNat, Nat.shiftLeft_eq]
  omega
theorem wordS_full (b : List UInt8) (n : Nat) (h : n + 3 < b.length) : wordS b (n : Int) = ((bw (b.getD n 0) <<< 24 + bw (b.getD (n + 1) 0) <<< 16) + bw (b.getD (n + 2) 0) <<< 8) + bw (b.getD (n + 3) 0) := by
  rw [be4]
  unfold wordS
  simp only [wordTo]
  rw [if_pos ⟨by omega, by omega⟩, if_pos ⟨by omega, by omega⟩, if_pos ⟨by omega, by omega⟩, if_pos ⟨by omega, by omega⟩]
  simp only [Int.toNat_natCast, Nat.add_zero]

set_option maxRecDepth 100000 in
set_option maxHeartbeats 1000000 in
theorem refPad_sound (hΓ : SoundG Try.prog Γ) (h54 : Γ 61 = putC) : SoundC Try.prog 152 padC := by
  refine sound_fn Try.func152 (by kernel_rfl) rfl rfl ?_
  intro args objs r hr
  obtain ⟨b, hl, rfl, rfl, rfl⟩ := mkC_inv hr
  refine ⟨rfl, by show 1 ≤ _; decide, fun E hN hns hF => ?_⟩
  refine vc_sound hΓ mixed _ _ _ ?_
  have hN := hN.trans nt_152
  obtain ⟨k, hk⟩ : ∃ k, k = (119 - b.length % 64) % 64 := ⟨_, rfl⟩
  have hk64 : k < 64 := by omega
  have hz := rowsOK_bytes
  have hL0 : b.length ≤ 140737488355328 := by omega
  have hL1 : b.length + 1 ≤ 140737488355328 := by omega
  have h128 : [[PC.int .u8 128]] = bytes [128] := rfl
  simp only [runA, runB, runC, runD, runE, runF, fieldE, storeE, binE, ↓reduceIte, Nat.reduceLT, Nat.reduceLeDiff, Nat.reduceEqDiff, Nat.reduceAdd, Nat.reduceMul, Nat.reduceSub, reduceCtorEq, putAt, unE, Nat.reduceBEq, convE, buildE, List.replicate, Int.reduceLT, Int.reduceLE, Int.reduceToNat, mkE, mapSetE, hN, hF, ty_3, ty_5, ty_25, notIf, isEq, hz, hL0, hL1, h128, bytes_length, bytes_app]
  refine AWP.loop (fun c s => ∃ j : Nat, j ≤ k ∧ c = k - j ∧ s = ⟨[(0, .c (.sl (bytes b))), (3, .own 385 1 (bytes ((b ++ [128]) ++ List.replicate j 0)))], [(385, .row 1 ((b ++ [128]) ++ List.replicate j 0).length)]⟩) ⟨k, _, ?w, 0, Nat.zero_le _, rfl, rfl⟩ ?r
  case w =>
    rw [hns]
    simp only [runB, finC, finD, AS.get, AS.mem, false_implies, implies_true, ↓reduceIte, Nat.reduceEqDiff, Option.isSome_some, Option.isSome_none, forall_eq_or_imp, forall_eq, reduceCtorEq, Nat.reduceAdd, Nat.reduceMul, List.zip_cons_cons, List.zip_nil_left, List.zip_nil_right, List.forall_mem_nil]
    first | done | simp
  case r =>
    rintro c s ⟨j, hj, rfl, rfl⟩
    refine vc_sound hΓ mixed _ _ _ ?_
    have hlen : ((b ++ [128]) ++ List.replicate j (0 : UInt8)).length = b.length + 1 + j := by simp; omega
    have e1 : (((b.length + 1 + j : Nat) : Int).tmod 64) = (((b.length + 1 + j) % 64 : Nat) : Int) := rfl
    by_cases hlt : j < k
    · have h1 : ((((b.length + 1 + j) % 64 : Nat) : Int) != 56) = true := by simp; omega
      have h0 : [[PC.int .u8 0]] = bytes [0] := rfl
      have hL : b.length + 1 + j + 1 ≤ 140737488355328 := by omega
      have happ : ((b ++ [128]) ++ List.replicate j (0 : UInt8)) ++ [0] = (b ++ [128]) ++ List.replicate (j + 1) 0 := by rw [List.append_assoc, List.replicate_succ']
      generalize hq : (b ++ [128]) ++ List.replicate j (0 : UInt8) = q at hlen happ ⊢
      simp only [runA, runB, runC, runD, runE, runF, fieldE, storeE, binE, ↓reduceIte, Nat.reduceLT, Nat.reduceLeDiff, Nat.reduceEqDiff, Nat.reduceAdd, Nat.reduceMul, Nat.reduceSub, reduceCtorEq, putAt, unE, Nat.reduceBEq, convE, buildE, List.replicate, Int.reduceLT, Int.reduceLE, Int.reduceToNat, mkE, mapSetE, hN, hF, ty_3, ty_5, ty_25, notIf, isEq, hlen, e1, h1, h0, hz, hL, bytes_length, bytes_app, happ, Int.reduceEq]
      refine ⟨k - (j + 1), _, by omega, ?_, j + 1, by omega, rfl, rfl⟩
      rw [hns]
      have hlen' : ((b ++ [128]) ++ List.replicate (j + 1) (0 : UInt8)).length = b.length + 1 + j + 1 := by simp; omega
      simp only [runB, finC, finD, AS.get, AS.mem, false_implies, implies_true, ↓reduceIte, Nat.reduceEqDiff, Option.isSome_some, Option.isSome_none, forall_eq_or_imp, forall_eq, reduceCtorEq, Nat.reduceAdd, Nat.reduceMul, List.zip_cons_cons, List.zip_nil_left, List.zip_nil_right, List.forall_mem_nil, hlen']
      simp [List.replicate_succ, Nat.add_assoc]
    · obtain rfl : j = k := by omega
      have h1 : ((((b.length + 1 + j) % 64 : Nat) : Int) != 56) = false := by simp; omega
      have e4 : IntKind.i64.wrap (8 * (b.length : Int)) = 8 * (b.length : Int) := wrapI (by omega)
      have hpl : (putB (8 * (b.length : Int)) 8).length = 8 := by rw [putB_length]; rfl
      have hL : b.length + 1 + j + 8 ≤ 140737488355328 := by omega
      have hpad : ((b ++ [128]) ++ List.replicate j (0 : UInt8)) ++ putB (8 * (b.length : Int)) 8 = padS b := by rw [padS_eq, hk]; simp
      generalize hq : (b ++ [128]) ++ List.replicate j (0 : UInt8) = q at hlen hpad ⊢
      simp only [runA, runB, runC, runD, runE, runF, fieldE, storeE, binE, ↓reduceIte, Nat.reduceLT, Nat.reduceLeDiff, Nat.reduceEqDiff, Nat.reduceAdd, Nat.reduceMul, Nat.reduceSub, reduceCtorEq, putAt, unE, Nat.reduceBEq, convE, buildE, List.replicate, Int.reduceLT, Int.reduceLE, Int.reduceToNat, mkE, mapSetE, hN, hF, ty_3, ty_5, ty_25, notIf, isEq, hlen, e1, e4, h1, hz, hL, hpl, h54, putC, bytes_length, bytes_app, hpad, Int.reduceEq]
      simp only [runB, finC, finD, Option.isSome_some, Option.isSome_none, ↓reduceIte, Nat.reduceEqDiff, Nat.reduceAdd, Nat.reduceMul, forall_eq_or_imp, forall_eq, implies_true, Nat.reduceBEq, reduceCtorEq, false_implies, List.zip_cons_cons, List.zip_nil_left, List.zip_nil_right, Nat.reduceLeDiff, List.forall_mem_nil, rs_152, bytes_length]
      first | done | (rw [← hpad]; simp [hlen, hpl])


variable {Γ : FuncId → Contract}

theorem addS_comm (v s : S8) : addS v s = addS s v := by
  unfold addS
  simp only [BitVec.add_comm]

theorem chunk_get (p : List UInt8) (i j : Nat) (hj : j < 64) : (chunk p i).getD j 0 = p.getD (64 * i + j) 0 := by
  unfold chunk
  rw [List.getD_eq_getElem?_getD, List.getD_eq_getElem?_getD, List.getElem?_take, if_pos hj, List.getElem?_drop]
theorem build8r (a b c d e f g h : PC) : buildE Try.prog 175 [(0, .c a), (1, .c b), (2, .c c), (3, .c d), (4, .c e), (5, .c f), (6, .c g), (7, .c h)] = some [.c a, .c b, .c c, .c d, .c e, .c f, .c g, .c h] := by kernel_rfl
theorem H0_cells : [AV.c (PC.int .u32 1779033703), .c (.int .u32 3144134277), .c (.int .u32 1013904242), .c (.int .u32 2773480762), .c (.int .u32 1359893119), .c (.int .u32 2600822924), .c (.int .u32 528734635), .c (.int .u32 1541459225)] = cellsW H0.l := by kernel_rfl

set_option maxRecDepth 100000 in
set_option maxHeartbeats 1000000 in
theorem refSha_sound (hΓ : SoundG Try.prog Γ) (h76 : Γ 151 = kC) (h77 : Γ 152 = padC) (h78 : Γ 153 = turnC) : SoundC Try.prog 136 sumC := by
  refine sound_fnA ⟨[], [(12, .tidy [3, 4, 5, 6, 7, 8]), (13, .tidy [3, 4, 5, 6, 7, 8, 9, 10]), (14, .tidy [3, 4, 5, 6, 7, 8]), (19, .tidy [3, 4, 5, 6, 7, 11, 12, 13, 14]), (20, .tidy [3, 4, 5, 6, 7, 11, 12, 13, 15]), (21, .tidy [3, 4, 5, 6, 7, 11, 12, 15, 16]), (22, .tidy [3, 4, 5, 6, 7, 11, 12])]⟩ Try.func136 (by kernel_rfl) rfl rfl ?_
  intro args objs r hr
  obtain ⟨b, hl, rfl, rfl, rfl⟩ := mkC_inv hr
  refine ⟨rfl, by show 1 ≤ _; decide, fun E hN hns hF => ?_⟩
  refine vc_sound hΓ mixed _ _ _ ?_
  have hN := hN.trans nt_136
  have hp := pad_at b hl
  obtain ⟨hp64, hpl⟩ := padS_length b
  have hsha : shaS b = octsOf (stS (padS b) ((padS b).length / 64)).l := rfl
  generalize padS b = p at hp hp64 hpl hsha
  obtain ⟨n, hn⟩ : ∃ n, p.length = 64 * n := ⟨p.length / 64, by omega⟩
  rw [show p.length / 64 = n from by omega] at hsha
  have q1 : putAt (cellsW (zerosW 64)) 0 (cellsW kS) = cellsW kS := cellsW_all_put (by rw [zerosW_length, kS_length])
  have q2 : putAt [AV.c (PC.int .u32 0), .c (.int .u32 0), .c (.int .u32 0), .c (.int .u32 0), .c (.int .u32 0), .c (.int .u32 0), .c (.int .u32 0), .c (.int .u32 0)] 0 (cellsW H0.l) = cellsW H0.l := cellsW_all_put (l := zerosW 8) ((S8.l_length H0).trans (zerosW_length 8).symm)
  have q0 : ∀ s : S8, putAt [AV.c (PC.int .u32 0), .c (.int .u32 0), .c (.int .u32 0), .c (.int .u32 0), .c (.int .u32 0), .c (.int .u32 0), .c (.int .u32 0), .c (.int .u32 0)] 0 (cellsW s.l) = cellsW s.l := fun s => cellsW_all_put (l := zerosW 8) ((S8.l_length s).trans (zerosW_length 8).symm)
  simp only [runA, runB, runC, runD, runE, runF, fieldE, storeE, ↓reduceIte, Nat.reduceLT, Nat.reduceLeDiff, Nat.reduceEqDiff, Nat.reduceAdd, Nat.reduceMul, Nat.reduceSub, reduceCtorEq, Nat.reduceBEq, List.replicate, Int.reduceLT, Int.reduceLE, Int.reduceToNat, mkE, mapSetE, w_add, w_and, w_or, w_xor, w_xorF, w_not, w_shl8, w_shl16, w_shl24, w_shr3, w_shr8, w_shr10, w_shr16, w_shr24, b_add, b_sub, b_mul, b_quo, b_rem, b_and, b_or, b_xor, b_andNot, b_eql, b_neq, b_lss, b_leq, b_gtr, b_geq, b_str, b_bool, u_neg, u_not, c_bw, c_wb, cellsW_length, cellsW_pure, cellsW_all, cellsE_W, backCells_W, cellsAt_W, cellPairs_W, cellsW_toPCs, cellsW_map, hN, hF, ty_3, ty_5, ty_25, ty_46, ty_151, ty_175, ty_178, notIf, isEq, zrep_W, h76, h77, kC, build8r, H0_cells, hp, q1, q2, kS_length, S8.l_length, zerosW_length, bytes_length]
  refine AWP.loop (fun c s => ∃ i : Nat, i ≤ n ∧ c = n - i ∧ s = ⟨[(3, .ptr 192 0), (4, .ptr 256 0), (5, .c (.sl (bytes p))), (6, .c (.int .i64 ((64 * i : Nat) : Int)))], [(192, .obj (cellsW kS) false), (256, .obj (cellsW (stS p i).l) false)]⟩) ⟨n, _, ?w, 0, Nat.zero_le _, rfl, rfl⟩ ?r
  case w =>
    rw [hns]
    simp only [runB, finC, finD, AS.get, AS.mem, false_implies, implies_true, ↓reduceIte, Nat.reduceEqDiff, Option.isSome_some, Option.isSome_none, forall_eq_or_imp, forall_eq, reduceCtorEq, Nat.reduceAdd, Nat.reduceMul, List.zip_cons_cons, List.zip_nil_left, List.zip_nil_right, List.forall_mem_nil, cellsW_amds, stS]
    first | done | simp
  case r =>
    rintro c s ⟨i, hi, rfl, rfl⟩
    refine vc_sound hΓ mixed _ _ _ ?_
    by_cases hlt : i < n
    · have h1 : decide (((64 * i : Nat) : Int) < ((64 * n : Nat) : Int)) = true := by simp; omega
      have hss : stS p (i + 1) = addS (stS p i) (rounds (stS p i) (wS (chunk p i) 64) 64) := by
        show blockS _ _ = _
        unfold blockS
        rw [addS_comm]
      have e64 : IntKind.i64.wrap (((64 * i : Nat) : Int) + 64) = ((64 * (i + 1) : Nat) : Int) := by rw [wrapI (by omega)]; omega
      generalize stS p i = st at hss ⊢
      generalize hst' : stS p (i + 1) = st' at hss ⊢
      simp only [runA, runB, runC, runD, runE, runF, fieldE, storeE, ↓reduceIte, Nat.reduceLT, Nat.reduceLeDiff, Nat.reduceEqDiff, Nat.reduceAdd, Nat.reduceMul, Nat.reduceSub, reduceCtorEq, Nat.reduceBEq, List.replicate, Int.reduceLT, Int.reduceLE, Int.reduceToNat, mkE, mapSetE, w_add, w_and, w_or, w_xor, w_xorF, w_not, w_shl8, w_shl16, w_shl24, w_shr3, w_shr8, w_shr10, w_shr16, w_shr24, b_add, b_sub, b_mul, b_quo, b_rem, b_and, b_or, b_xor, b_andNot, b_eql, b_neq, b_lss, b_leq, b_gtr, b_geq, b_str, b_bool, u_neg, u_not, c_bw, c_wb, cellsW_length, cellsW_pure, cellsW_all, cellsE_W, backCells_W, cellsAt_W, cellPairs_W, cellsW_toPCs, cellsW_map, hN, hF, ty_3, ty_5, ty_25, ty_46, ty_151, ty_175, ty_178, notIf, isEq, zrep_W, intOp, h1, hn, bytes_length]
      -- the words
      refine AWP.loop (fun c s => ∃ t : Nat, t ≤ 64 ∧ c = 64 - t ∧ s = ⟨[(3, .ptr 192 0), (4, .ptr 256 0), (5, .c (.sl (bytes p))), (6, .c (.int .i64 ((64 * i : Nat) : Int))), (7, .ptr 448 0), (8, .c (.int .i64 (t : Int)))], [(192, .obj (cellsW kS) false), (256, .obj (cellsW st.l) false), (448, .obj (cellsW (wCells (chunk p i) t)) false)]⟩) ⟨64, _, ?w1, 0, Nat.zero_le _, rfl, rfl⟩ ?r1
      case w1 =>
        rw [hns]
        simp only [runB, finC, finD, AS.get, AS.mem, false_implies, implies_true, ↓reduceIte, Nat.reduceEqDiff, Option.isSome_some, Option.isSome_none, forall_eq_or_imp, forall_eq, reduceCtorEq, Nat.reduceAdd, Nat.reduceMul, List.zip_cons_cons, List.zip_nil_left, List.zip_nil_right, List.forall_mem_nil, cellsW_amds]
        first | done | (simp [wCells, wS, cellsW_amds])
      case r1 =>
        rintro c s ⟨t, ht, rfl, rfl⟩
        refine vc_sound hΓ mixed _ _ _ ?_
        have hcl := wCells_length (chunk p i) t ht
        by_cases htl : t < 64
        · have h2 : decide ((t : Int) < 64) = true := by simp; omega
          have e1 : IntKind.i64.wrap ((t : Int) + 1) = (t : Int) + 1 := wrapI (by omega)
          have l0 : (t : Int) < ((64 : Nat) : Int) := by omega
          have e4 : t + 1 ≤ 64 := by omega
          have hp1 := cellsW_put (l := wCells (chunk p i) t) (i := t) (nextW (chunk p i) (wS (chunk p i) t) t) (by omega)
          have hq := wCells_set (chunk p i) t htl
          by_cases h16 : t < 16
          · have h3 : decide ((t : Int) < 16) = true := by simp; omega
            have a1 : IntKind.i64.wrap (4 * (t : Int)) = ((4 * t : Nat) : Int) := by rw [wrapI (by omega)]; omega
            have a2 : IntKind.i64.wrap (((64 * i : Nat) : Int) + ((4 * t : Nat) : Int)) = ((64 * i + 4 * t : Nat) : Int) := by rw [wrapI (by omega)]; omega
            have a3 : ∀ k : Nat, k ≤ 3 → IntKind.i64.wrap (((64 * i + 4 * t : Nat) : Int) + (k : Int)) = ((64 * i + 4 * t + k : Nat) : Int) := fun k hk => by rw [wrapI (by omega)]; omega
            have a31 : IntKind.i64.wrap (((64 * i + 4 * t : Nat) : Int) + 1) = ((64 * i + 4 * t + 1 : Nat) : Int) := a3 1 (by decide)
            have a32 : IntKind.i64.wrap (((64 * i + 4 * t : Nat) : Int) + 2) = ((64 * i + 4 * t + 2 : Nat) : Int) := a3 2 (by decide)
            have a33 : IntKind.i64.wrap (((64 * i + 4 * t : Nat) : Int) + 3) = ((64 * i + 4 * t + 3 : Nat) : Int) := a3 3 (by decide)
            have gb : ∀ k : Nat, k ≤ 3 → (bytes p)[64 * i + 4 * t + k]? = some [PC.int .u8 (((chunk p i).getD (4 * t + k) 0).toNat : Int)] := fun k hk => by
              rw [chunk_get p i (4 * t + k) (by omega), ← Nat.add_assoc, List.getD_eq_getElem?_getD]
              have : 64 * i + 4 * t + k < p.length := by omega
              simp [bytes, this]
            have gb0 := gb 0 (by decide)
            have gb1 := gb 1 (by decide)
            have gb2 := gb 2 (by decide)
            have gb3 := gb 3 (by decide)
            rw [Nat.add_zero, Nat.add_zero] at gb0
            have hv : ((bw ((chunk p i).getD (4 * t) 0) <<< 24 + bw ((chunk p i).getD (4 * t + 1) 0) <<< 16) + bw ((chunk p i).getD (4 * t + 2) 0) <<< 8) + bw ((chunk p i).getD (4 * t + 3) 0) = nextW (chunk p i) (wS (chunk p i) t) t := by
              have hcl : (chunk p i).length = 64 := by unfold chunk; simp; omega
              rw [nextW, if_pos h16, show (4 * (t : Int)) = ((4 * t : Nat) : Int) from by omega, wordS_full _ _ (by omega)]
            simp only [runA, runB, runC, runD, runE, runF, fieldE, storeE, ↓reduceIte, Nat.reduceLT, Nat.reduceLeDiff, Nat.reduceEqDiff, Nat.reduceAdd, Nat.reduceMul, Nat.reduceSub, reduceCtorEq, Nat.reduceBEq, List.replicate, Int.reduceLT, Int.reduceLE, Int.reduceToNat, mkE, mapSetE, w_add, w_and, w_or, w_xor, w_xorF, w_not, w_shl8, w_shl16, w_shl24, w_shr3, w_shr8, w_shr10, w_shr16, w_shr24, b_add, b_sub, b_mul, b_quo, b_rem, b_and, b_or, b_xor, b_andNot, b_eql, b_neq, b_lss, b_leq, b_gtr, b_geq, b_str, b_bool, u_neg, u_not, c_bw, c_wb, cellsW_length, cellsW_pure, cellsW_all, cellsE_W, backCells_W, cellsAt_W, cellPairs_W, cellsW_toPCs, cellsW_map, hN, hF, ty_3, ty_5, ty_25, ty_46, ty_151, ty_175, ty_178, notIf, isEq, intOp, h2, h3, e1, a1, a2, a31, a32, a33, gb0, gb1, gb2, gb3, l0, hcl, e4, hv, hp1, hq, bytes_length]
            refine drawnP_intro (by kernel_rfl) (by kernel_rfl) ?_
            simp only [runA, runB, runC, runD, runE, runF, fieldE, storeE, ↓reduceIte, Nat.reduceLT, Nat.reduceLeDiff, Nat.reduceEqDiff, Nat.reduceAdd, Nat.reduceMul, Nat.reduceSub, reduceCtorEq, Nat.reduceBEq, List.replicate, Int.reduceLT, Int.reduceLE, Int.reduceToNat, mkE, mapSetE, w_add, w_and, w_or, w_xor, w_xorF, w_not, w_shl8, w_shl16, w_shl24, w_shr3, w_shr8, w_shr10, w_shr16, w_shr24, b_add, b_sub, b_mul, b_quo, b_rem, b_and, b_or, b_xor, b_andNot, b_eql, b_neq, b_lss, b_leq, b_gtr, b_geq, b_str, b_bool, u_neg, u_not, c_bw, c_wb, cellsW_length, cellsW_pure, cellsW_all, cellsE_W, backCells_W, cellsAt_W, cellPairs_W, cellsW_toPCs, cellsW_map, hN, hF, ty_3, ty_5, ty_25, ty_46, ty_151, ty_175, ty_178, notIf, isEq, intOp, e1]
            refine ⟨64 - (t + 1), _, by omega, ?_, t + 1, by omega, rfl, rfl⟩
            rw [hns]
            simp only [runB, finC, finD, AS.get, AS.mem, false_implies, implies_true, ↓reduceIte, Nat.reduceEqDiff, Option.isSome_some, Option.isSome_none, forall_eq_or_imp, forall_eq, reduceCtorEq, Nat.reduceAdd, Nat.reduceMul, List.zip_cons_cons, List.zip_nil_left, List.zip_nil_right, List.forall_mem_nil, cellsW_amds]
            first | done | simp
          · have h3 : decide ((t : Int) < 16) = false := by simp; omega
            have a15 : IntKind.i64.wrap ((t : Int) - 15) = ((t - 15 : Nat) : Int) := by rw [wrapI (by omega)]; omega
            have a2 : IntKind.i64.wrap ((t : Int) - 2) = ((t - 2 : Nat) : Int) := by rw [wrapI (by omega)]; omega
            have a7 : IntKind.i64.wrap ((t : Int) - 7) = ((t - 7 : Nat) : Int) := by rw [wrapI (by omega)]; omega
            have a16 : IntKind.i64.wrap ((t : Int) - 16) = ((t - 16 : Nat) : Int) := by rw [wrapI (by omega)]; omega
            have l15 : ((t - 15 : Nat) : Int) < ((64 : Nat) : Int) := by omega
            have l2 : ((t - 2 : Nat) : Int) < ((64 : Nat) : Int) := by omega
            have l7 : ((t - 7 : Nat) : Int) < ((64 : Nat) : Int) := by omega
            have l16 : ((t - 16 : Nat) : Int) < ((64 : Nat) : Int) := by omega
            have g15 := cellsW_get (wCells_get (chunk p i) t (t - 15) (by omega))
            have g2 := cellsW_get (wCells_get (chunk p i) t (t - 2) (by omega))
            have g7 := cellsW_get (wCells_get (chunk p i) t (t - 7) (by omega))
            have g16 := cellsW_get (wCells_get (chunk p i) t (t - 16) (by omega))
            have r7 : ∀ x, turnC [.c (wC x), .c (.int .u64 7)] [] = _ := fun x => turn_at x 7 (by decide) (by decide)
            have r18 : ∀ x, turnC [.c (wC x), .c (.int .u64 18)] [] = _ := fun x => turn_at x 18 (by decide) (by decide)
            have r17 : ∀ x, turnC [.c (wC x), .c (.int .u64 17)] [] = _ := fun x => turn_at x 17 (by decide) (by decide)
            have r19 : ∀ x, turnC [.c (wC x), .c (.int .u64 19)] [] = _ := fun x => turn_at x 19 (by decide) (by decide)
            have hnw : (((rotr ((wS (chunk p i) t).getD (t - 2) 0) 17 ^^^ rotr ((wS (chunk p i) t).getD (t - 2) 0) 19) ^^^ ((wS (chunk p i) t).getD (t - 2) 0 >>> 10)) + (wS (chunk p i) t).getD (t - 7) 0 + ((rotr ((wS (chunk p i) t).getD (t - 15) 0) 7 ^^^ rotr ((wS (chunk p i) t).getD (t - 15) 0) 18) ^^^ ((wS (chunk p i) t).getD (t - 15) 0 >>> 3))) + (wS (chunk p i) t).getD (t - 16) 0 = nextW (chunk p i) (wS (chunk p i) t) t := by
              rw [nextW, if_neg (by omega)]
            simp only [runA, runB, runC, runD, runE, runF, fieldE, storeE, ↓reduceIte, Nat.reduceLT, Nat.reduceLeDiff, Nat.reduceEqDiff, Nat.reduceAdd, Nat.reduceMul, Nat.reduceSub, reduceCtorEq, Nat.reduceBEq, List.replicate, Int.reduceLT, Int.reduceLE, Int.reduceToNat, mkE, mapSetE, w_add, w_and, w_or, w_xor, w_xorF, w_not, w_shl8, w_shl16, w_shl24, w_shr3, w_shr8, w_shr10, w_shr16, w_shr24, b_add, b_sub, b_mul, b_quo, b_rem, b_and, b_or, b_xor, b_andNot, b_eql, b_neq, b_lss, b_leq, b_gtr, b_geq, b_str, b_bool, u_neg, u_not, c_bw, c_wb, cellsW_length, cellsW_pure, cellsW_all, cellsE_W, backCells_W, cellsAt_W, cellPairs_W, cellsW_toPCs, cellsW_map, hN, hF, ty_3, ty_5, ty_25, ty_46, ty_151, ty_175, ty_178, notIf, isEq, intOp, h2, h3, e1, a15, a2, a7, a16, l0, l15, l2, l7, l16, g15, g2, g7, g16, r7, r18, r17, r19, h78, hcl, e4, hnw, hp1, hq]
            refine drawnP_intro (by kernel_rfl) (by kernel_rfl) ?_
            simp only [runA, runB, runC, runD, runE, runF, fieldE, storeE, ↓reduceIte, Nat.reduceLT, Nat.reduceLeDiff, Nat.reduceEqDiff, Nat.reduceAdd, Nat.reduceMul, Nat.reduceSub, reduceCtorEq, Nat.reduceBEq, List.replicate, Int.reduceLT, Int.reduceLE, Int.reduceToNat, mkE, mapSetE, w_add, w_and, w_or, w_xor, w_xorF, w_not, w_shl8, w_shl16, w_shl24, w_shr3, w_shr8, w_shr10, w_shr16, w_shr24, b_add, b_sub, b_mul, b_quo, b_rem, b_and, b_or, b_xor, b_andNot, b_eql, b_neq, b_lss, b_leq, b_gtr, b_geq, b_str, b_bool, u_neg, u_not, c_bw, c_wb, cellsW_length, cellsW_pure, cellsW_all, cellsE_W, backCells_W, cellsAt_W, cellPairs_W, cellsW_toPCs, cellsW_map, hN, hF, ty_3, ty_5, ty_25, ty_46, ty_151, ty_175, ty_178, notIf, isEq, intOp, h2, h3, e1, a15, a2, a7, a16, l0, l15, l2, l7, l16, g15, g2, g7, g16, r7, r18, r17, r19, h78, hcl, e4, hnw, hp1, hq]
            refine drawnP_intro (by kernel_rfl) (by kernel_rfl) ?_
            simp only [runA, runB, runC, runD, runE, runF, fieldE, storeE, ↓reduceIte, Nat.reduceLT, Nat.reduceLeDiff, Nat.reduceEqDiff, Nat.reduceAdd, Nat.reduceMul, Nat.reduceSub, reduceCtorEq, Nat.reduceBEq, List.replicate, Int.reduceLT, Int.reduceLE, Int.reduceToNat, mkE, mapSetE, w_add, w_and, w_or, w_xor, w_xorF, w_not, w_shl8, w_shl16, w_shl24, w_shr3, w_shr8, w_shr10, w_shr16, w_shr24, b_add, b_sub, b_mul, b_quo, b_rem, b_and, b_or, b_xor, b_andNot, b_eql, b_neq, b_lss, b_leq, b_gtr, b_geq, b_str, b_bool, u_neg, u_not, c_bw, c_wb, cellsW_length, cellsW_pure, cellsW_all, cellsE_W, backCells_W, cellsAt_W, cellPairs_W, cellsW_toPCs, cellsW_map, hN, hF, ty_3, ty_5, ty_25, ty_46, ty_151, ty_175, ty_178, notIf, isEq, intOp, e1]
            refine ⟨64 - (t + 1), _, by omega, ?_, t + 1, by omega, rfl, rfl⟩
            rw [hns]
            simp only [runB, finC, finD, AS.get, AS.mem, false_implies, implies_true, ↓reduceIte, Nat.reduceEqDiff, Option.isSome_some, Option.isSome_none, forall_eq_or_imp, forall_eq, reduceCtorEq, Nat.reduceAdd, Nat.reduceMul, List.zip_cons_cons, List.zip_nil_left, List.zip_nil_right, List.forall_mem_nil, cellsW_amds]
            first | done | simp
        · have h2 : decide ((t : Int) < 64) = false := by simp; omega
          obtain rfl : t = 64 := by omega
          rw [wCells_end]
          have hwl := wS_length (chunk p i) 64
          generalize wS (chunk p i) 64 = W at hss hwl ⊢
          have q0 := q0 st
          have ht8 : (cellsW st.l).take 8 = cellsW st.l := cellsW_take (S8.l_length st).symm
          simp only [runA, runB, runC, runD, runE, runF, fieldE, storeE, ↓reduceIte, Nat.reduceLT, Nat.reduceLeDiff, Nat.reduceEqDiff, Nat.reduceAdd, Nat.reduceMul, Nat.reduceSub, reduceCtorEq, Nat.reduceBEq, List.replicate, Int.reduceLT, Int.reduceLE, Int.reduceToNat, mkE, mapSetE, w_add, w_and, w_or, w_xor, w_xorF, w_not, w_shl8, w_shl16, w_shl24, w_shr3, w_shr8, w_shr10, w_shr16, w_shr24, b_add, b_sub, b_mul, b_quo, b_rem, b_and, b_or, b_xor, b_andNot, b_eql, b_neq, b_lss, b_leq, b_gtr, b_geq, b_str, b_bool, u_neg, u_not, c_bw, c_wb, cellsW_length, cellsW_pure, cellsW_all, cellsE_W, backCells_W, cellsAt_W, cellPairs_W, cellsW_toPCs, cellsW_map, hN, hF, ty_3, ty_5, ty_25, ty_46, ty_151, ty_175, ty_178, notIf, isEq, intOp, h2, q0, ht8, S8.l_length]
          -- the rounds
          refine AWP.loop (fun c s => ∃ t : Nat, t ≤ 64 ∧ c = 64 - t ∧ s = ⟨[(3, .ptr 192 0), (4, .ptr 256 0), (5, .c (.sl (bytes p))), (6, .c (.int .i64 ((64 * i : Nat) : Int))), (7, .ptr 448 0), (11, .ptr 704 0), (12, .c (.int .i64 (t : Int)))], [(192, .obj (cellsW kS) false), (256, .obj (cellsW st.l) false), (448, .obj (cellsW W) false), (704, .obj (cellsW (rounds st W t).l) false)]⟩) ⟨64, _, ?w2, 0, Nat.zero_le _, rfl, rfl⟩ ?r2
          case w2 =>
            rw [hns]
            simp only [runB, finC, finD, AS.get, AS.mem, false_implies, implies_true, ↓reduceIte, Nat.reduceEqDiff, Option.isSome_some, Option.isSome_none, forall_eq_or_imp, forall_eq, reduceCtorEq, Nat.reduceAdd, Nat.reduceMul, List.zip_cons_cons, List.zip_nil_left, List.zip_nil_right, List.forall_mem_nil, cellsW_amds, rounds]
            first | done | simp
          case r2 =>
            rintro c s ⟨t, ht, rfl, rfl⟩
            refine vc_sound hΓ mixed _ _ _ ?_
            by_cases htl : t < 64
            · have h2 : decide ((t : Int) < 64) = true := by simp; omega
              have e1 : IntKind.i64.wrap ((t : Int) + 1) = (t : Int) + 1 := wrapI (by omega)
              have l0 : (t : Int) < ((64 : Nat) : Int) := by omega
              have gk := getW kS_length htl
              have gw := getW hwl htl
              have r6 : ∀ x, turnC [.c (wC x), .c (.int .u64 6)] [] = _ := fun x => turn_at x 6 (by decide) (by decide)
              have r11 : ∀ x, turnC [.c (wC x), .c (.int .u64 11)] [] = _ := fun x => turn_at x 11 (by decide) (by decide)
              have r25 : ∀ x, turnC [.c (wC x), .c (.int .u64 25)] [] = _ := fun x => turn_at x 25 (by decide) (by decide)
              have r2 : ∀ x, turnC [.c (wC x), .c (.int .u64 2)] [] = _ := fun x => turn_at x 2 (by decide) (by decide)
              have r13 : ∀ x, turnC [.c (wC x), .c (.int .u64 13)] [] = _ := fun x => turn_at x 13 (by decide) (by decide)
              have r22 : ∀ x, turnC [.c (wC x), .c (.int .u64 22)] [] = _ := fun x => turn_at x 22 (by decide) (by decide)
              have hsucc : rounds st W (t + 1) = rnd (rounds st W t) (kS.getD t 0) (W.getD t 0) := rfl
              generalize rounds st W t = v at hsucc ⊢
              obtain ⟨a, b1, c1, d, e, f, g, h⟩ := v
              have c8 : ((0 : Int) < ((8 : Nat) : Int)) ∧ ((1 : Int) < ((8 : Nat) : Int)) ∧ ((2 : Int) < ((8 : Nat) : Int)) ∧ ((3 : Int) < ((8 : Nat) : Int)) ∧ ((4 : Int) < ((8 : Nat) : Int)) ∧ ((5 : Int) < ((8 : Nat) : Int)) ∧ ((6 : Int) < ((8 : Nat) : Int)) ∧ ((7 : Int) < ((8 : Nat) : Int)) := by decide
              obtain ⟨k0, k1, k2, k3, k4, k5, k6, k7⟩ := c8
              simp only [S8.l, cellsW_cons, cellsW_nil]
              simp only [runA, runB, runC, runD, runE, runF, fieldE, storeE, ↓reduceIte, Nat.reduceLT, Nat.reduceLeDiff, Nat.reduceEqDiff, Nat.reduceAdd, Nat.reduceMul, Nat.reduceSub, reduceCtorEq, putAt, Nat.reduceBEq, buildE, List.replicate, Int.reduceLT, Int.reduceLE, Int.reduceToNat, mkE, mapSetE, w_add, w_and, w_or, w_xor, w_xorF, w_not, w_shl8, w_shl16, w_shl24, w_shr3, w_shr8, w_shr10, w_shr16, w_shr24, b_add, b_sub, b_mul, b_quo, b_rem, b_and, b_or, b_xor, b_andNot, b_eql, b_neq, b_lss, b_leq, b_gtr, b_geq, b_str, b_bool, u_neg, u_not, c_bw, c_wb, cellsW_length, cellsW_pure, cellsW_all, cellsE_W, backCells_W, cellsAt_W, cellPairs_W, cellsW_toPCs, cellsW_map, hN, hF, ty_3, ty_5, ty_25, ty_46, ty_151, ty_175, ty_178, notIf, isEq, intOp, h2, e1, l0, gk, gw, k0, k1, k2, k3, k4, k5, k6, k7]
              refine drawnP_intro (by kernel_rfl) (by kernel_rfl) ?_
              simp only [runA, runB, runC, runD, runE, runF, fieldE, storeE, ↓reduceIte, Nat.reduceLT, Nat.reduceLeDiff, Nat.reduceEqDiff, Nat.reduceAdd, Nat.reduceMul, Nat.reduceSub, reduceCtorEq, putAt, Nat.reduceBEq, buildE, List.replicate, Int.reduceLT, Int.reduceLE, Int.reduceToNat, mkE, mapSetE, w_add, w_and, w_or, w_xor, w_xorF, w_not, w_shl8, w_shl16, w_shl24, w_shr3, w_shr8, w_shr10, w_shr16, w_shr24, b_add, b_sub, b_mul, b_quo, b_rem, b_and, b_or, b_xor, b_andNot, b_eql, b_neq, b_lss, b_leq, b_gtr, b_geq, b_str, b_bool, u_neg, u_not, c_bw, c_wb, cellsW_length, cellsW_pure, cellsW_all, cellsE_W, backCells_W, cellsAt_W, cellPairs_W, cellsW_toPCs, cellsW_map, hN, hF, ty_3, ty_5, ty_25, ty_46, ty_151, ty_175, ty_178, notIf, isEq, intOp, h78, r6, r11, r25, r2, r13, r22, e1, l0, gk, gw, k0, k1, k2, k3, k4, k5, k6, k7]
              refine drawnP_intro (by kernel_rfl) (by kernel_rfl) ?_
              simp only [runA, runB, runC, runD, runE, runF, fieldE, storeE, ↓reduceIte, Nat.reduceLT, Nat.reduceLeDiff, Nat.reduceEqDiff, Nat.reduceAdd, Nat.reduceMul, Nat.reduceSub, reduceCtorEq, putAt, Nat.reduceBEq, buildE, List.replicate, Int.reduceLT, Int.reduceLE, Int.reduceToNat, mkE, mapSetE, w_add, w_and, w_or, w_xor, w_xorF, w_not, w_shl8, w_shl16, w_shl24, w_shr3, w_shr8, w_shr10, w_shr16, w_shr24, b_add, b_sub, b_mul, b_quo, b_rem, b_and, b_or, b_xor, b_andNot, b_eql, b_neq, b_lss, b_leq, b_gtr, b_geq, b_str, b_bool, u_neg, u_not, c_bw, c_wb, cellsW_length, cellsW_pure, cellsW_all, cellsE_W, backCells_W, cellsAt_W, cellPairs_W, cellsW_toPCs, cellsW_map, hN, hF, ty_3, ty_5, ty_25, ty_46, ty_151, ty_175, ty_178, notIf, isEq, intOp, h78, r6, r11, r25, r2, r13, r22, e1, l0, gk, gw, k0, k1, k2, k3, k4, k5, k6, k7]
              refine drawnP_intro (by kernel_rfl) (by kernel_rfl) ?_
              simp only [runA, runB, runC, runD, runE, runF, fieldE, storeE, ↓reduceIte, Nat.reduceLT, Nat.reduceLeDiff, Nat.reduceEqDiff, Nat.reduceAdd, Nat.reduceMul, Nat.reduceSub, reduceCtorEq, Nat.reduceBEq, List.replicate, Int.reduceLT, Int.reduceLE, Int.reduceToNat, mkE, mapSetE, w_add, w_and, w_or, w_xor, w_xorF, w_not, w_shl8, w_shl16, w_shl24, w_shr3, w_shr8, w_shr10, w_shr16, w_shr24, b_add, b_sub, b_mul, b_quo, b_rem, b_and, b_or, b_xor, b_andNot, b_eql, b_neq, b_lss, b_leq, b_gtr, b_geq, b_str, b_bool, u_neg, u_not, c_bw, c_wb, cellsW_length, cellsW_pure, cellsW_all, cellsE_W, backCells_W, cellsAt_W, cellPairs_W, cellsW_toPCs, cellsW_map, hN, hF, ty_3, ty_5, ty_25, ty_46, ty_151, ty_175, ty_178, notIf, isEq, intOp, build8r, put8, e1, l0, gk, gw, k0, k1, k2, k3, k4, k5, k6, k7]
              refine ⟨64 - (t + 1), _, by omega, ?_, t + 1, by omega, rfl, rfl⟩
              rw [hns, hsucc]
              simp only [runB, finC, finD, AS.get, AS.mem, false_implies, implies_true, ↓reduceIte, Nat.reduceEqDiff, Option.isSome_some, Option.isSome_none, forall_eq_or_imp, forall_eq, reduceCtorEq, Nat.reduceAdd, Nat.reduceMul, List.zip_cons_cons, List.zip_nil_left, List.zip_nil_right, List.forall_mem_nil, cellsW_amds, S8.l, rnd, cellsW_cons, cellsW_nil]
              first | done | simp
            · have h2 : decide ((t : Int) < 64) = false := by simp; omega
              obtain rfl : t = 64 := by omega
              generalize rounds st W 64 = v at hss ⊢
              simp only [runA, runB, runC, runD, runE, runF, fieldE, storeE, ↓reduceIte, Nat.reduceLT, Nat.reduceLeDiff, Nat.reduceEqDiff, Nat.reduceAdd, Nat.reduceMul, Nat.reduceSub, reduceCtorEq, putAt, Nat.reduceBEq, buildE, List.replicate, Int.reduceLT, Int.reduceLE, Int.reduceToNat, mkE, mapSetE, w_add, w_and, w_or, w_xor, w_xorF, w_not, w_shl8, w_shl16, w_shl24, w_shr3, w_shr8, w_shr10, w_shr16, w_shr24, b_add, b_sub, b_mul, b_quo, b_rem, b_and, b_or, b_xor, b_andNot, b_eql, b_neq, b_lss, b_leq, b_gtr, b_geq, b_str, b_bool, u_neg, u_not, c_bw, c_wb, cellsW_length, cellsW_pure, cellsW_all, cellsE_W, backCells_W, cellsAt_W, cellPairs_W, cellsW_toPCs, cellsW_map, hN, hF, ty_3, ty_5, ty_25, ty_46, ty_151, ty_175, ty_178, notIf, isEq, intOp, h2]
              -- the sum of both
              refine AWP.loop (fun c s => ∃ t : Nat, t ≤ 8 ∧ c = 8 - t ∧ s = ⟨[(3, .ptr 192 0), (4, .ptr 256 0), (5, .c (.sl (bytes p))), (6, .c (.int .i64 ((64 * i : Nat) : Int))), (11, .ptr 704 0), (17, .c (.int .i64 (t : Int)))], [(192, .obj (cellsW kS) false), (256, .obj (cellsW (sumTo st.l v.l t)) false), (704, .obj (cellsW v.l) false)]⟩) ⟨8, _, ?w3, 0, Nat.zero_le _, rfl, rfl⟩ ?r3
              case w3 =>
                rw [hns]
                simp only [runB, finC, finD, AS.get, AS.mem, false_implies, implies_true, ↓reduceIte, Nat.reduceEqDiff, Option.isSome_some, Option.isSome_none, forall_eq_or_imp, forall_eq, reduceCtorEq, Nat.reduceAdd, Nat.reduceMul, List.zip_cons_cons, List.zip_nil_left, List.zip_nil_right, List.forall_mem_nil, cellsW_amds, sumTo, List.take_zero, List.drop_zero, List.nil_append]
                first | done | simp
              case r3 =>
                rintro c s ⟨t, ht, rfl, rfl⟩
                refine vc_sound hΓ mixed _ _ _ ?_
                have hcl := sumTo_length (S8.l_length st) (S8.l_length v) t ht
                by_cases htl : t < 8
                · have h2 : decide ((t : Int) < 8) = true := by simp; omega
                  have e1 : IntKind.i64.wrap ((t : Int) + 1) = (t : Int) + 1 := wrapI (by omega)
                  have l0 : (t : Int) < ((8 : Nat) : Int) := by omega
                  have g1 := cellsW_get (sumTo_get (S8.l_length st) (S8.l_length v) htl)
                  have g2 := getW (S8.l_length v) htl
                  have hp1 := cellsW_put (l := sumTo st.l v.l t) (i := t) (st.l.getD t 0 + v.l.getD t 0) (by omega)
                  have hq := sumTo_set (S8.l_length st) (S8.l_length v) htl
                  have e4 : t + 1 ≤ 8 := by omega
                  simp only [runA, runB, runC, runD, runE, runF, fieldE, storeE, ↓reduceIte, Nat.reduceLT, Nat.reduceLeDiff, Nat.reduceEqDiff, Nat.reduceAdd, Nat.reduceMul, Nat.reduceSub, reduceCtorEq, Nat.reduceBEq, buildE, List.replicate, Int.reduceLT, Int.reduceLE, Int.reduceToNat, mkE, mapSetE, w_add, w_and, w_or, w_xor, w_xorF, w_not, w_shl8, w_shl16, w_shl24, w_shr3, w_shr8, w_shr10, w_shr16, w_shr24, b_add, b_sub, b_mul, b_quo, b_rem, b_and, b_or, b_xor, b_andNot, b_eql, b_neq, b_lss, b_leq, b_gtr, b_geq, b_str, b_bool, u_neg, u_not, c_bw, c_wb, cellsW_length, cellsW_pure, cellsW_all, cellsE_W, backCells_W, cellsAt_W, cellPairs_W, cellsW_toPCs, cellsW_map, hN, hF, ty_3, ty_5, ty_25, ty_46, ty_151, ty_175, ty_178, notIf, isEq, intOp, h2, e1, l0, g1, g2, hp1, hq, hcl, e4]
                  refine drawnP_intro (by kernel_rfl) (by kernel_rfl) ?_
                  simp only [runA, runB, runC, runD, runE, runF, fieldE, storeE, ↓reduceIte, Nat.reduceLT, Nat.reduceLeDiff, Nat.reduceEqDiff, Nat.reduceAdd, Nat.reduceMul, Nat.reduceSub, reduceCtorEq, Nat.reduceBEq, buildE, List.replicate, Int.reduceLT, Int.reduceLE, Int.reduceToNat, mkE, mapSetE, w_add, w_and, w_or, w_xor, w_xorF, w_not, w_shl8, w_shl16, w_shl24, w_shr3, w_shr8, w_shr10, w_shr16, w_shr24, b_add, b_sub, b_mul, b_quo, b_rem, b_and, b_or, b_xor, b_andNot, b_eql, b_neq, b_lss, b_leq, b_gtr, b_geq, b_str, b_bool, u_neg, u_not, c_bw, c_wb, cellsW_length, cellsW_pure, cellsW_all, cellsE_W, backCells_W, cellsAt_W, cellPairs_W, cellsW_toPCs, cellsW_map, hN, hF, ty_3, ty_5, ty_25, ty_46, ty_151, ty_175, ty_178, notIf, isEq, intOp, e1]
                  refine ⟨8 - (t + 1), _, by omega, ?_, t + 1, by omega, rfl, rfl⟩
                  rw [hns]
                  simp only [runB, finC, finD, AS.get, AS.mem, false_implies, implies_true, ↓reduceIte, Nat.reduceEqDiff, Option.isSome_some, Option.isSome_none, forall_eq_or_imp, forall_eq, reduceCtorEq, Nat.reduceAdd, Nat.reduceMul, List.zip_cons_cons, List.zip_nil_left, List.zip_nil_right, List.forall_mem_nil, cellsW_amds]
                  first | done | simp
                · have h2 : decide ((t : Int) < 8) = false := by simp; omega
                  have hL : sumTo st.l v.l t = st'.l := by
                    obtain rfl : t = 8 := by omega
                    rw [hss]
                    exact sumTo_end st v
                  simp only [runA, runB, runC, runD, runE, runF, fieldE, storeE, ↓reduceIte, Nat.reduceLT, Nat.reduceLeDiff, Nat.reduceEqDiff, Nat.reduceAdd, Nat.reduceMul, Nat.reduceSub, reduceCtorEq, putAt, Nat.reduceBEq, buildE, List.replicate, Int.reduceLT, Int.reduceLE, Int.reduceToNat, mkE, mapSetE, w_add, w_and, w_or, w_xor, w_xorF, w_not, w_shl8, w_shl16, w_shl24, w_shr3, w_shr8, w_shr10, w_shr16, w_shr24, b_add, b_sub, b_mul, b_quo, b_rem, b_and, b_or, b_xor, b_andNot, b_eql, b_neq, b_lss, b_leq, b_gtr, b_geq, b_str, b_bool, u_neg, u_not, c_bw, c_wb, cellsW_length, cellsW_pure, cellsW_all, cellsE_W, backCells_W, cellsAt_W, cellPairs_W, cellsW_toPCs, cellsW_map, hN, hF, ty_3, ty_5, ty_25, ty_46, ty_151, ty_175, ty_178, notIf, isEq, intOp, h2, e64, hL]
                  refine ⟨n - (i + 1), _, by omega, ?_, i + 1, by omega, rfl, rfl⟩
                  rw [hns, hst']
                  simp only [runB, finC, finD, AS.get, AS.mem, false_implies, implies_true, ↓reduceIte, Nat.reduceEqDiff, Option.isSome_some, Option.isSome_none, forall_eq_or_imp, forall_eq, reduceCtorEq, Nat.reduceAdd, Nat.reduceMul, List.zip_cons_cons, List.zip_nil_left, List.zip_nil_right, List.forall_mem_nil, cellsW_amds]
                  first | done | simp
    · have h1 : decide (((64 * i : Nat) : Int) < ((64 * n : Nat) : Int)) = false := by simp; omega
      obtain rfl : i = n := by omega
      simp only [runA, runB, runC, runD, runE, runF, fieldE, storeE, ↓reduceIte, Nat.reduceLT, Nat.reduceLeDiff, Nat.reduceEqDiff, Nat.reduceAdd, Nat.reduceMul, Nat.reduceSub, reduceCtorEq, putAt, Nat.reduceBEq, buildE, List.replicate, Int.reduceLT, Int.reduceLE, Int.reduceToNat, mkE, mapSetE, w_add, w_and, w_or, w_xor, w_xorF, w_not, w_shl8, w_shl16, w_shl24, w_shr3, w_shr8, w_shr10, w_shr16, w_shr24, b_add, b_sub, b_mul, b_quo, b_rem, b_and, b_or, b_xor, b_andNot, b_eql, b_neq, b_lss, b_leq, b_gtr, b_geq, b_str, b_bool, u_neg, u_not, c_bw, c_wb, cellsW_length, cellsW_pure, cellsW_all, cellsE_W, backCells_W, cellsAt_W, cellPairs_W, cellsW_toPCs, cellsW_map, hN, hF, ty_3, ty_5, ty_25, ty_46, ty_151, ty_175, ty_178, notIf, isEq, intOp, h1, hn, bytes_length]
      generalize stS p i = st at hsha ⊢
      refine AWP.loop (fun c s => ∃ t : Nat, t ≤ 8 ∧ c = 8 - t ∧ s = ⟨[(4, .ptr 256 0), (18, .own 15169 1 (bytes (octsOf (st.l.take t)))), (19, .c (.int .i64 (t : Int)))], [(256, .obj (cellsW st.l) false), (15169, .row 1 (octsOf (st.l.take t)).length)]⟩) ⟨8, _, ?w4, 0, Nat.zero_le _, rfl, rfl⟩ ?r4
      case w4 =>
        rw [hns]
        simp only [runB, finC, finD, AS.get, AS.mem, false_implies, implies_true, ↓reduceIte, Nat.reduceEqDiff, Option.isSome_some, Option.isSome_none, forall_eq_or_imp, forall_eq, reduceCtorEq, Nat.reduceAdd, Nat.reduceMul, List.zip_cons_cons, List.zip_nil_left, List.zip_nil_right, List.forall_mem_nil, cellsW_amds]
        simp [octsOf, bytes]
      case r4 =>
        rintro c s ⟨t, ht, rfl, rfl⟩
        refine vc_sound hΓ mixed _ _ _ ?_
        by_cases htl : t < 8
        · have h2 : decide ((t : Int) < 8) = true := by simp; omega
          have e1 : IntKind.i64.wrap ((t : Int) + 1) = (t : Int) + 1 := wrapI (by omega)
          have l0 : (t : Int) < ((8 : Nat) : Int) := by omega
          have g1 := getW (S8.l_length st) htl
          have hx : st.l[t]? = some (st.l.getD t 0) := by
            rw [List.getD_eq_getElem?_getD]
            have hh : t < st.l.length := by rw [S8.l_length]; exact htl
            simp [hh]
          have hs := octsOf_succ hx
          have hlen : (octsOf (st.l.take t)).length + 4 ≤ 140737488355328 := by rw [octsOf_length, List.length_take]; omega
          have hz := rowsOK_bytes
          have h4 : ∀ x, (octs x).length = 4 := fun _ => rfl
          generalize st.l.getD t 0 = x at g1 hs
          simp only [runA, runB, runC, runD, runE, runF, fieldE, storeE, ↓reduceIte, Nat.reduceLT, Nat.reduceLeDiff, Nat.reduceEqDiff, Nat.reduceAdd, Nat.reduceMul, Nat.reduceSub, reduceCtorEq, putAt, Nat.reduceBEq, buildE, List.replicate, Int.reduceLT, Int.reduceLE, Int.reduceToNat, mkE, mapSetE, w_add, w_and, w_or, w_xor, w_xorF, w_not, w_shl8, w_shl16, w_shl24, w_shr3, w_shr8, w_shr10, w_shr16, w_shr24, b_add, b_sub, b_mul, b_quo, b_rem, b_and, b_or, b_xor, b_andNot, b_eql, b_neq, b_lss, b_leq, b_gtr, b_geq, b_str, b_bool, u_neg, u_not, c_bw, c_wb, cellsW_length, cellsW_pure, cellsW_all, cellsE_W, backCells_W, cellsAt_W, cellPairs_W, cellsW_toPCs, cellsW_map, hN, hF, ty_3, ty_5, ty_25, ty_46, ty_151, ty_175, ty_178, notIf, isEq, intOp, h2, e1, l0, g1, octs_rows, hz, hlen, h4, bytes_length, bytes_app, ← hs]
          refine drawnP_intro (by kernel_rfl) (by kernel_rfl) ?_
          simp only [runA, runB, runC, runD, runE, runF, fieldE, storeE, ↓reduceIte, Nat.reduceLT, Nat.reduceLeDiff, Nat.reduceEqDiff, Nat.reduceAdd, Nat.reduceMul, Nat.reduceSub, reduceCtorEq, putAt, Nat.reduceBEq, buildE, List.replicate, Int.reduceLT, Int.reduceLE, Int.reduceToNat, mkE, mapSetE, w_add, w_and, w_or, w_xor, w_xorF, w_not, w_shl8, w_shl16, w_shl24, w_shr3, w_shr8, w_shr10, w_shr16, w_shr24, b_add, b_sub, b_mul, b_quo, b_rem, b_and, b_or, b_xor, b_andNot, b_eql, b_neq, b_lss, b_leq, b_gtr, b_geq, b_str, b_bool, u_neg, u_not, c_bw, c_wb, cellsW_length, cellsW_pure, cellsW_all, cellsE_W, backCells_W, cellsAt_W, cellPairs_W, cellsW_toPCs, cellsW_map, hN, hF, ty_3, ty_5, ty_25, ty_46, ty_151, ty_175, ty_178, notIf, isEq, intOp, e1]
          refine ⟨8 - (t + 1), _, by omega, ?_, t + 1, by omega, rfl, rfl⟩
          rw [hns]
          simp only [runB, finC, finD, AS.get, AS.mem, false_implies, implies_true, ↓reduceIte, Nat.reduceEqDiff, Option.isSome_some, Option.isSome_none, forall_eq_or_imp, forall_eq, reduceCtorEq, Nat.reduceAdd, Nat.reduceMul, List.zip_cons_cons, List.zip_nil_left, List.zip_nil_right, List.forall_mem_nil, cellsW_amds]
          first | done | (rw [hs]; simp [octs])
        · have h2 : decide ((t : Int) < 8) = false := by simp; omega
          have hL : octsOf (st.l.take t) = shaS b := by
            obtain rfl : t = 8 := by omega
            rw [hsha, List.take_of_length_le (by rw [S8.l_length]; exact Nat.le_refl _)]
          simp only [runA, runB, runC, runD, runE, runF, fieldE, storeE, ↓reduceIte, Nat.reduceLT, Nat.reduceLeDiff, Nat.reduceEqDiff, Nat.reduceAdd, Nat.reduceMul, Nat.reduceSub, reduceCtorEq, putAt, Nat.reduceBEq, buildE, List.replicate, Int.reduceLT, Int.reduceLE, Int.reduceToNat, mkE, mapSetE, w_add, w_and, w_or, w_xor, w_xorF, w_not, w_shl8, w_shl16, w_shl24, w_shr3, w_shr8, w_shr10, w_shr16, w_shr24, b_add, b_sub, b_mul, b_quo, b_rem, b_and, b_or, b_xor, b_andNot, b_eql, b_neq, b_lss, b_leq, b_gtr, b_geq, b_str, b_bool, u_neg, u_not, c_bw, c_wb, cellsW_length, cellsW_pure, cellsW_all, cellsE_W, backCells_W, cellsAt_W, cellPairs_W, cellsW_toPCs, cellsW_map, hN, hF, ty_3, ty_5, ty_25, ty_46, ty_151, ty_175, ty_178, notIf, isEq, intOp, h2, hL]
          simp only [runB, finC, finD, Option.isSome_some, Option.isSome_none, ↓reduceIte, Nat.reduceEqDiff, Nat.reduceAdd, Nat.reduceMul, forall_eq_or_imp, forall_eq, implies_true, Nat.reduceBEq, reduceCtorEq, false_implies, List.zip_cons_cons, List.zip_nil_left, List.zip_nil_right, Nat.reduceLeDiff, List.forall_mem_nil, rs_136, bytes_length]

noncomputable def short1C : Contract := mkC (α := List UInt8) (fun b => b.length ≤ 1099511627776) (fun b => [.c (.sl (bytes b))]) (fun _ => []) (fun b => ⟨[.pv (.c (.str (shortS b)))], []⟩)
theorem short1_at (b : List UInt8) (h : b.length ≤ 1099511627776) : short1C [.c (.sl (bytes b))] [] = some ⟨[.pv (.c (.str (shortS b)))], []⟩ :=
  mkC_at (α := List UInt8) b h (by
    rintro y _ h _
    simp at h
    rw [bytes_inj h])

set_option maxHeartbeats 1000000 in
theorem refShort_sound (hΓ : SoundG Try.prog Γ) (h70 : Γ 136 = sumC) : SoundC Try.prog 111 short1C := by
  refine sound_fn Try.func111 (by kernel_rfl) rfl rfl ?_
  intro args objs r hr
  obtain ⟨b, hl, rfl, rfl, rfl⟩ := mkC_inv hr
  refine ⟨rfl, by show 1 ≤ _; decide, fun E hN hns hF => ?_⟩
  refine vc_sound hΓ mixed _ _ _ ?_
  have hN := hN.trans nt_111
  have h1 := sum_at b hl
  have hlen := shaS_length b
  have z0 : ((0 : Nat) : Int) ≤ 8 := by decide
  have z8 : (8 : Int) ≤ ((32 : Nat) : Int) := by decide
  simp only [runA, runB, runC, runD, runE, runF, fieldE, storeE, binE, ↓reduceIte, Nat.reduceLT, Nat.reduceLeDiff, Nat.reduceEqDiff, Nat.reduceAdd, Nat.reduceMul, Nat.reduceSub, reduceCtorEq, putAt, unE, Nat.reduceBEq, convE, buildE, List.replicate, Int.reduceLT, Int.reduceLE, Int.reduceToNat, mkE, mapSetE, hN, hF, ty_5, ty_9, ty_25, notIf, isEq, h70, h1, bytes_length, bytesOf_bytes, sliceE, boundE, hlen, z0, z8, Int.le_refl, List.drop_zero]
  simp only [runB, finC, finD, Option.isSome_some, Option.isSome_none, ↓reduceIte, Nat.reduceEqDiff, Nat.reduceAdd, Nat.reduceMul, forall_eq_or_imp, forall_eq, implies_true, Nat.reduceBEq, reduceCtorEq, false_implies, List.zip_cons_cons, List.zip_nil_left, List.zip_nil_right, Nat.reduceLeDiff, List.forall_mem_nil, rs_111, shortS]


/-- Texts, as cells. -/
def texts (l : List (List UInt8)) : List (List PC) := l.map fun s => [PC.str s]
theorem texts_length (l : List (List UInt8)) : (texts l).length = l.length := by simp [texts]
theorem texts_inj {a b : List (List UInt8)} (h : texts a = texts b) : a = b := by
  unfold texts at h
  refine (List.map_inj_right (fun x y h => ?_)).1 h
  simpa using h
theorem texts_app (a b : List (List UInt8)) : texts a ++ texts b = texts (a ++ b) := by simp [texts]
theorem rowsOK_texts (l : List (List UInt8)) : rowsOK 1 (texts l) := by
  intro r hr
  simp only [texts, List.mem_map] at hr
  obtain ⟨b, _, rfl⟩ := hr
  rfl
theorem texts1 (s : List UInt8) : [[PC.str s]] = texts [s] := rfl


variable {Γ : FuncId → Contract}

def wotsB : List UInt8 := [119, 111, 116, 115]
def secB (seed : List UInt8) (leaf place : Int) : List UInt8 := [wotsB, putB (seed.length : Int) 2, seed, putB leaf 4, putB place 1].flatten
def secS (seed : List UInt8) (leaf place : Int) : List UInt8 := shortS (secB seed leaf place)
theorem secB_eq (seed : List UInt8) (leaf place : Int) : secB seed leaf place = (((wotsB ++ putB (seed.length : Int) 2) ++ seed) ++ putB leaf 4) ++ putB place 1 := by simp [secB]
theorem putB2 (n : Int) : (putB n 2).length = 2 := by rw [putB_length]; rfl
theorem putB4 (n : Int) : (putB n 4).length = 4 := by rw [putB_length]; rfl
theorem putB1 (n : Int) : (putB n 1).length = 1 := by rw [putB_length]; rfl
theorem secB_length (seed : List UInt8) (leaf place : Int) : (secB seed leaf place).length = seed.length + 11 := by
  rw [secB_eq]
  simp only [List.length_append, putB2, putB4, putB1, wotsB, List.length_cons, List.length_nil]
  omega

structure Sd where
  seed : List UInt8
  leaf : Int
  place : Int
noncomputable def secC : Contract := mkC (α := Sd) (fun p => p.seed.length ≤ 1000000) (fun p => [.c (.str p.seed), .c (.int .i64 p.leaf), .c (.int .i64 p.place)]) (fun _ => []) (fun p => ⟨[.pv (.c (.str (secS p.seed p.leaf p.place)))], []⟩)
theorem sec_at (seed : List UInt8) (leaf place : Int) (h : seed.length ≤ 1000000) : secC [.c (.str seed), .c (.int .i64 leaf), .c (.int .i64 place)] [] = some ⟨[.pv (.c (.str (secS seed leaf place)))], []⟩ :=
  mkC_at (α := Sd) ⟨seed, leaf, place⟩ h (by
    rintro ⟨a, b, c⟩ _ h _
    simp only [List.cons.injEq, AV.c.injEq, PC.int.injEq, PC.str.injEq, true_and, and_true] at h
    obtain ⟨rfl, rfl, rfl⟩ := h
    rfl)

theorem slices5 (a c d e : List UInt8) : [[PC.sl [[PC.int .u8 119], [PC.int .u8 111], [PC.int .u8 116], [PC.int .u8 115]]], [PC.sl (bytes a)], [PC.sl (bytes c)], [PC.sl (bytes d)], [PC.sl (bytes e)]] = slices [wotsB, a, c, d, e] := rfl

set_option maxRecDepth 100000 in
set_option maxHeartbeats 1000000 in
theorem sec_sound (hΓ : SoundG Try.prog Γ) (h1 : Γ 57 = putC) (h2 : Γ 113 = shortC) : SoundC Try.prog 104 secC := by
  refine sound_fn Try.func104 (by kernel_rfl) rfl rfl ?_
  intro args objs r hr
  obtain ⟨⟨seed, leaf, place⟩, hl, rfl, rfl, rfl⟩ := mkC_inv hr
  refine ⟨rfl, by show 3 ≤ _; decide, fun E hN hns hF => ?_⟩
  refine vc_sound hΓ mixed _ _ _ ?_
  have hN := hN.trans nt_104
  dsimp only at hl ⊢
  have hlen := secB_length seed leaf place
  have hs := short_at [wotsB, putB (seed.length : Int) 2, seed, putB leaf 4, putB place 1] ⟨by show (secB seed leaf place).length ≤ _; omega, by simp⟩
  have he : shortS ([wotsB, putB (seed.length : Int) 2, seed, putB leaf 4, putB place 1].flatten) = secS seed leaf place := rfl
  rw [he] at hs
  simp only [runA, runB, runC, runD, runE, runF, fieldE, storeE, binE, ↓reduceIte, Nat.reduceLT, Nat.reduceLeDiff, Nat.reduceEqDiff, Nat.reduceAdd, Nat.reduceMul, Nat.reduceSub, reduceCtorEq, putAt, unE, Nat.reduceBEq, convE, buildE, List.replicate, Int.reduceLT, Int.reduceLE, Int.reduceToNat, mkE, mapSetE, hN, hF, ty_3, ty_5, ty_9, ty_25, ty_43, notIf, isEq, h1, putC, h2, slices5, hs, bytes_length]
  try refine drawnP_intro (by kernel_rfl) (by kernel_rfl) ?_
  try simp only [thenA_normal, vc_ret]
  simp only [runB, finC, finD, Option.isSome_some, Option.isSome_none, ↓reduceIte, Nat.reduceEqDiff, Nat.reduceAdd, Nat.reduceMul, forall_eq_or_imp, forall_eq, implies_true, Nat.reduceBEq, reduceCtorEq, false_implies, List.zip_cons_cons, List.zip_nil_left, List.zip_nil_right, Nat.reduceLeDiff, List.forall_mem_nil, rs_104]

set_option maxRecDepth 100000 in
set_option maxHeartbeats 1000000 in
theorem refSec_sound (hΓ : SoundG Try.prog Γ) (h1 : Γ 61 = putC) (h2 : Γ 111 = short1C) : SoundC Try.prog 107 secC := by
  refine sound_fn Try.func107 (by kernel_rfl) rfl rfl ?_
  intro args objs r hr
  obtain ⟨⟨seed, leaf, place⟩, hl, rfl, rfl, rfl⟩ := mkC_inv hr
  refine ⟨rfl, by show 3 ≤ _; decide, fun E hN hns hF => ?_⟩
  refine vc_sound hΓ mixed _ _ _ ?_
  have hN := hN.trans nt_107
  dsimp only at hl ⊢
  have hlen := secB_length seed leaf place
  have heq := secB_eq seed leaf place
  have hs := short1_at (secB seed leaf place) (by omega)
  have hz := rowsOK_bytes
  have hw : ([119, 111, 116, 115] : List UInt8) = wotsB := rfl
  have hwl : wotsB.length = 4 := rfl
  have l1 : 4 + 2 + seed.length ≤ 140737488355328 := by omega
  have l2 : 4 + 2 + seed.length + 4 ≤ 140737488355328 := by omega
  have l3 : 4 + 2 + seed.length + 4 + 1 ≤ 140737488355328 := by omega
  rw [heq] at hs
  have he : shortS ((((wotsB ++ putB (seed.length : Int) 2) ++ seed) ++ putB leaf 4) ++ putB place 1) = secS seed leaf place := by rw [← heq]; rfl
  rw [he] at hs
  simp only [runA, runB, runC, runD, runE, runF, fieldE, storeE, binE, ↓reduceIte, Nat.reduceLT, Nat.reduceLeDiff, Nat.reduceEqDiff, Nat.reduceAdd, Nat.reduceMul, Nat.reduceSub, reduceCtorEq, putAt, unE, Nat.reduceBEq, convE, buildE, List.replicate, Int.reduceLT, Int.reduceLE, Int.reduceToNat, mkE, mapSetE, hN, hF, ty_3, ty_5, ty_9, ty_25, notIf, isEq, h1, putC, h2, hw, hwl, hz, putB2, putB4, putB1, l1, l2, l3, hs, bytes_length, bytes_app]
  try refine drawnP_intro (by kernel_rfl) (by kernel_rfl) ?_
  try simp only [thenA_normal, vc_ret]
  simp only [runB, finC, finD, Option.isSome_some, Option.isSome_none, ↓reduceIte, Nat.reduceEqDiff, Nat.reduceAdd, Nat.reduceMul, forall_eq_or_imp, forall_eq, implies_true, Nat.reduceBEq, reduceCtorEq, false_implies, List.zip_cons_cons, List.zip_nil_left, List.zip_nil_right, Nat.reduceLeDiff, List.forall_mem_nil, rs_107]

/-- So many steps on. -/
def chainS (s : List UInt8) : Nat → List UInt8
  | 0 => s
  | n + 1 => shortS (chainS s n)
theorem chainS_length (s : List UInt8) (n : Nat) (h : s.length ≤ 1000000) : (chainS s n).length ≤ 1000000 := by
  cases n with
  | zero => exact h
  | succ n => show (shortS _).length ≤ _; rw [shortS_length]; decide
noncomputable def chainC : Contract := mkC (α := List UInt8 × Nat) (fun p => p.1.length ≤ 1000000 ∧ p.2 ≤ 3) (fun p => [.c (.str p.1), .c (.int .i64 (p.2 : Int))]) (fun _ => []) (fun p => ⟨[.pv (.c (.str (chainS p.1 p.2)))], []⟩)
theorem chain_at (s : List UInt8) (n : Nat) (h : s.length ≤ 1000000) (h3 : n ≤ 3) : chainC [.c (.str s), .c (.int .i64 (n : Int))] [] = some ⟨[.pv (.c (.str (chainS s n)))], []⟩ :=
  mkC_at (α := List UInt8 × Nat) (s, n) ⟨h, h3⟩ (by
    rintro ⟨a, b⟩ _ h _
    simp only [List.cons.injEq, AV.c.injEq, PC.int.injEq, PC.str.injEq, true_and, and_true] at h
    obtain ⟨rfl, e⟩ := h
    obtain rfl : b = n := by omega
    rfl)

set_option maxRecDepth 100000 in
set_option maxHeartbeats 1000000 in
theorem chain_sound (hΓ : SoundG Try.prog Γ) (h2 : Γ 113 = shortC) : SoundC Try.prog 103 chainC := by
  refine sound_fn Try.func103 (by kernel_rfl) rfl rfl ?_
  intro args objs r hr
  obtain ⟨⟨s, n⟩, ⟨hl, hn⟩, rfl, rfl, rfl⟩ := mkC_inv hr
  refine ⟨rfl, by show 2 ≤ _; decide, fun E hN hns hF => ?_⟩
  refine vc_sound hΓ mixed _ _ _ ?_
  have hN := hN.trans nt_103
  dsimp only at hl hn ⊢
  have g1 : ¬ ((0 : Int) > (n : Int)) := by omega
  have g2 : ¬ ((3 : Int) < (n : Int)) := by omega
  simp only [runA, runB, runC, runD, runE, runF, fieldE, storeE, binE, ↓reduceIte, Nat.reduceLT, Nat.reduceLeDiff, Nat.reduceEqDiff, Nat.reduceAdd, Nat.reduceMul, Nat.reduceSub, reduceCtorEq, putAt, unE, Nat.reduceBEq, convE, buildE, List.replicate, Int.reduceLT, Int.reduceLE, Int.reduceToNat, mkE, mapSetE, hN, hF, ty_3, ty_5, ty_9, ty_25, ty_43, notIf, isEq, g1, g2]
  refine AWP.loop (fun c st => ∃ i : Nat, i ≤ n ∧ c = n - i ∧ st = ⟨[(0, .c (.str (chainS s i))), (7, .c (.int .i64 (n : Int))), (8, .c (.int .i64 (i : Int)))], []⟩) ⟨n, _, ?w, 0, Nat.zero_le _, rfl, rfl⟩ ?r
  case w =>
    rw [hns]
    simp only [runB, finC, finD, AS.get, AS.mem, false_implies, implies_true, ↓reduceIte, Nat.reduceEqDiff, Option.isSome_some, Option.isSome_none, forall_eq_or_imp, forall_eq, reduceCtorEq, Nat.reduceAdd, Nat.reduceMul, List.zip_cons_cons, List.zip_nil_left, List.zip_nil_right, List.forall_mem_nil, chainS]
    first | done | simp
  case r =>
    rintro c st ⟨i, hi, rfl, rfl⟩
    refine vc_sound hΓ mixed _ _ _ ?_
    by_cases hlt : i < n
    · have h1 : decide ((i : Int) < (n : Int)) = true := by simpa using hlt
      have e1 : IntKind.i64.wrap ((i : Int) + 1) = (i : Int) + 1 := wrapI (by omega)
      have hcl := chainS_length s i hl
      have hs := short_at [chainS s i] ⟨by simp; omega, by simp⟩
      have he : shortS ([chainS s i].flatten) = chainS s (i + 1) := by simp [chainS]
      rw [he] at hs
      have h1s : [[PC.sl (bytes (chainS s i))]] = slices [chainS s i] := rfl
      simp only [runA, runB, runC, runD, runE, runF, fieldE, storeE, binE, ↓reduceIte, Nat.reduceLT, Nat.reduceLeDiff, Nat.reduceEqDiff, Nat.reduceAdd, Nat.reduceMul, Nat.reduceSub, reduceCtorEq, putAt, unE, Nat.reduceBEq, convE, buildE, List.replicate, Int.reduceLT, Int.reduceLE, Int.reduceToNat, mkE, mapSetE, hN, hF, ty_3, ty_5, ty_9, ty_25, ty_43, notIf, isEq, h1, e1, h2, h1s, hs]
      refine ⟨n - (i + 1), _, by omega, ?_, i + 1, by omega, rfl, rfl⟩
      rw [hns]
      simp only [runB, finC, finD, AS.get, AS.mem, false_implies, implies_true, ↓reduceIte, Nat.reduceEqDiff, Option.isSome_some, Option.isSome_none, forall_eq_or_imp, forall_eq, reduceCtorEq, Nat.reduceAdd, Nat.reduceMul, List.zip_cons_cons, List.zip_nil_left, List.zip_nil_right, List.forall_mem_nil]
      first | done | simp
    · have h1 : decide ((i : Int) < (n : Int)) = false := by simpa using hlt
      obtain rfl : i = n := by omega
      simp only [runA, runB, runC, runD, runE, runF, fieldE, storeE, binE, ↓reduceIte, Nat.reduceLT, Nat.reduceLeDiff, Nat.reduceEqDiff, Nat.reduceAdd, Nat.reduceMul, Nat.reduceSub, reduceCtorEq, putAt, unE, Nat.reduceBEq, convE, buildE, List.replicate, Int.reduceLT, Int.reduceLE, Int.reduceToNat, mkE, mapSetE, hN, hF, ty_3, ty_5, ty_9, ty_25, ty_43, notIf, isEq, h1]
      simp only [runB, finC, finD, Option.isSome_some, Option.isSome_none, ↓reduceIte, Nat.reduceEqDiff, Nat.reduceAdd, Nat.reduceMul, forall_eq_or_imp, forall_eq, implies_true, Nat.reduceBEq, reduceCtorEq, false_implies, List.zip_cons_cons, List.zip_nil_left, List.zip_nil_right, Nat.reduceLeDiff, List.forall_mem_nil, rs_103]

set_option maxRecDepth 100000 in
set_option maxHeartbeats 1000000 in
theorem refChain_sound (hΓ : SoundG Try.prog Γ) (h2 : Γ 111 = short1C) : SoundC Try.prog 106 chainC := by
  refine sound_fn Try.func106 (by kernel_rfl) rfl rfl ?_
  intro args objs r hr
  obtain ⟨⟨s, n⟩, ⟨hl, hn⟩, rfl, rfl, rfl⟩ := mkC_inv hr
  refine ⟨rfl, by show 2 ≤ _; decide, fun E hN hns hF => ?_⟩
  refine vc_sound hΓ mixed _ _ _ ?_
  have hN := hN.trans nt_106
  dsimp only at hl hn ⊢
  simp only [runA, runB, runC, runD, runE, runF, fieldE, storeE, binE, ↓reduceIte, Nat.reduceLT, Nat.reduceLeDiff, Nat.reduceEqDiff, Nat.reduceAdd, Nat.reduceMul, Nat.reduceSub, reduceCtorEq, putAt, unE, Nat.reduceBEq, convE, buildE, List.replicate, Int.reduceLT, Int.reduceLE, Int.reduceToNat, mkE, mapSetE, hN, hF, ty_3, ty_5, ty_9, ty_25, notIf, isEq]
  refine AWP.loop (fun c st => ∃ i : Nat, i ≤ n ∧ c = n - i ∧ st = ⟨[(0, .c (.str (chainS s i))), (1, .c (.int .i64 (n : Int))), (5, .c (.int .i64 (i : Int)))], []⟩) ⟨n, _, ?w, 0, Nat.zero_le _, rfl, rfl⟩ ?r
  case w =>
    rw [hns]
    simp only [runB, finC, finD, AS.get, AS.mem, false_implies, implies_true, ↓reduceIte, Nat.reduceEqDiff, Option.isSome_some, Option.isSome_none, forall_eq_or_imp, forall_eq, reduceCtorEq, Nat.reduceAdd, Nat.reduceMul, List.zip_cons_cons, List.zip_nil_left, List.zip_nil_right, List.forall_mem_nil, chainS]
    first | done | simp
  case r =>
    rintro c st ⟨i, hi, rfl, rfl⟩
    refine vc_sound hΓ mixed _ _ _ ?_
    by_cases hlt : i < n
    · have h1 : decide ((i : Int) < (n : Int)) = true := by simpa using hlt
      have h3 : decide ((i : Int) < 3) = true := by simp; omega
      have e1 : IntKind.i64.wrap ((i : Int) + 1) = (i : Int) + 1 := wrapI (by omega)
      have hcl := chainS_length s i hl
      have hs := short1_at (chainS s i) (by omega)
      have he : shortS (chainS s i) = chainS s (i + 1) := rfl
      rw [he] at hs
      simp only [runA, runB, runC, runD, runE, runF, fieldE, storeE, binE, ↓reduceIte, Nat.reduceLT, Nat.reduceLeDiff, Nat.reduceEqDiff, Nat.reduceAdd, Nat.reduceMul, Nat.reduceSub, reduceCtorEq, putAt, unE, Nat.reduceBEq, convE, buildE, List.replicate, Int.reduceLT, Int.reduceLE, Int.reduceToNat, mkE, mapSetE, hN, hF, ty_3, ty_5, ty_9, ty_25, notIf, isEq, h1, h3, e1, h2, hs]
      refine ⟨n - (i + 1), _, by omega, ?_, i + 1, by omega, rfl, rfl⟩
      rw [hns]
      simp only [runB, finC, finD, AS.get, AS.mem, false_implies, implies_true, ↓reduceIte, Nat.reduceEqDiff, Option.isSome_some, Option.isSome_none, forall_eq_or_imp, forall_eq, reduceCtorEq, Nat.reduceAdd, Nat.reduceMul, List.zip_cons_cons, List.zip_nil_left, List.zip_nil_right, List.forall_mem_nil]
      first | done | simp
    · have h1 : decide ((i : Int) < (n : Int)) = false := by simpa using hlt
      obtain rfl : i = n := by omega
      simp only [runA, runB, runC, runD, runE, runF, fieldE, storeE, binE, ↓reduceIte, Nat.reduceLT, Nat.reduceLeDiff, Nat.reduceEqDiff, Nat.reduceAdd, Nat.reduceMul, Nat.reduceSub, reduceCtorEq, putAt, unE, Nat.reduceBEq, convE, buildE, List.replicate, Int.reduceLT, Int.reduceLE, Int.reduceToNat, mkE, mapSetE, hN, hF, ty_3, ty_5, ty_9, ty_25, notIf, isEq, h1]
      simp only [runB, finC, finD, Option.isSome_some, Option.isSome_none, ↓reduceIte, Nat.reduceEqDiff, Nat.reduceAdd, Nat.reduceMul, forall_eq_or_imp, forall_eq, implies_true, Nat.reduceBEq, reduceCtorEq, false_implies, List.zip_cons_cons, List.zip_nil_left, List.zip_nil_right, Nat.reduceLeDiff, List.forall_mem_nil, rs_106]


def digS (n count : Nat) : List Nat := (List.range count).map fun i : Nat => n / 4 ^ (count - 1 - i) % 4
def ints (l : List Nat) : List (List PC) := l.map fun x : Nat => [PC.int .i64 (x : Int)]
theorem ints_length (l : List Nat) : (ints l).length = l.length := by simp [ints]
theorem ints_app (a b : List Nat) : ints a ++ ints b = ints (a ++ b) := by simp [ints]
theorem rowsOK_ints (l : List Nat) : rowsOK 1 (ints l) := by
  intro r hr
  simp only [ints, List.mem_map] at hr
  obtain ⟨b, _, rfl⟩ := hr
  rfl
theorem rowsOK_one (c : PC) : rowsOK 1 [[c]] := by
  intro r hr
  simp only [List.mem_singleton] at hr
  rw [hr]
  rfl
theorem ints_get (l : List Nat) (i : Nat) (h : i < l.length) : (ints l)[i]? = some [.int .i64 ((l.getD i 0 : Nat) : Int)] := by
  simp [ints, List.getD, h]
theorem digS_length (n c : Nat) : (digS n c).length = c := by simp [digS]
theorem digS_lt {n c x : Nat} (h : x ∈ digS n c) : x < 4 := by
  simp only [digS, List.mem_map] at h
  obtain ⟨i, _, rfl⟩ := h
  exact Nat.mod_lt _ (by decide)
theorem digS_get (n c i : Nat) (h : i < c) : (digS n c).getD i 0 = n / 4 ^ (c - 1 - i) % 4 := by
  simp [digS, List.getD, h]
def lack : List Nat → Nat
  | [] => 0
  | x :: l => (3 - x) + lack l
theorem lack_le (l : List Nat) : lack l ≤ 3 * l.length := by
  induction l with
  | nil => simp [lack]
  | cons x l ih => simp only [lack, List.length_cons]; omega
theorem lack_app (a b : List Nat) : lack (a ++ b) = lack a + lack b := by
  induction a with
  | nil => simp [lack]
  | cons x a ih => simp only [List.cons_append, lack, ih]; omega
def top16 (b : List UInt8) : Nat := (b.getD 0 0).toNat * 256 + (b.getD 1 0).toNat
theorem top16_lt (b : List UInt8) : top16 b < 65536 := by
  unfold top16
  have h1 := (b.getD 0 0).toNat_lt
  have h2 := (b.getD 1 0).toNat_lt
  omega
def d8 (b : List UInt8) : List Nat := digS (top16 (shaS b)) 8
def dS (b : List UInt8) : List Nat := d8 b ++ digS (lack (d8 b)) 3
theorem d8_length (b : List UInt8) : (d8 b).length = 8 := digS_length _ _
theorem dS_length (b : List UInt8) : (dS b).length = 11 := by rw [dS, List.length_append, d8_length, digS_length]
theorem dS_lt {b : List UInt8} {x : Nat} (h : x ∈ dS b) : x < 4 := by
  rcases List.mem_append.1 h with h | h
  · exact digS_lt h
  · exact digS_lt h
theorem dS_get_lt (b : List UInt8) (i : Nat) : (dS b).getD i 0 < 4 := by
  rw [List.getD]
  cases h : (dS b)[i]? with
  | none => decide
  | some x => exact dS_lt (List.mem_of_getElem? h)

theorem word_step (a : W32) (c : UInt8) (h : a.toNat < 16777216) : ((a <<< 8) ||| bw c).toNat = a.toNat * 256 + c.toNat := by
  have hc := c.toNat_lt
  have h1 : (bw c).toNat = c.toNat := by
    simp only [bw, BitVec.toNat_ofNat]
    exact Nat.mod_eq_of_lt (by omega)
  rw [BitVec.toNat_or, BitVec.toNat_shiftLeft, h1, Nat.mod_eq_of_lt (by rw [Nat.shiftLeft_eq]; omega), ← Nat.shiftLeft_add_eq_or_of_lt (by omega), Nat.shiftLeft_eq]
theorem word_top (b : List UInt8) (h : 4 ≤ b.length) : (wordS b 0).toNat / 65536 = top16 b := by
  have c0 : (if (0 : Int) ≤ 0 ∧ (0 : Int) < (b.length : Int) - ((0 : Nat) : Int) then bw (b.getD ((0 : Int).toNat + 0) 0) else 0) = bw (b.getD 0 0) := by rw [if_pos (by omega)]; rfl
  have c1 : (if (0 : Int) ≤ 0 ∧ (0 : Int) < (b.length : Int) - ((1 : Nat) : Int) then bw (b.getD ((0 : Int).toNat + 1) 0) else 0) = bw (b.getD 1 0) := by rw [if_pos (by omega)]; rfl
  have c2 : (if (0 : Int) ≤ 0 ∧ (0 : Int) < (b.length : Int) - ((2 : Nat) : Int) then bw (b.getD ((0 : Int).toNat + 2) 0) else 0) = bw (b.getD 2 0) := by rw [if_pos (by omega)]; rfl
  have c3 : (if (0 : Int) ≤ 0 ∧ (0 : Int) < (b.length : Int) - ((3 : Nat) : Int) then bw (b.getD ((0 : Int).toNat + 3) 0) else 0) = bw (b.getD 3 0) := by rw [if_pos (by omega)]; rfl
  have h0 := (b.getD 0 0).toNat_lt
  have h1 := (b.getD 1 0).toNat_lt
  have h2 := (b.getD 2 0).toNat_lt
  have h3 := (b.getD 3 0).toNat_lt
  have w1 : (wordTo b 0 1).toNat = (b.getD 0 0).toNat := by
    rw [wordTo, c0, wordTo, word_step _ _ (by decide)]; simp
  have w2 : (wordTo b 0 2).toNat = (b.getD 0 0).toNat * 256 + (b.getD 1 0).toNat := by
    rw [wordTo, c1, word_step _ _ (by omega), w1]
  have w3 : (wordTo b 0 3).toNat = ((b.getD 0 0).toNat * 256 + (b.getD 1 0).toNat) * 256 + (b.getD 2 0).toNat := by
    rw [wordTo, c2, word_step _ _ (by omega), w2]
  have w4 : (wordS b 0).toNat = (((b.getD 0 0).toNat * 256 + (b.getD 1 0).toNat) * 256 + (b.getD 2 0).toNat) * 256 + (b.getD 3 0).toNat := by
    rw [wordS, wordTo, c3, word_step _ _ (by omega), w3]
  rw [w4]
  unfold top16
  omega

theorem ofNat64s (n : Nat) : BitVec.ofInt 64 (n : Int) = BitVec.ofNat 64 n := by simp
theorem and_three (n : Nat) (h : n < 9223372036854775808) : IntKind.i64.wrap (((BitVec.ofInt IntKind.i64.bits (n : Int) &&& BitVec.ofInt IntKind.i64.bits 3).toNat : Nat) : Int) = ((n % 4 : Nat) : Int) := by
  have e : (BitVec.ofInt 64 (n : Int) &&& BitVec.ofInt 64 3).toNat = n % 4 := by
    rw [ofNat64s, show (3 : Int) = ((3 : Nat) : Int) from rfl, ofNat64s, BitVec.toNat_and, BitVec.toNat_ofNat, BitVec.toNat_ofNat, Nat.mod_eq_of_lt (by omega), Nat.mod_eq_of_lt (by omega)]
    exact Nat.and_two_pow_sub_one_eq_mod n 2
  show IntKind.i64.wrap (((BitVec.ofInt 64 (n : Int) &&& BitVec.ofInt 64 3).toNat : Nat) : Int) = _
  rw [e, wrapI (by omega)]
theorem shr_two (n j : Nat) (h : j ≤ 16) : shOp .shr .i64 (n : Int) ((2 * j : Nat) : Int) = some (.int .i64 ((n / 4 ^ j : Nat) : Int)) := by
  have h1 : ¬ (((2 * j : Nat) : Int) < 0) := by omega
  have h2 : (((2 * j : Nat) : Int)).toNat = 2 * j := Int.toNat_natCast _
  have h3 : min (2 * j) IntKind.i64.bits = 2 * j := Nat.min_eq_left (by show 2 * j ≤ 64; omega)
  unfold shOp
  rw [if_neg h1]
  simp only [h2, h3]
  have h4 : ((2 : Int) ^ (2 * j)) = ((4 ^ j : Nat) : Int) := by
    rw [Int.pow_mul]; simp
  rw [h4, Int.fdiv_eq_ediv_of_nonneg _ (Int.natCast_nonneg _)]
  rfl

/-- An array of digits that is half filled. -/
def dz (n c i : Nat) : List Nat := (List.range c).map fun k : Nat => if k < i then n / 4 ^ (c - 1 - k) % 4 else 0
theorem dz_length (n c i : Nat) : (dz n c i).length = c := by simp [dz]
theorem dz_zero (n c : Nat) : dz n c 0 = List.replicate c 0 := by
  unfold dz
  rw [List.eq_replicate_iff]
  refine ⟨by simp, fun x hx => ?_⟩
  simp at hx
  exact hx.2.symm
theorem dz_full (n c : Nat) : dz n c c = digS n c := by
  unfold dz digS
  refine List.map_congr_left fun k hk => ?_
  rw [if_pos (List.mem_range.1 hk)]
theorem dz_set (n c i : Nat) (h : i < c) : (dz n c i).set i (n / 4 ^ (c - 1 - i) % 4) = dz n c (i + 1) := by
  refine List.ext_getElem (by simp [dz]) fun j h1 h2 => ?_
  simp only [dz, List.getElem_set, List.getElem_map, List.getElem_range]
  by_cases e : i = j
  · subst e; rw [if_pos rfl, if_pos (by omega)]
  · rw [if_neg e]
    by_cases e2 : j < i
    · rw [if_pos e2, if_pos (by omega)]
    · rw [if_neg e2, if_neg (by omega)]
def cellsI (l : List Nat) : List AV := l.map fun x : Nat => .c (.int .i64 (x : Int))
theorem cellsI_length (l : List Nat) : (cellsI l).length = l.length := by simp [cellsI]
theorem cellsI_put {l : List Nat} {i : Nat} (x : Nat) (h : i < l.length) : putAt (cellsI l) i [.c (.int .i64 (x : Int))] = cellsI (l.set i x) := by
  unfold putAt cellsI
  rw [List.set_eq_take_append_cons_drop, if_pos h]
  simp [List.map_take, List.map_drop]
theorem cellsI_toPCs (l : List Nat) : toPCs (cellsI l) = some (l.map fun x : Nat => PC.int .i64 (x : Int)) := by
  induction l with
  | nil => rfl
  | cons x l ih =>
    show toPCs (.c (.int .i64 (x : Int)) :: cellsI l) = _
    simp only [toPCs, AV.toPC, ih, List.map_cons]
theorem chunks_ints : ∀ (l : List Nat) (c : Nat), c = l.length → chunks 1 c (l.map fun x : Nat => PC.int .i64 (x : Int)) = ints l
  | [], _, rfl => rfl
  | x :: l, _, rfl => by
    show chunks 1 (l.length + 1) (PC.int .i64 (x : Int) :: l.map fun x : Nat => PC.int .i64 (x : Int)) = [PC.int .i64 (x : Int)] :: ints l
    simp only [chunks, List.take_succ_cons, List.take_zero, List.drop_succ_cons, List.drop_zero]
    rw [chunks_ints l l.length rfl]
theorem cellsI_rep (c : Nat) : (List.replicate c [AV.c (PC.int .i64 0)]).flatten = cellsI (List.replicate c 0) := by
  induction c with
  | zero => rfl
  | succ c ih => rw [List.replicate_succ, List.flatten_cons, ih, List.replicate_succ]; rfl
theorem cellsI_amds (ρ : Ren) (l : List Nat) : AMds ρ (cellsI l) (cellsI l) := by
  induction l with
  | nil => trivial
  | cons x l ih => exact ⟨rfl, ih⟩

theorem lack_take (l : List Nat) (i : Nat) (h : i < l.length) : lack (l.take (i + 1)) = lack (l.take i) + (3 - l.getD i 0) := by
  rw [List.take_add_one, lack_app]
  simp [List.getD, h, lack]
theorem shr_u32 (W : Nat) : shOp .shr .u32 (W : Int) 16 = some (.int .u32 ((W / 65536 : Nat) : Int)) := by
  have h3 : min 16 IntKind.u32.bits = 16 := rfl
  show some (PC.int .u32 ((W : Int).fdiv (2 ^ (min 16 IntKind.u32.bits)))) = _
  rw [h3, Int.fdiv_eq_ediv_of_nonneg _ (by decide)]
  rfl

theorem tmod_4 (n : Nat) : (n : Int).tmod 4 = ((n % 4 : Nat) : Int) := by
  rw [Int.tmod_eq_emod_of_nonneg (by omega)]; omega
theorem tdiv_16 (n : Nat) (h : n < 9223372036854775808) : IntKind.i64.wrap ((n : Int).tdiv 16) = ((n / 16 : Nat) : Int) := by
  rw [Int.tdiv_eq_ediv_of_nonneg (by omega), show (n : Int) / 16 = ((n / 16 : Nat) : Int) from by omega, wrapI (by omega)]
theorem tdiv_4 (n : Nat) (h : n < 9223372036854775808) : IntKind.i64.wrap ((n : Int).tdiv 4) = ((n / 4 : Nat) : Int) := by
  rw [Int.tdiv_eq_ediv_of_nonneg (by omega), show (n : Int) / 4 = ((n / 4 : Nat) : Int) from by omega, wrapI (by omega)]
theorem digS_three (S : Nat) : [[PC.int .i64 ((S / 16 % 4 : Nat) : Int)], [PC.int .i64 ((S / 4 % 4 : Nat) : Int)], [PC.int .i64 ((S % 4 : Nat) : Int)]] = ints (digS S 3) := by
  simp [digS, ints, List.range_succ]
theorem d8_take (n j : Nat) (h : j < 8) : ints ((digS n 8).take j) ++ [[PC.int .i64 ((n / 4 ^ (7 - j) % 4 : Nat) : Int)]] = ints ((digS n 8).take (j + 1)) := by
  have h1 : j < (digS n 8).length := by rw [digS_length]; exact h
  rw [List.take_add_one, ← ints_app]
  congr 1
  rw [List.getElem?_eq_getElem h1]
  have := digS_get n 8 j h
  rw [List.getD, List.getElem?_eq_getElem h1] at this
  simp only [Option.getD_some] at this
  rw [this]
  rfl

end Go.Proofs.Ytldehcnaepgamaa.AM
