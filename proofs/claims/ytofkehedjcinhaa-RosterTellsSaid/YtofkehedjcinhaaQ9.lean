/-
  Q9: Sh7 Pk3 Sh8 Sh9 ShT Sg1 Sn1 Sn2 Sn3 Sg2.
-/
import Derived.Test.YtofkehedjcinhaaQ7
import Derived.Test.YtofkehedjcinhaaQ8
set_option linter.unusedVariables false
set_option linter.unusedSimpArgs false
namespace Go.Proofs.Ytofkehedjcinhaa.AM
open Go

variable {Γ : FuncId → Contract}

def padS (b : List UInt8) : List UInt8 := [b, [128], List.replicate ((119 - b.length % 64) % 64) 0, putB (8 * (b.length : Int)) 8].flatten
theorem padS_eq (b : List UInt8) : padS b = b ++ ([128] ++ (List.replicate ((119 - b.length % 64) % 64) 0 ++ putB (8 * (b.length : Int)) 8)) := by simp [padS]
theorem padS_length (b : List UInt8) : (padS b).length % 64 = 0 ∧ (padS b).length ≤ b.length + 73 := by
  rw [padS_eq]
  simp only [List.length_append, List.length_replicate, List.length_cons, List.length_nil, putB_length]
  rw [show (min (max (8 : Int) 0) 8).toNat = 8 from rfl]
  omega
theorem rep_bytes (k : Nat) : List.replicate k [PC.int .u8 0] = bytes (List.replicate k 0) := by simp [bytes]

noncomputable def padC : Contract := mkC (α := List UInt8) (fun b => b.length ≤ 1099511627776) (fun b => [.c (.sl (bytes b))]) (fun _ => []) (fun b => ⟨[.fresh 1 (bytes (padS b))], []⟩)
theorem pad_at (b : List UInt8) (h : b.length ≤ 1099511627776) : padC [.c (.sl (bytes b))] [] = some ⟨[.fresh 1 (bytes (padS b))], []⟩ :=
  mkC_at (α := List UInt8) b h (by
    rintro y _ h _
    simp at h
    rw [bytes_inj h])

theorem slices4 (a c d : List UInt8) : [[PC.sl (bytes a)], [PC.sl [[PC.int .u8 128]]], [PC.sl (bytes c)], [PC.sl (bytes d)]] = slices [a, [128], c, d] := rfl

set_option maxRecDepth 100000 in
set_option maxHeartbeats 2000000 in
theorem pad_sound (hΓ : SoundG Try.prog Γ) (h53 : Γ 60 = putC) (h75 : Γ 66 = concatC) : SoundC Try.prog 70 padC := by
  refine sound_fn Try.func70 (by kernel_rfl) rfl rfl ?_
  intro args objs r hr
  obtain ⟨b, hl, rfl, rfl, rfl⟩ := mkC_inv hr
  refine ⟨rfl, by show 1 ≤ _; decide, fun E hN hns hF => ?_⟩
  refine vc_sound hΓ mixed _ _ _ ?_
  have hN := hN.trans nt_70
  have e1 : ((b.length : Int).tmod 64) = ((b.length % 64 : Nat) : Int) := rfl
  have e2 : IntKind.i64.wrap (119 - ((b.length % 64 : Nat) : Int)) = ((119 - b.length % 64 : Nat) : Int) := by rw [wrapI (by omega)]; omega
  have e3 : (((119 - b.length % 64 : Nat) : Int).tmod 64) = (((119 - b.length % 64) % 64 : Nat) : Int) := rfl
  have e4 : IntKind.i64.wrap (8 * (b.length : Int)) = 8 * (b.length : Int) := wrapI (by omega)
  obtain ⟨k, hk⟩ : ∃ k, k = (119 - b.length % 64) % 64 := ⟨_, rfl⟩
  have hk64 : k < 64 := by omega
  rw [← hk] at e3
  have e5 : (k : Int) ≤ 9223372036854775807 := by omega
  have e6 : (k : Int) * ((1 : Nat) : Int) ≤ 140737488355328 := by omega
  have hpad : [b, [128], List.replicate k 0, putB (8 * (b.length : Int)) 8].flatten = padS b := by rw [hk]; rfl
  have hpl := (padS_length b).2
  have hc := concat_at [b, [128], List.replicate k 0, putB (8 * (b.length : Int)) 8] ⟨by rw [hpad]; omega, by simp⟩
  rw [hpad] at hc
  simp only [runA, runB, runC, runD, runE, runF, fieldE, storeE, ↓reduceIte, Nat.reduceLT, Nat.reduceLeDiff, Nat.reduceEqDiff, Nat.reduceAdd, Nat.reduceMul, Nat.reduceSub, reduceCtorEq, putAt, Nat.reduceBEq, buildE, List.replicate, Int.reduceLT, Int.reduceLE, Int.reduceToNat, mkE, mapSetE, w_add, w_and, w_or, w_xor, w_xorF, w_not, w_shl8, w_shl16, w_shl24, w_shr3, w_shr8, w_shr10, w_shr16, w_shr24, b_add, b_sub, b_mul, b_quo, b_rem, b_and, b_or, b_xor, b_andNot, b_eql, b_neq, b_lss, b_leq, b_gtr, b_geq, b_str, b_bool, u_neg, u_not, c_bw, c_wb, cellsW_length, cellsW_pure, cellsW_all, cellsE_W, backCells_W, cellsAt_W, cellPairs_W, cellsW_toPCs, cellsW_map, hN, hF, ty_3, ty_5, ty_73, ty_120, notIf, isEq, intOp, e1, e2, e3, e4, e5, e6, Int.reduceEq, bytes_length, Int.le_refl, h53, putC, h75, rep_bytes, slices4, hc]
  refine drawnP_intro (by kernel_rfl) (by kernel_rfl) ?_
  simp only [thenA_normal, vc_ret]
  simp only [runB, finC, finD, Option.isSome_some, Option.isSome_none, ↓reduceIte, Nat.reduceEqDiff, Nat.reduceAdd, Nat.reduceMul, forall_eq_or_imp, forall_eq, implies_true, Nat.reduceBEq, reduceCtorEq, false_implies, List.zip_cons_cons, List.zip_nil_left, List.zip_nil_right, Nat.reduceLeDiff, List.forall_mem_nil, rs_70, bytes_length]

def H0 : S8 := ⟨1779033703, 3144134277, 1013904242, 2773480762, 1359893119, 2600822924, 528734635, 1541459225⟩
theorem H0_l : hS = H0.l := rfl
def chunk (p : List UInt8) (i : Nat) : List UInt8 := (p.drop (64 * i)).take 64
def stS (p : List UInt8) : Nat → S8
  | 0 => H0
  | i + 1 => blockS (stS p i) (chunk p i)
def shaS (b : List UInt8) : List UInt8 := octsOf (stS (padS b) ((padS b).length / 64)).l
theorem shaS_length (b : List UInt8) : (shaS b).length = 32 := by unfold shaS; rw [octsOf_length, S8.l_length]

noncomputable def sumC : Contract := mkC (α := List UInt8) (fun b => b.length ≤ 1099511627776) (fun b => [.c (.sl (bytes b))]) (fun _ => []) (fun b => ⟨[.fresh 1 (bytes (shaS b))], []⟩)
theorem sum_at (b : List UInt8) (h : b.length ≤ 1099511627776) : sumC [.c (.sl (bytes b))] [] = some ⟨[.fresh 1 (bytes (shaS b))], []⟩ :=
  mkC_at (α := List UInt8) b h (by
    rintro y _ h _
    simp at h
    rw [bytes_inj h])

theorem bytes_take (l : List UInt8) (n : Nat) : (bytes l).take n = bytes (l.take n) := by simp [bytes, List.map_take]
theorem bytes_drop (l : List UInt8) (n : Nat) : (bytes l).drop n = bytes (l.drop n) := by simp [bytes, List.map_drop]

set_option maxRecDepth 100000 in
set_option maxHeartbeats 2000000 in
theorem sum_sound (hΓ : SoundG Try.prog Γ) (h79 : Γ 68 = hC) (h80 : Γ 69 = kC) (h81 : Γ 70 = padC) (h82 : Γ 71 = blockC) (h83 : Γ 72 = wordsC) : SoundC Try.prog 65 sumC := by
  refine sound_fn Try.func65 (by kernel_rfl) rfl rfl ?_
  intro args objs r hr
  obtain ⟨b, hl, rfl, rfl, rfl⟩ := mkC_inv hr
  refine ⟨rfl, by show 1 ≤ _; decide, fun E hN hns hF => ?_⟩
  refine vc_sound hΓ mixed _ _ _ ?_
  have hN := hN.trans nt_65
  have hp := pad_at b hl
  obtain ⟨hp64, hpl⟩ := padS_length b
  have hsha : shaS b = octsOf (stS (padS b) ((padS b).length / 64)).l := rfl
  generalize padS b = p at hp hp64 hpl hsha
  obtain ⟨n, hn⟩ : ∃ n, p.length = 64 * n := ⟨p.length / 64, by omega⟩
  rw [show p.length / 64 = n from by omega] at hsha
  have q1 : putAt (cellsW (zerosW 64)) 0 (cellsW kS) = cellsW kS := cellsW_all_put (by rw [zerosW_length, kS_length])
  have q2 : putAt [AV.c (PC.int .u32 0), .c (.int .u32 0), .c (.int .u32 0), .c (.int .u32 0), .c (.int .u32 0), .c (.int .u32 0), .c (.int .u32 0), .c (.int .u32 0)] 0 (cellsW H0.l) = cellsW H0.l := cellsW_all_put (l := zerosW 8) ((S8.l_length H0).trans (zerosW_length 8).symm)
  simp only [runA, runB, runC, runD, runE, runF, fieldE, storeE, ↓reduceIte, Nat.reduceLT, Nat.reduceLeDiff, Nat.reduceEqDiff, Nat.reduceAdd, Nat.reduceMul, Nat.reduceSub, reduceCtorEq, Nat.reduceBEq, buildE, List.replicate, Int.reduceLT, Int.reduceLE, Int.reduceToNat, mkE, mapSetE, w_add, w_and, w_or, w_xor, w_xorF, w_not, w_shl8, w_shl16, w_shl24, w_shr3, w_shr8, w_shr10, w_shr16, w_shr24, b_add, b_sub, b_mul, b_quo, b_rem, b_and, b_or, b_xor, b_andNot, b_eql, b_neq, b_lss, b_leq, b_gtr, b_geq, b_str, b_bool, u_neg, u_not, c_bw, c_wb, cellsW_length, cellsW_pure, cellsW_all, cellsE_W, backCells_W, cellsAt_W, cellPairs_W, cellsW_toPCs, cellsW_map, hN, hF, ty_3, ty_5, ty_73, ty_128, ty_164, ty_166, ty_169, ty_171, notIf, isEq, zrep_W, h79, h80, h81, hC, kC, H0_l, hp, q1, q2, kS_length, S8.l_length, zerosW_length, bytes_length]
  refine AWP.loop (fun c s => ∃ i : Nat, i ≤ n ∧ c = n - i ∧ s = ⟨[(3, .ptr 192 0), (4, .ptr 256 0), (5, .c (.sl (bytes (p.drop (64 * i)))))], [(192, .obj (cellsW (stS p i).l) false), (256, .obj (cellsW kS) false)]⟩) ⟨n, _, ?w, 0, Nat.zero_le _, rfl, rfl⟩ ?r
  case w =>
    rw [hns]
    simp only [runB, finC, finD, AS.get, AS.mem, false_implies, implies_true, ↓reduceIte, Nat.reduceEqDiff, Option.isSome_some, Option.isSome_none, forall_eq_or_imp, forall_eq, reduceCtorEq, Nat.reduceAdd, Nat.reduceMul, List.zip_cons_cons, List.zip_nil_left, List.zip_nil_right, List.forall_mem_nil, cellsW_amds, stS]
    first | done | simp
  case r =>
    rintro c s ⟨i, hi, rfl, rfl⟩
    refine vc_sound hΓ mixed _ _ _ ?_
    have hql : (p.drop (64 * i)).length = 64 * (n - i) := by rw [List.length_drop, hn]; omega
    have hcl : (stS p i).l.length = 8 := S8.l_length _
    have ht : (cellsW (stS p i).l).take 8 = cellsW (stS p i).l := cellsW_take (S8.l_length _).symm
    by_cases hlt : i < n
    · have h1 : decide (((64 * (n - i) : Nat) : Int) > 0) = true := by simp; omega
      have e1 : (64 : Int) ≤ ((64 * (n - i) : Nat) : Int) := by omega
      have hb : blockC [.agg (cellsW (stS p i).l), .c (.sl (bytes (chunk p i))), .ptr 6400000 0] [ovW kS] = some ⟨[.pv (.agg (cellsW (blockS (stS p i) (chunk p i)).l))], [ovW kS]⟩ := block_at (stS p i) (chunk p i) (by unfold chunk; simp; omega)
      have hs : blockS (stS p i) (chunk p i) = stS p (i + 1) := rfl
      have hch : ((p.drop (64 * i)).take 64) = chunk p i := rfl
      have hd : (p.drop (64 * i)).drop 64 = p.drop (64 * (i + 1)) := by rw [List.drop_drop]; congr 1
      have hz := rowsOK_bytes
      rw [hs] at hb
      have q3 : putAt (cellsW (stS p i).l) 0 (cellsW (stS p (i + 1)).l) = cellsW (stS p (i + 1)).l := cellsW_all_put ((S8.l_length _).trans (S8.l_length _).symm)
      have q4 : (stS p (i + 1)).l.length = 8 := S8.l_length _
      have z0 : ((0 : Nat) : Int) ≤ 64 := by decide
      have htl : (bytes (p.drop (64 * i))).take (64 * (n - i)) = bytes (p.drop (64 * i)) := by rw [← hql, ← bytes_length, List.take_length]
      simp only [runA, runB, runC, runD, runE, runF, fieldE, storeE, ↓reduceIte, Nat.reduceLT, Nat.reduceLeDiff, Nat.reduceEqDiff, Nat.reduceAdd, Nat.reduceMul, Nat.reduceSub, reduceCtorEq, Nat.reduceBEq, buildE, List.replicate, Int.reduceLT, Int.reduceLE, Int.reduceToNat, mkE, mapSetE, w_add, w_and, w_or, w_xor, w_xorF, w_not, w_shl8, w_shl16, w_shl24, w_shr3, w_shr8, w_shr10, w_shr16, w_shr24, b_add, b_sub, b_mul, b_quo, b_rem, b_and, b_or, b_xor, b_andNot, b_eql, b_neq, b_lss, b_leq, b_gtr, b_geq, b_str, b_bool, u_neg, u_not, c_bw, c_wb, cellsW_length, cellsW_pure, cellsW_all, cellsE_W, backCells_W, cellsAt_W, cellPairs_W, cellsW_toPCs, cellsW_map, hN, hF, ty_3, ty_5, ty_73, ty_128, ty_164, ty_166, ty_169, ty_171, notIf, isEq, intOp, h1, e1, h82, hb, hz, hql, hcl, ht, sliceE, boundE, bytes_take, bytes_drop, hch, hd, q3, q4, bytes_length, Int.le_refl, z0, List.drop_zero, Option.isSome_some, htl]
      refine drawnP_intro (by kernel_rfl) (by kernel_rfl) ?_
      simp only [runA, runB, runC, runD, runE, runF, fieldE, storeE, ↓reduceIte, Nat.reduceLT, Nat.reduceLeDiff, Nat.reduceEqDiff, Nat.reduceAdd, Nat.reduceMul, Nat.reduceSub, reduceCtorEq, Nat.reduceBEq, buildE, List.replicate, Int.reduceLT, Int.reduceLE, Int.reduceToNat, mkE, mapSetE, w_add, w_and, w_or, w_xor, w_xorF, w_not, w_shl8, w_shl16, w_shl24, w_shr3, w_shr8, w_shr10, w_shr16, w_shr24, b_add, b_sub, b_mul, b_quo, b_rem, b_and, b_or, b_xor, b_andNot, b_eql, b_neq, b_lss, b_leq, b_gtr, b_geq, b_str, b_bool, u_neg, u_not, c_bw, c_wb, cellsW_length, cellsW_pure, cellsW_all, cellsE_W, backCells_W, cellsAt_W, cellPairs_W, cellsW_toPCs, cellsW_map, hN, hF, ty_3, ty_5, ty_73, ty_128, ty_164, ty_166, ty_169, ty_171, notIf, isEq, intOp, h1, e1, h82, hb, hz, hql, hcl, ht, sliceE, boundE, bytes_take, bytes_drop, hch, hd, q3, q4, bytes_length, Int.le_refl, z0, List.drop_zero, Option.isSome_some, htl]
      refine ⟨n - (i + 1), _, by omega, ?_, i + 1, by omega, rfl, rfl⟩
      rw [hns]
      simp only [runB, finC, finD, AS.get, AS.mem, false_implies, implies_true, ↓reduceIte, Nat.reduceEqDiff, Option.isSome_some, Option.isSome_none, forall_eq_or_imp, forall_eq, reduceCtorEq, Nat.reduceAdd, Nat.reduceMul, List.zip_cons_cons, List.zip_nil_left, List.zip_nil_right, List.forall_mem_nil, cellsW_amds]
      first | done | rfl | simp
    · have h1 : decide (((64 * (n - i) : Nat) : Int) > 0) = false := by simp; omega
      obtain rfl : i = n := by omega
      have hw : wordsC [.msl 6400000 0 8 true] [ovW (stS p i).l] = some ⟨[.fresh 1 (bytes (octsOf (stS p i).l))], [ovW (stS p i).l]⟩ := words_at (stS p i).l 8 (S8.l_length _).symm (by rw [S8.l_length]; decide)
      have c1 : ((0 : Nat) : Int) ≤ ((8 : Nat) : Int) := by decide
      have c2 : ((0 : Nat) : Int) = 0 := rfl
      have z8 : (0 : Int) ≤ ((8 : Nat) : Int) := by decide
      simp only [runA, runB, runC, runD, runE, runF, fieldE, storeE, ↓reduceIte, Nat.reduceLT, Nat.reduceLeDiff, Nat.reduceEqDiff, Nat.reduceAdd, Nat.reduceMul, Nat.reduceSub, reduceCtorEq, putAt, Nat.reduceBEq, buildE, List.replicate, Int.reduceLT, Int.reduceLE, Int.reduceToNat, mkE, mapSetE, w_add, w_and, w_or, w_xor, w_xorF, w_not, w_shl8, w_shl16, w_shl24, w_shr3, w_shr8, w_shr10, w_shr16, w_shr24, b_add, b_sub, b_mul, b_quo, b_rem, b_and, b_or, b_xor, b_andNot, b_eql, b_neq, b_lss, b_leq, b_gtr, b_geq, b_str, b_bool, u_neg, u_not, c_bw, c_wb, cellsW_length, cellsW_pure, cellsW_all, cellsE_W, backCells_W, cellsAt_W, cellPairs_W, cellsW_toPCs, cellsW_map, hN, hF, ty_3, ty_5, ty_73, ty_128, ty_164, ty_166, ty_169, ty_171, notIf, isEq, intOp, h1, hql, h83, hw, sliceE, boundE, z8, c1, c2, Int.le_refl, eq_self, true_or, bytes_length]
      simp only [runB, finC, finD, Option.isSome_some, Option.isSome_none, ↓reduceIte, Nat.reduceEqDiff, Nat.reduceAdd, Nat.reduceMul, forall_eq_or_imp, forall_eq, implies_true, Nat.reduceBEq, reduceCtorEq, false_implies, List.zip_cons_cons, List.zip_nil_left, List.zip_nil_right, Nat.reduceLeDiff, List.forall_mem_nil, rs_65, bytes_length, hsha]

def longOK (l : List (List UInt8)) : Prop := l.flatten.length ≤ 1099511627776 ∧ l.length ≤ 4611686018427387904
noncomputable def longC : Contract := mkC (α := List (List UInt8)) longOK (fun l => [.c (.sl (slices l))]) (fun _ => []) (fun l => ⟨[.pv (.c (.str (shaS l.flatten)))], []⟩)
theorem long_at (l : List (List UInt8)) (h : longOK l) : longC [.c (.sl (slices l))] [] = some ⟨[.pv (.c (.str (shaS l.flatten)))], []⟩ :=
  mkC_at (α := List (List UInt8)) l h (fun y _ h1 _ => by
    simp at h1
    rw [slices_inj h1])
/-- The first octets of a sum. -/
def shortS (b : List UInt8) : List UInt8 := (shaS b).take 8
theorem shortS_length (b : List UInt8) : (shortS b).length = 8 := by simp [shortS, shaS_length]
noncomputable def shortC : Contract := mkC (α := List (List UInt8)) longOK (fun l => [.c (.sl (slices l))]) (fun _ => []) (fun l => ⟨[.pv (.c (.str (shortS l.flatten)))], []⟩)
theorem short_at (l : List (List UInt8)) (h : longOK l) : shortC [.c (.sl (slices l))] [] = some ⟨[.pv (.c (.str (shortS l.flatten)))], []⟩ :=
  mkC_at (α := List (List UInt8)) l h (fun y _ h1 _ => by
    simp at h1
    rw [slices_inj h1])

set_option maxHeartbeats 1000000 in
theorem long_sound (hΓ : SoundG Try.prog Γ) (h75 : Γ 66 = concatC) (h74 : Γ 65 = sumC) : SoundC Try.prog 62 longC := by
  refine sound_fn Try.func62 (by kernel_rfl) rfl rfl ?_
  intro args objs r hr
  obtain ⟨l, ⟨hl1, hl2⟩, rfl, rfl, rfl⟩ := mkC_inv hr
  refine ⟨rfl, by show 1 ≤ _; decide, fun E hN hns hF => ?_⟩
  refine vc_sound hΓ mixed _ _ _ ?_
  have hN := hN.trans nt_62
  have h1 := concat_at l ⟨by omega, hl2⟩
  have h2 := sum_at l.flatten hl1
  simp only [runA, runB, runC, runD, runE, runF, fieldE, storeE, binE, ↓reduceIte, Nat.reduceLT, Nat.reduceLeDiff, Nat.reduceEqDiff, Nat.reduceAdd, Nat.reduceMul, Nat.reduceSub, reduceCtorEq, putAt, unE, Nat.reduceBEq, convE, buildE, List.replicate, Int.reduceLT, Int.reduceLE, Int.reduceToNat, mkE, mapSetE, hN, hF, ty_5, ty_9, ty_73, ty_120, notIf, isEq, h75, h74, h1, h2, bytes_length, bytesOf_bytes]
  simp only [runB, finC, finD, Option.isSome_some, Option.isSome_none, ↓reduceIte, Nat.reduceEqDiff, Nat.reduceAdd, Nat.reduceMul, forall_eq_or_imp, forall_eq, implies_true, Nat.reduceBEq, reduceCtorEq, false_implies, List.zip_cons_cons, List.zip_nil_left, List.zip_nil_right, Nat.reduceLeDiff, List.forall_mem_nil, rs_62]

set_option maxHeartbeats 1000000 in
theorem short_sound (hΓ : SoundG Try.prog Γ) (h68 : Γ 62 = longC) : SoundC Try.prog 59 shortC := by
  refine sound_fn Try.func59 (by kernel_rfl) rfl rfl ?_
  intro args objs r hr
  obtain ⟨l, hl, rfl, rfl, rfl⟩ := mkC_inv hr
  refine ⟨rfl, by show 1 ≤ _; decide, fun E hN hns hF => ?_⟩
  refine vc_sound hΓ mixed _ _ _ ?_
  have hN := hN.trans nt_59
  have h1 := long_at l hl
  have hlen := shaS_length l.flatten
  have z0 : ((0 : Nat) : Int) ≤ 8 := by decide
  have z8 : (8 : Int) ≤ ((32 : Nat) : Int) := by decide
  simp only [runA, runB, runC, runD, runE, runF, fieldE, storeE, binE, ↓reduceIte, Nat.reduceLT, Nat.reduceLeDiff, Nat.reduceEqDiff, Nat.reduceAdd, Nat.reduceMul, Nat.reduceSub, reduceCtorEq, putAt, unE, Nat.reduceBEq, convE, buildE, List.replicate, Int.reduceLT, Int.reduceLE, Int.reduceToNat, mkE, mapSetE, hN, hF, ty_9, ty_73, ty_120, notIf, isEq, h68, h1, sliceE, boundE, hlen, z0, z8, Int.le_refl, List.drop_zero]
  simp only [runB, finC, finD, Option.isSome_some, Option.isSome_none, ↓reduceIte, Nat.reduceEqDiff, Nat.reduceAdd, Nat.reduceMul, forall_eq_or_imp, forall_eq, implies_true, Nat.reduceBEq, reduceCtorEq, false_implies, List.zip_cons_cons, List.zip_nil_left, List.zip_nil_right, Nat.reduceLeDiff, List.forall_mem_nil, rs_59, shortS]


variable {Γ : FuncId → Contract}


variable {Γ : FuncId → Contract}


variable {Γ : FuncId → Contract}


/-- Texts, as cells. -/
def texts (l : List (List UInt8)) : List (List PC) := l.map fun s => [PC.str s]
theorem texts_length (l : List (List UInt8)) : (texts l).length = l.length := by simp [texts]
theorem texts_inj {a b : List (List UInt8)} (h : texts a = texts b) : a = b := by
  unfold texts at h
  refine (List.map_inj_right (fun x y h => ?_)).1 h
  simpa using h
theorem texts_app (a b : List (List UInt8)) : texts a ++ texts b = texts (a ++ b) := by simp [texts]
theorem rowsOK_texts (l : List (List UInt8)) : rowsOK 1 (texts l) := by
  intro r hr
  simp only [texts, List.mem_map] at hr
  obtain ⟨b, _, rfl⟩ := hr
  rfl
theorem texts1 (s : List UInt8) : [[PC.str s]] = texts [s] := rfl


variable {Γ : FuncId → Contract}

def wotsB : List UInt8 := [119, 111, 116, 115]
def secB (seed : List UInt8) (leaf place : Int) : List UInt8 := [wotsB, putB (seed.length : Int) 2, seed, putB leaf 4, putB place 1].flatten
def secS (seed : List UInt8) (leaf place : Int) : List UInt8 := shortS (secB seed leaf place)
theorem secB_eq (seed : List UInt8) (leaf place : Int) : secB seed leaf place = (((wotsB ++ putB (seed.length : Int) 2) ++ seed) ++ putB leaf 4) ++ putB place 1 := by simp [secB]
theorem putB2 (n : Int) : (putB n 2).length = 2 := by rw [putB_length]; rfl
theorem putB4 (n : Int) : (putB n 4).length = 4 := by rw [putB_length]; rfl
theorem putB1 (n : Int) : (putB n 1).length = 1 := by rw [putB_length]; rfl
theorem secB_length (seed : List UInt8) (leaf place : Int) : (secB seed leaf place).length = seed.length + 11 := by
  rw [secB_eq]
  simp only [List.length_append, putB2, putB4, putB1, wotsB, List.length_cons, List.length_nil]
  omega

structure Sd where
  seed : List UInt8
  leaf : Int
  place : Int
noncomputable def secC : Contract := mkC (α := Sd) (fun p => p.seed.length ≤ 1000000) (fun p => [.c (.str p.seed), .c (.int .i64 p.leaf), .c (.int .i64 p.place)]) (fun _ => []) (fun p => ⟨[.pv (.c (.str (secS p.seed p.leaf p.place)))], []⟩)
theorem sec_at (seed : List UInt8) (leaf place : Int) (h : seed.length ≤ 1000000) : secC [.c (.str seed), .c (.int .i64 leaf), .c (.int .i64 place)] [] = some ⟨[.pv (.c (.str (secS seed leaf place)))], []⟩ :=
  mkC_at (α := Sd) ⟨seed, leaf, place⟩ h (by
    rintro ⟨a, b, c⟩ _ h _
    simp only [List.cons.injEq, AV.c.injEq, PC.int.injEq, PC.str.injEq, true_and, and_true] at h
    obtain ⟨rfl, rfl, rfl⟩ := h
    rfl)

theorem slices5 (a c d e : List UInt8) : [[PC.sl [[PC.int .u8 119], [PC.int .u8 111], [PC.int .u8 116], [PC.int .u8 115]]], [PC.sl (bytes a)], [PC.sl (bytes c)], [PC.sl (bytes d)], [PC.sl (bytes e)]] = slices [wotsB, a, c, d, e] := rfl

set_option maxRecDepth 100000 in
set_option maxHeartbeats 1000000 in
theorem sec_sound (hΓ : SoundG Try.prog Γ) (h1 : Γ 60 = putC) (h2 : Γ 59 = shortC) : SoundC Try.prog 49 secC := by
  refine sound_fn Try.func49 (by kernel_rfl) rfl rfl ?_
  intro args objs r hr
  obtain ⟨⟨seed, leaf, place⟩, hl, rfl, rfl, rfl⟩ := mkC_inv hr
  refine ⟨rfl, by show 3 ≤ _; decide, fun E hN hns hF => ?_⟩
  refine vc_sound hΓ mixed _ _ _ ?_
  have hN := hN.trans nt_49
  dsimp only at hl ⊢
  have hlen := secB_length seed leaf place
  have hs := short_at [wotsB, putB (seed.length : Int) 2, seed, putB leaf 4, putB place 1] ⟨by show (secB seed leaf place).length ≤ _; omega, by simp⟩
  have he : shortS ([wotsB, putB (seed.length : Int) 2, seed, putB leaf 4, putB place 1].flatten) = secS seed leaf place := rfl
  rw [he] at hs
  simp only [runA, runB, runC, runD, runE, runF, fieldE, storeE, binE, ↓reduceIte, Nat.reduceLT, Nat.reduceLeDiff, Nat.reduceEqDiff, Nat.reduceAdd, Nat.reduceMul, Nat.reduceSub, reduceCtorEq, putAt, unE, Nat.reduceBEq, convE, buildE, List.replicate, Int.reduceLT, Int.reduceLE, Int.reduceToNat, mkE, mapSetE, hN, hF, ty_3, ty_5, ty_9, ty_73, ty_120, notIf, isEq, h1, putC, h2, slices5, hs, bytes_length]
  try refine drawnP_intro (by kernel_rfl) (by kernel_rfl) ?_
  try simp only [thenA_normal, vc_ret]
  simp only [runB, finC, finD, Option.isSome_some, Option.isSome_none, ↓reduceIte, Nat.reduceEqDiff, Nat.reduceAdd, Nat.reduceMul, forall_eq_or_imp, forall_eq, implies_true, Nat.reduceBEq, reduceCtorEq, false_implies, List.zip_cons_cons, List.zip_nil_left, List.zip_nil_right, Nat.reduceLeDiff, List.forall_mem_nil, rs_49]

/-- So many steps on. -/
def chainS (s : List UInt8) : Nat → List UInt8
  | 0 => s
  | n + 1 => shortS (chainS s n)
theorem chainS_length (s : List UInt8) (n : Nat) (h : s.length ≤ 1000000) : (chainS s n).length ≤ 1000000 := by
  cases n with
  | zero => exact h
  | succ n => show (shortS _).length ≤ _; rw [shortS_length]; decide
noncomputable def chainC : Contract := mkC (α := List UInt8 × Nat) (fun p => p.1.length ≤ 1000000 ∧ p.2 ≤ 3) (fun p => [.c (.str p.1), .c (.int .i64 (p.2 : Int))]) (fun _ => []) (fun p => ⟨[.pv (.c (.str (chainS p.1 p.2)))], []⟩)
theorem chain_at (s : List UInt8) (n : Nat) (h : s.length ≤ 1000000) (h3 : n ≤ 3) : chainC [.c (.str s), .c (.int .i64 (n : Int))] [] = some ⟨[.pv (.c (.str (chainS s n)))], []⟩ :=
  mkC_at (α := List UInt8 × Nat) (s, n) ⟨h, h3⟩ (by
    rintro ⟨a, b⟩ _ h _
    simp only [List.cons.injEq, AV.c.injEq, PC.int.injEq, PC.str.injEq, true_and, and_true] at h
    obtain ⟨rfl, e⟩ := h
    obtain rfl : b = n := by omega
    rfl)

set_option maxRecDepth 100000 in
set_option maxHeartbeats 1000000 in
theorem chain_sound (hΓ : SoundG Try.prog Γ) (h2 : Γ 59 = shortC) : SoundC Try.prog 48 chainC := by
  refine sound_fn Try.func48 (by kernel_rfl) rfl rfl ?_
  intro args objs r hr
  obtain ⟨⟨s, n⟩, ⟨hl, hn⟩, rfl, rfl, rfl⟩ := mkC_inv hr
  refine ⟨rfl, by show 2 ≤ _; decide, fun E hN hns hF => ?_⟩
  refine vc_sound hΓ mixed _ _ _ ?_
  have hN := hN.trans nt_48
  dsimp only at hl hn ⊢
  have g1 : ¬ ((0 : Int) > (n : Int)) := by omega
  have g2 : ¬ ((3 : Int) < (n : Int)) := by omega
  simp only [runA, runB, runC, runD, runE, runF, fieldE, storeE, binE, ↓reduceIte, Nat.reduceLT, Nat.reduceLeDiff, Nat.reduceEqDiff, Nat.reduceAdd, Nat.reduceMul, Nat.reduceSub, reduceCtorEq, putAt, unE, Nat.reduceBEq, convE, buildE, List.replicate, Int.reduceLT, Int.reduceLE, Int.reduceToNat, mkE, mapSetE, hN, hF, ty_3, ty_5, ty_9, ty_73, ty_120, notIf, isEq, g1, g2]
  refine AWP.loop (fun c st => ∃ i : Nat, i ≤ n ∧ c = n - i ∧ st = ⟨[(0, .c (.str (chainS s i))), (7, .c (.int .i64 (n : Int))), (8, .c (.int .i64 (i : Int)))], []⟩) ⟨n, _, ?w, 0, Nat.zero_le _, rfl, rfl⟩ ?r
  case w =>
    rw [hns]
    simp only [runB, finC, finD, AS.get, AS.mem, false_implies, implies_true, ↓reduceIte, Nat.reduceEqDiff, Option.isSome_some, Option.isSome_none, forall_eq_or_imp, forall_eq, reduceCtorEq, Nat.reduceAdd, Nat.reduceMul, List.zip_cons_cons, List.zip_nil_left, List.zip_nil_right, List.forall_mem_nil, chainS]
    first | done | simp
  case r =>
    rintro c st ⟨i, hi, rfl, rfl⟩
    refine vc_sound hΓ mixed _ _ _ ?_
    by_cases hlt : i < n
    · have h1 : decide ((i : Int) < (n : Int)) = true := by simpa using hlt
      have e1 : IntKind.i64.wrap ((i : Int) + 1) = (i : Int) + 1 := wrapI (by omega)
      have hcl := chainS_length s i hl
      have hs := short_at [chainS s i] ⟨by simp; omega, by simp⟩
      have he : shortS ([chainS s i].flatten) = chainS s (i + 1) := by simp [chainS]
      rw [he] at hs
      have h1s : [[PC.sl (bytes (chainS s i))]] = slices [chainS s i] := rfl
      simp only [runA, runB, runC, runD, runE, runF, fieldE, storeE, binE, ↓reduceIte, Nat.reduceLT, Nat.reduceLeDiff, Nat.reduceEqDiff, Nat.reduceAdd, Nat.reduceMul, Nat.reduceSub, reduceCtorEq, putAt, unE, Nat.reduceBEq, convE, buildE, List.replicate, Int.reduceLT, Int.reduceLE, Int.reduceToNat, mkE, mapSetE, hN, hF, ty_3, ty_5, ty_9, ty_73, ty_120, notIf, isEq, h1, e1, h2, h1s, hs]
      refine ⟨n - (i + 1), _, by omega, ?_, i + 1, by omega, rfl, rfl⟩
      rw [hns]
      simp only [runB, finC, finD, AS.get, AS.mem, false_implies, implies_true, ↓reduceIte, Nat.reduceEqDiff, Option.isSome_some, Option.isSome_none, forall_eq_or_imp, forall_eq, reduceCtorEq, Nat.reduceAdd, Nat.reduceMul, List.zip_cons_cons, List.zip_nil_left, List.zip_nil_right, List.forall_mem_nil]
      first | done | simp
    · have h1 : decide ((i : Int) < (n : Int)) = false := by simpa using hlt
      obtain rfl : i = n := by omega
      simp only [runA, runB, runC, runD, runE, runF, fieldE, storeE, binE, ↓reduceIte, Nat.reduceLT, Nat.reduceLeDiff, Nat.reduceEqDiff, Nat.reduceAdd, Nat.reduceMul, Nat.reduceSub, reduceCtorEq, putAt, unE, Nat.reduceBEq, convE, buildE, List.replicate, Int.reduceLT, Int.reduceLE, Int.reduceToNat, mkE, mapSetE, hN, hF, ty_3, ty_5, ty_9, ty_73, ty_120, notIf, isEq, h1]
      simp only [runB, finC, finD, Option.isSome_some, Option.isSome_none, ↓reduceIte, Nat.reduceEqDiff, Nat.reduceAdd, Nat.reduceMul, forall_eq_or_imp, forall_eq, implies_true, Nat.reduceBEq, reduceCtorEq, false_implies, List.zip_cons_cons, List.zip_nil_left, List.zip_nil_right, Nat.reduceLeDiff, List.forall_mem_nil, rs_48]

def endedOK (l : List (List UInt8)) : Prop := l.flatten.length ≤ 1000000000 ∧ l.length ≤ 1000000000
noncomputable def endedC : Contract := mkC (α := List (List UInt8)) endedOK (fun l => [.c (.sl (texts l))]) (fun _ => []) (fun l => ⟨[.pv (.c (.str (shortS l.flatten)))], []⟩)
theorem ended_at (l : List (List UInt8)) (h : endedOK l) : endedC [.c (.sl (texts l))] [] = some ⟨[.pv (.c (.str (shortS l.flatten)))], []⟩ :=
  mkC_at (α := List (List UInt8)) l h (fun y _ h1 _ => by
    simp at h1
    rw [texts_inj h1])

set_option maxRecDepth 100000 in
set_option maxHeartbeats 1000000 in
theorem ended_sound (hΓ : SoundG Try.prog Γ) (h2 : Γ 59 = shortC) : SoundC Try.prog 50 endedC := by
  refine sound_fn Try.func50 (by kernel_rfl) rfl rfl ?_
  intro args objs r hr
  obtain ⟨l, ⟨hl1, hl2⟩, rfl, rfl, rfl⟩ := mkC_inv hr
  refine ⟨rfl, by show 1 ≤ _; decide, fun E hN hns hF => ?_⟩
  refine vc_sound hΓ mixed _ _ _ ?_
  have hN := hN.trans nt_50
  simp only [runA, runB, runC, runD, runE, runF, fieldE, storeE, binE, ↓reduceIte, Nat.reduceLT, Nat.reduceLeDiff, Nat.reduceEqDiff, Nat.reduceAdd, Nat.reduceMul, Nat.reduceSub, reduceCtorEq, putAt, unE, Nat.reduceBEq, convE, buildE, List.replicate, Int.reduceLT, Int.reduceLE, Int.reduceToNat, mkE, mapSetE, hN, hF, ty_3, ty_5, ty_9, ty_43, ty_73, ty_120, notIf, isEq, texts_length]
  refine AWP.loop (fun c st => ∃ i : Nat, i ≤ l.length ∧ c = l.length - i ∧ st = ⟨[(3, .own 897 1 (bytes (l.take i).flatten)), (6, .c (.sl (texts l))), (7, .c (.int .i64 (l.length : Int))), (8, .c (.int .i64 (i : Int)))], [(897, .row 1 (l.take i).flatten.length)]⟩) ⟨l.length, _, ?w, 0, Nat.zero_le _, rfl, rfl⟩ ?r
  case w =>
    rw [hns]
    simp only [runB, finC, finD, AS.get, AS.mem, false_implies, implies_true, ↓reduceIte, Nat.reduceEqDiff, Option.isSome_some, Option.isSome_none, forall_eq_or_imp, forall_eq, reduceCtorEq, Nat.reduceAdd, Nat.reduceMul, List.zip_cons_cons, List.zip_nil_left, List.zip_nil_right, List.forall_mem_nil]
    simp [bytes]
  case r =>
    rintro c st ⟨i, hi, rfl, rfl⟩
    refine vc_sound hΓ mixed _ _ _ ?_
    by_cases hlt : i < l.length
    · have h1 : decide ((i : Int) < (l.length : Int)) = true := by simpa using hlt
      obtain ⟨b, hb⟩ : ∃ b, l[i]? = some b := ⟨l[i], by simp [hlt]⟩
      have hbr : (texts l)[i]? = some [PC.str b] := by simp [texts, hb]
      have hs := flat_succ hb
      have hle := flat_take l (i + 1)
      rw [hs, List.length_append] at hle
      have e1 : IntKind.i64.wrap ((i : Int) + 1) = (i : Int) + 1 := wrapI (by omega)
      have hz := rowsOK_bytes
      have hL : (l.take i).flatten.length + b.length ≤ 140737488355328 := by omega
      simp only [runA, runB, runC, runD, runE, runF, fieldE, storeE, binE, ↓reduceIte, Nat.reduceLT, Nat.reduceLeDiff, Nat.reduceEqDiff, Nat.reduceAdd, Nat.reduceMul, Nat.reduceSub, reduceCtorEq, putAt, unE, Nat.reduceBEq, convE, buildE, List.replicate, Int.reduceLT, Int.reduceLE, Int.reduceToNat, mkE, mapSetE, hN, hF, ty_3, ty_5, ty_9, ty_43, ty_73, ty_120, notIf, isEq, h1, hbr, e1, hz, hL, bytes_length, bytes_app, ← hs]
      refine ⟨l.length - (i + 1), _, by omega, ?_, i + 1, by omega, rfl, rfl⟩
      rw [hns]
      simp only [runB, finC, finD, AS.get, AS.mem, false_implies, implies_true, ↓reduceIte, Nat.reduceEqDiff, Option.isSome_some, Option.isSome_none, forall_eq_or_imp, forall_eq, reduceCtorEq, Nat.reduceAdd, Nat.reduceMul, List.zip_cons_cons, List.zip_nil_left, List.zip_nil_right, List.forall_mem_nil]
      first | done | (rw [hs]; simp)
    · have h1 : decide ((i : Int) < (l.length : Int)) = false := by simpa using hlt
      obtain rfl : i = l.length := by omega
      have hs := short_at [l.flatten] ⟨by simp; rw [List.length_flatten] at hl1; omega, by simp⟩
      rw [show [l.flatten].flatten = l.flatten from by simp] at hs
      have h1s : [[PC.sl (bytes l.flatten)]] = slices [l.flatten] := rfl
      simp only [runA, runB, runC, runD, runE, runF, fieldE, storeE, binE, ↓reduceIte, Nat.reduceLT, Nat.reduceLeDiff, Nat.reduceEqDiff, Nat.reduceAdd, Nat.reduceMul, Nat.reduceSub, reduceCtorEq, putAt, unE, Nat.reduceBEq, convE, buildE, List.replicate, Int.reduceLT, Int.reduceLE, Int.reduceToNat, mkE, mapSetE, hN, hF, ty_3, ty_5, ty_9, ty_43, ty_73, ty_120, notIf, isEq, h1, h2, h1s, hs, List.take_length]
      simp only [runB, finC, finD, Option.isSome_some, Option.isSome_none, ↓reduceIte, Nat.reduceEqDiff, Nat.reduceAdd, Nat.reduceMul, forall_eq_or_imp, forall_eq, implies_true, Nat.reduceBEq, reduceCtorEq, false_implies, List.zip_cons_cons, List.zip_nil_left, List.zip_nil_right, Nat.reduceLeDiff, List.forall_mem_nil, rs_50]



variable {Γ : FuncId → Contract}


variable {Γ : FuncId → Contract}

structure Sgn where
  seed : List UInt8
  leaf : Int
  text : List UInt8
def all8 (parts : List (List UInt8)) : Prop := ∀ p ∈ parts, p.length = 8
instance (parts : List (List UInt8)) : Decidable (all8 parts) := inferInstanceAs (Decidable (∀ p ∈ parts, p.length = 8))
theorem ne8f {n : Nat} (h : n = 8) : ((n : Int) != 8) = false := by subst h; rfl
theorem ne8t {n : Nat} (h : n ≠ 8) : ((n : Int) != 8) = true := by
  rw [bne_iff_ne]
  omega
theorem textsD (l : List (List UInt8)) (i : Nat) (h : i < l.length) : (texts l)[i]? = some [.str (l.getD i [])] := by
  simp [texts, List.getD, h]

variable {Γ : FuncId → Contract}

def partsS (seed : List UInt8) (leaf : Int) (n : Nat) : List (List UInt8) := (List.range n).map fun i : Nat => chainS (secS seed leaf (i : Int)) 3
theorem partsS_succ (seed : List UInt8) (leaf : Int) (n : Nat) : partsS seed leaf (n + 1) = partsS seed leaf n ++ [chainS (secS seed leaf (n : Int)) 3] := by simp [partsS, List.range_succ]
theorem partsS_length (seed : List UInt8) (leaf : Int) (n : Nat) : (partsS seed leaf n).length = n := by simp [partsS]
theorem chain3_length (s : List UInt8) : (chainS s 3).length = 8 := shortS_length _
theorem partsS_flat (seed : List UInt8) (leaf : Int) : ∀ n, (partsS seed leaf n).flatten.length = 8 * n
  | 0 => rfl
  | n + 1 => by
    rw [partsS_succ, List.flatten_append, List.length_append, partsS_flat seed leaf n]
    simp [chain3_length]
    omega
def leafS (seed : List UInt8) (leaf : Int) : List UInt8 := shortS (partsS seed leaf 11).flatten

noncomputable def leafC : Contract := mkC (α := List UInt8 × Int) (fun p => p.1.length ≤ 1000000) (fun p => [.c (.str p.1), .c (.int .i64 p.2)]) (fun _ => []) (fun p => ⟨[.pv (.c (.str (leafS p.1 p.2)))], []⟩)
theorem leaf_at (s : List UInt8) (n : Int) (h : s.length ≤ 1000000) : leafC [.c (.str s), .c (.int .i64 n)] [] = some ⟨[.pv (.c (.str (leafS s n)))], []⟩ :=
  mkC_at (α := List UInt8 × Int) (s, n) h (by
    rintro ⟨a, b⟩ _ h _
    simp only [List.cons.injEq, AV.c.injEq, PC.int.injEq, PC.str.injEq, true_and, and_true] at h
    obtain ⟨rfl, rfl⟩ := h
    rfl)

theorem chain3_at (s : List UInt8) (h : s.length ≤ 1000000) : chainC [.c (.str s), .c (.int .i64 3)] [] = some ⟨[.pv (.c (.str (chainS s 3)))], []⟩ := chain_at s 3 h (by decide)

set_option maxRecDepth 100000 in
set_option maxHeartbeats 1000000 in
theorem leaf_sound (hΓ : SoundG Try.prog Γ) (h1 : Γ 49 = secC) (h2 : Γ 48 = chainC) (h3 : Γ 50 = endedC) : SoundC Try.prog 33 leafC := by
  refine sound_fn Try.func33 (by kernel_rfl) rfl rfl ?_
  intro args objs r hr
  obtain ⟨⟨s, n⟩, hl, rfl, rfl, rfl⟩ := mkC_inv hr
  refine ⟨rfl, by show 2 ≤ _; decide, fun E hN hns hF => ?_⟩
  refine vc_sound hΓ mixed _ _ _ ?_
  have hN := hN.trans nt_33
  dsimp only at hl ⊢
  simp only [runA, runB, runC, runD, runE, runF, fieldE, storeE, binE, ↓reduceIte, Nat.reduceLT, Nat.reduceLeDiff, Nat.reduceEqDiff, Nat.reduceAdd, Nat.reduceMul, Nat.reduceSub, reduceCtorEq, putAt, unE, Nat.reduceBEq, convE, buildE, List.replicate, Int.reduceLT, Int.reduceLE, Int.reduceToNat, mkE, mapSetE, hN, hF, ty_3, ty_9, ty_43, notIf, isEq]
  refine AWP.loop (fun c st => ∃ i : Nat, i ≤ 11 ∧ c = 11 - i ∧ st = ⟨[(0, .c (.str s)), (1, .c (.int .i64 n)), (5, .own 1089 1 (texts (partsS s n i))), (7, .c (.int .i64 (i : Int)))], [(1089, .row 1 i)]⟩) ⟨11, _, ?w, 0, Nat.zero_le _, rfl, rfl⟩ ?r
  case w =>
    rw [hns]
    simp only [runB, finC, finD, AS.get, AS.mem, false_implies, implies_true, ↓reduceIte, Nat.reduceEqDiff, Option.isSome_some, Option.isSome_none, forall_eq_or_imp, forall_eq, reduceCtorEq, Nat.reduceAdd, Nat.reduceMul, List.zip_cons_cons, List.zip_nil_left, List.zip_nil_right, List.forall_mem_nil]
    simp [partsS, texts]
  case r =>
    rintro c st ⟨i, hi, rfl, rfl⟩
    refine vc_sound hΓ mixed _ _ _ ?_
    have hpl := partsS_length s n i
    by_cases hlt : i < 11
    · have g1 : decide ((i : Int) < 11) = true := by simp; omega
      have e1 : IntKind.i64.wrap ((i : Int) + 1) = (i : Int) + 1 := wrapI (by omega)
      have hs := sec_at s n (i : Int) hl
      have hc := chain3_at (secS s n (i : Int)) (by unfold secS; rw [shortS_length]; decide)
      have hz := rowsOK_texts
      have hL : (i + 1) * 16 ≤ 140737488355328 := by omega
      have hsucc := partsS_succ s n i
      simp only [runA, runB, runC, runD, runE, runF, fieldE, storeE, binE, ↓reduceIte, Nat.reduceLT, Nat.reduceLeDiff, Nat.reduceEqDiff, Nat.reduceAdd, Nat.reduceMul, Nat.reduceSub, reduceCtorEq, putAt, unE, Nat.reduceBEq, convE, buildE, List.replicate, Int.reduceLT, Int.reduceLE, Int.reduceToNat, mkE, mapSetE, hN, hF, ty_3, ty_9, ty_43, notIf, isEq, g1, e1, h1, hs, h2, hc, texts1, texts_app, ← hsucc, hz, hL, texts_length, hpl]
      refine ⟨11 - (i + 1), _, by omega, ?_, i + 1, by omega, rfl, rfl⟩
      rw [hns]
      simp only [runB, finC, finD, AS.get, AS.mem, false_implies, implies_true, ↓reduceIte, Nat.reduceEqDiff, Option.isSome_some, Option.isSome_none, forall_eq_or_imp, forall_eq, reduceCtorEq, Nat.reduceAdd, Nat.reduceMul, List.zip_cons_cons, List.zip_nil_left, List.zip_nil_right, List.forall_mem_nil]
      first | done | simp
    · have g1 : decide ((i : Int) < 11) = false := by simp; omega
      obtain rfl : i = 11 := by omega
      have hf := partsS_flat s n 11
      have he := ended_at (partsS s n 11) ⟨by omega, by omega⟩
      simp only [runA, runB, runC, runD, runE, runF, fieldE, storeE, binE, ↓reduceIte, Nat.reduceLT, Nat.reduceLeDiff, Nat.reduceEqDiff, Nat.reduceAdd, Nat.reduceMul, Nat.reduceSub, reduceCtorEq, putAt, unE, Nat.reduceBEq, convE, buildE, List.replicate, Int.reduceLT, Int.reduceLE, Int.reduceToNat, mkE, mapSetE, hN, hF, ty_3, ty_9, ty_43, notIf, isEq, g1, h3, he]
      simp only [runB, finC, finD, Option.isSome_some, Option.isSome_none, ↓reduceIte, Nat.reduceEqDiff, Nat.reduceAdd, Nat.reduceMul, forall_eq_or_imp, forall_eq, implies_true, Nat.reduceBEq, reduceCtorEq, false_implies, List.zip_cons_cons, List.zip_nil_left, List.zip_nil_right, Nat.reduceLeDiff, List.forall_mem_nil, rs_33, leafS]

def leavesS (seed : List UInt8) (n : Nat) : List (List UInt8) := (List.range n).map fun i : Nat => leafS seed (i : Int)
theorem leavesS_succ (seed : List UInt8) (n : Nat) : leavesS seed (n + 1) = leavesS seed n ++ [leafS seed (n : Int)] := by simp [leavesS, List.range_succ]
theorem leavesS_length (seed : List UInt8) (n : Nat) : (leavesS seed n).length = n := by simp [leavesS]
def keyAV (seed : List UInt8) (leaves : List (List UInt8)) (next : Int) : AV := .agg [.c (.str seed), .c (.sl (texts leaves)), .c (.int .i64 next)]

noncomputable def newKeyC : Contract := mkC (α := List UInt8 × Nat) (fun p => p.1.length ≤ 64 ∧ p.2 ≤ 4) (fun p => [.c (.str p.1), .c (.int .i64 (p.2 : Int))]) (fun _ => []) (fun p => ⟨[.pv (keyAV p.1 (leavesS p.1 (2 ^ p.2)) 0), .pv (.c (.int .i64 0))], []⟩)
theorem newKey_at (s : List UInt8) (n : Nat) (h : s.length ≤ 64) (h4 : n ≤ 4) : newKeyC [.c (.str s), .c (.int .i64 (n : Int))] [] = some ⟨[.pv (keyAV s (leavesS s (2 ^ n)) 0), .pv (.c (.int .i64 0))], []⟩ :=
  mkC_at (α := List UInt8 × Nat) (s, n) ⟨h, h4⟩ (by
    rintro ⟨a, b⟩ _ h _
    simp only [List.cons.injEq, AV.c.injEq, PC.int.injEq, PC.str.injEq, true_and, and_true] at h
    obtain ⟨rfl, e⟩ := h
    obtain rfl : b = n := by omega
    rfl)

theorem shl_pow (h : Nat) (h4 : h ≤ 4) : shOp .shl .i64 1 (h : Int) = some (.int .i64 ((2 ^ h : Nat) : Int)) := by
  have : h = 0 ∨ h = 1 ∨ h = 2 ∨ h = 3 ∨ h = 4 := by omega
  rcases this with rfl | rfl | rfl | rfl | rfl <;> rfl

set_option maxRecDepth 100000 in
set_option maxHeartbeats 1000000 in
theorem newKey_sound (hΓ : SoundG Try.prog Γ) (h1 : Γ 33 = leafC) : SoundC Try.prog 19 newKeyC := by
  refine sound_fn Try.func19 (by kernel_rfl) rfl rfl ?_
  intro args objs r hr
  obtain ⟨⟨s, h⟩, ⟨hl, h4⟩, rfl, rfl, rfl⟩ := mkC_inv hr
  refine ⟨rfl, by show 2 ≤ _; decide, fun E hN hns hF => ?_⟩
  refine vc_sound hΓ mixed _ _ _ ?_
  have hN := hN.trans nt_19
  dsimp only at hl h4 ⊢
  have g1 : decide ((h : Int) < 0) = false := by simp
  have g2 : decide ((h : Int) > 4) = false := by simp; omega
  have g3 : decide ((s.length : Int) > 64) = false := by simp; omega
  have g4 := shl_pow h h4
  obtain ⟨m, hm⟩ : ∃ m, m = 2 ^ h := ⟨_, rfl⟩
  have hm16 : m ≤ 16 := by
    rw [hm]
    exact Nat.le_trans (Nat.pow_le_pow_right (by decide) h4) (by decide)
  rw [← hm] at g4 ⊢
  simp only [runA, runB, runC, runD, runE, runF, fieldE, storeE, binE, ↓reduceIte, Nat.reduceLT, Nat.reduceLeDiff, Nat.reduceEqDiff, Nat.reduceAdd, Nat.reduceMul, Nat.reduceSub, reduceCtorEq, putAt, unE, Nat.reduceBEq, convE, buildE, List.replicate, Int.reduceLT, Int.reduceLE, Int.reduceToNat, mkE, mapSetE, hN, hF, ty_3, ty_9, ty_27, ty_43, ty_61, notIf, isEq, g1, g2, g3, g4]
  refine AWP.loop (fun c st => ∃ i : Nat, i ≤ m ∧ c = m - i ∧ st = ⟨[(0, .c (.str s)), (4, .ptr 256 0), (6, .ptr 384 0), (24, .c (.int .i64 (m : Int))), (25, .c (.int .i64 (i : Int)))],
    [(256, .obj [.c (.str []), .nilsl, .c (.int .i64 0)] false), (384, .obj [.c (.str s), .own 2177 1 (texts (leavesS s i)), .c (.int .i64 0)] false), (2177, .row 1 i)]⟩) ⟨m, _, ?w, 0, Nat.zero_le _, rfl, rfl⟩ ?r
  case w =>
    rw [hns]
    simp only [runB, finC, finD, AS.get, AS.mem, false_implies, implies_true, ↓reduceIte, Nat.reduceEqDiff, Option.isSome_some, Option.isSome_none, forall_eq_or_imp, forall_eq, reduceCtorEq, Nat.reduceAdd, Nat.reduceMul, List.zip_cons_cons, List.zip_nil_left, List.zip_nil_right, List.forall_mem_nil]
    simp [leavesS, texts]
  case r =>
    rintro c st ⟨i, hi, rfl, rfl⟩
    refine vc_sound hΓ mixed _ _ _ ?_
    have hpl := leavesS_length s i
    by_cases hlt : i < m
    · have k1 : decide ((i : Int) < (m : Int)) = true := by simpa using hlt
      have e1 : IntKind.i64.wrap ((i : Int) + 1) = (i : Int) + 1 := wrapI (by omega)
      have hs := leaf_at s (i : Int) (by omega)
      have hz := rowsOK_texts
      have hL : (i + 1) * 16 ≤ 140737488355328 := by omega
      have hsucc := leavesS_succ s i
      simp only [runA, runB, runC, runD, runE, runF, fieldE, storeE, binE, ↓reduceIte, Nat.reduceLT, Nat.reduceLeDiff, Nat.reduceEqDiff, Nat.reduceAdd, Nat.reduceMul, Nat.reduceSub, reduceCtorEq, putAt, unE, Nat.reduceBEq, convE, buildE, List.replicate, Int.reduceLT, Int.reduceLE, Int.reduceToNat, mkE, mapSetE, hN, hF, ty_3, ty_9, ty_27, ty_43, ty_61, notIf, isEq, k1, e1, h1, hs, texts1, texts_app, ← hsucc, hz, hL, texts_length, hpl]
      refine drawnP_intro (by kernel_rfl) (by kernel_rfl) ?_
      simp only [runA, runB, runC, runD, runE, runF, fieldE, storeE, binE, ↓reduceIte, Nat.reduceLT, Nat.reduceLeDiff, Nat.reduceEqDiff, Nat.reduceAdd, Nat.reduceMul, Nat.reduceSub, reduceCtorEq, putAt, unE, Nat.reduceBEq, convE, buildE, List.replicate, Int.reduceLT, Int.reduceLE, Int.reduceToNat, mkE, mapSetE, hN, hF, ty_3, ty_9, ty_27, ty_43, ty_61, notIf, isEq, e1]
      refine ⟨m - (i + 1), _, by omega, ?_, i + 1, by omega, rfl, rfl⟩
      rw [hns]
      simp only [runB, finC, finD, AS.get, AS.mem, false_implies, implies_true, ↓reduceIte, Nat.reduceEqDiff, Option.isSome_some, Option.isSome_none, forall_eq_or_imp, forall_eq, reduceCtorEq, Nat.reduceAdd, Nat.reduceMul, List.zip_cons_cons, List.zip_nil_left, List.zip_nil_right, List.forall_mem_nil]
      first | done | simp
    · have k1 : decide ((i : Int) < (m : Int)) = false := by simpa using hlt
      obtain rfl : i = m := by omega
      simp only [runA, runB, runC, runD, runE, runF, fieldE, storeE, binE, ↓reduceIte, Nat.reduceLT, Nat.reduceLeDiff, Nat.reduceEqDiff, Nat.reduceAdd, Nat.reduceMul, Nat.reduceSub, reduceCtorEq, putAt, unE, Nat.reduceBEq, convE, buildE, List.replicate, Int.reduceLT, Int.reduceLE, Int.reduceToNat, mkE, mapSetE, hN, hF, ty_3, ty_9, ty_27, ty_43, ty_61, notIf, isEq, k1]
      simp only [runB, finC, finD, Option.isSome_some, Option.isSome_none, ↓reduceIte, Nat.reduceEqDiff, Nat.reduceAdd, Nat.reduceMul, forall_eq_or_imp, forall_eq, implies_true, Nat.reduceBEq, reduceCtorEq, false_implies, List.zip_cons_cons, List.zip_nil_left, List.zip_nil_right, Nat.reduceLeDiff, List.forall_mem_nil, rs_19, agg_61, sz_61, keyAV]

end Go.Proofs.Ytofkehedjcinhaa.AM
