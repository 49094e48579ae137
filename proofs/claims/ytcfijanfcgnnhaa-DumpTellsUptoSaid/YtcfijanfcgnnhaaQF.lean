/-
  QF: Dt1 Dt2 Dt3.
-/
import Derived.Test.YtcfijanfcgnnhaaQ4
import Derived.Test.YtcfijanfcgnnhaaQ6
import Derived.Test.YtcfijanfcgnnhaaQ9
import Derived.Test.YtcfijanfcgnnhaaQE
set_option linter.unusedVariables false
set_option linter.unusedSimpArgs false
namespace Go.Proofs.Ytcfijanfcgnnhaa.AM
open Go

variable {Γ : FuncId → Contract}

def decN (n : Nat) : List UInt8 := if n < 10 then [UInt8.ofNat (48 + n)] else decN (n / 10) ++ [UInt8.ofNat (48 + n % 10)]
termination_by n
decreasing_by omega
def decS (n : Int) : List UInt8 := decN n.toNat
theorem decN_lt {n : Nat} (h : n < 10) : decN n = [UInt8.ofNat (48 + n)] := by rw [decN, if_pos h]
theorem decN_ge {n : Nat} (h : ¬ n < 10) : decN n = decN (n / 10) ++ [UInt8.ofNat (48 + n % 10)] := by rw [decN, if_neg h]
theorem decN_len : ∀ (k n : Nat), n < 10 ^ k → (decN n).length ≤ k + 1
  | 0, n, h => by rw [decN_lt (by simp at h; omega)]; simp
  | k + 1, n, h => by
    by_cases h10 : n < 10
    · rw [decN_lt h10]; simp
    · rw [decN_ge h10, List.length_append]
      have := decN_len k (n / 10) (by rw [Nat.pow_succ] at h; omega)
      simp only [List.length_cons, List.length_nil]; omega
theorem dig_wrap {n : Nat} (h : n < 10) : IntKind.u8.wrap (48 + (n : Int)) = ((UInt8.ofNat (48 + n)).toNat : Int) := by
  rw [wrapB, UInt8.toNat_ofNat']; omega
noncomputable def decC (k : Nat) : Contract := mkC (α := Int) (fun n => 0 ≤ n ∧ n < ((10 ^ k : Nat) : Int)) (fun n => [.c (.int .i64 n)]) (fun _ => []) (fun n => ⟨[.pv (.c (.str (decS n)))], []⟩)
theorem dec_at (k : Nat) (n : Int) (h : 0 ≤ n ∧ n < ((10 ^ k : Nat) : Int)) : decC k [.c (.int .i64 n)] [] = some ⟨[.pv (.c (.str (decS n)))], []⟩ :=
  mkC_at (α := Int) n h (by
    rintro y _ h _
    simp only [List.cons.injEq, AV.c.injEq, PC.int.injEq, true_and, and_true] at h
    rw [h])
set_option maxRecDepth 100000 in
set_option maxHeartbeats 4000000 in
theorem decR_step (k : Nat) (hk : k ≤ 14) (hΓ : SoundG Try.prog Γ) (h1 : Γ 25 = decC k) : SoundC Try.prog 25 (decC (k + 1)) := by
  refine sound_fn Try.func25 (by kernel_rfl) rfl rfl ?_
  intro args objs r0 hr
  obtain ⟨n, ⟨h0, hn⟩, rfl, rfl, rfl⟩ := mkC_inv hr
  refine ⟨rfl, by show 1 ≤ _; decide, fun E hN hns hF => ?_⟩
  refine vc_sound hΓ mixed _ _ _ ?_
  have hN := hN.trans nt_25
  obtain ⟨m, rfl⟩ : ∃ m : Nat, n = (m : Int) := ⟨n.toNat, by omega⟩
  have hp : (10 : Nat) ^ (k + 1) ≤ 10 ^ 15 := Nat.pow_le_pow_right (by decide) (by omega)
  have hn2 : m < 10 ^ (k + 1) := by exact_mod_cast hn
  have hm : m < 1000000000000000 := Nat.lt_of_lt_of_le hn2 hp
  have hd : decS (m : Int) = decN m := by unfold decS; rw [Int.toNat_natCast]
  rw [hd]
  have e10 : ((10 : Int) = 0) = False := by simp
  by_cases h10 : m < 10
  · have k1 : decide ((m : Int) < 10) = true := decide_eq_true (by omega)
    have w0 : IntKind.i64.wrap (48 + (m : Int)) = 48 + (m : Int) := wrapI (by omega)
    have w1 := dig_wrap h10
    have b1 : bytesOf [[PC.int .u8 ((UInt8.ofNat (48 + m)).toNat : Int)]] = some [UInt8.ofNat (48 + m)] := by
      simp only [bytesOf, Int.toNat_natCast, UInt8.ofNat_toNat]
    rw [decN_lt h10]
    simp only [runA, runB, runC, runD, runE, runF, fieldE, storeE, binE, ↓reduceIte, Nat.reduceLT, Nat.reduceLeDiff, Nat.reduceEqDiff, Nat.reduceAdd, Nat.reduceMul, Nat.reduceSub, reduceCtorEq, putAt, unE, Nat.reduceBEq, convE, buildE, List.replicate, Int.reduceLT, Int.reduceLE, Int.reduceToNat, mkE, mapSetE, hN, hF, ty_3, ty_5, ty_9, ty_27, notIf, isEq, k1, w0, w1, b1]
    iterate 2 (try (refine drawnP_intro (by kernel_rfl) (by kernel_rfl) ?_; simp only [runA, runB, runC, runD, runE, runF, fieldE, storeE, binE, ↓reduceIte, Nat.reduceLT, Nat.reduceLeDiff, Nat.reduceEqDiff, Nat.reduceAdd, Nat.reduceMul, Nat.reduceSub, reduceCtorEq, putAt, unE, Nat.reduceBEq, convE, buildE, List.replicate, Int.reduceLT, Int.reduceLE, Int.reduceToNat, mkE, mapSetE, hN, hF, ty_3, ty_5, ty_9, ty_27, notIf, isEq, k1, w0, w1, b1]))
    simp only [runB, finC, finD, Option.isSome_some, Option.isSome_none, ↓reduceIte, Nat.reduceEqDiff, Nat.reduceAdd, Nat.reduceMul, forall_eq_or_imp, forall_eq, implies_true, Nat.reduceBEq, reduceCtorEq, false_implies, List.zip_cons_cons, List.zip_nil_left, List.zip_nil_right, Nat.reduceLeDiff, List.forall_mem_nil, rs_25]
  · have k1 : decide ((m : Int) < 10) = false := decide_eq_false (by omega)
    have hq : ((m : Int)).tdiv 10 = ((m / 10 : Nat) : Int) := by rw [Int.tdiv_eq_ediv_of_nonneg (by omega)]; rfl
    have hr : ((m : Int)).tmod 10 = ((m % 10 : Nat) : Int) := by rw [Int.tmod_eq_emod_of_nonneg (by omega)]; rfl
    have q1 := dec_at k ((m / 10 : Nat) : Int) ⟨by omega, by rw [Nat.pow_succ] at hn2; omega⟩
    rw [show decS ((m / 10 : Nat) : Int) = decN (m / 10) from by unfold decS; rw [Int.toNat_natCast]] at q1
    have w2 : IntKind.i64.wrap ((m / 10 : Nat) : Int) = ((m / 10 : Nat) : Int) := wrapI (by omega)
    have w0 : IntKind.i64.wrap (48 + ((m % 10 : Nat) : Int)) = 48 + ((m % 10 : Nat) : Int) := wrapI (by omega)
    have w1 := dig_wrap (n := m % 10) (by omega)
    have b1 : bytesOf [[PC.int .u8 ((UInt8.ofNat (48 + m % 10)).toNat : Int)]] = some [UInt8.ofNat (48 + m % 10)] := by
      simp only [bytesOf, Int.toNat_natCast, UInt8.ofNat_toNat]
    rw [decN_ge h10]
    have hdl : ((decN (m / 10)).length ≤ 9223372036854775806) = True := eq_true (by
      have := decN_len k (m / 10) (by rw [Nat.pow_succ] at hn2; omega)
      omega)
    generalize m / 10 = a at *
    generalize m % 10 = c at *
    simp only [runA, runB, runC, runD, runE, runF, fieldE, storeE, binE, ↓reduceIte, Nat.reduceLT, Nat.reduceLeDiff, Nat.reduceEqDiff, Nat.reduceAdd, Nat.reduceMul, Nat.reduceSub, reduceCtorEq, putAt, unE, Nat.reduceBEq, convE, buildE, List.replicate, Int.reduceLT, Int.reduceLE, Int.reduceToNat, mkE, mapSetE, hN, hF, ty_3, ty_5, ty_9, ty_27, notIf, isEq, k1, e10, hq, hr, w0, w1, w2, b1, h1, q1, hdl]
    iterate 3 (try (refine drawnP_intro (by kernel_rfl) (by kernel_rfl) ?_; simp only [runA, runB, runC, runD, runE, runF, fieldE, storeE, binE, ↓reduceIte, Nat.reduceLT, Nat.reduceLeDiff, Nat.reduceEqDiff, Nat.reduceAdd, Nat.reduceMul, Nat.reduceSub, reduceCtorEq, putAt, unE, Nat.reduceBEq, convE, buildE, List.replicate, Int.reduceLT, Int.reduceLE, Int.reduceToNat, mkE, mapSetE, hN, hF, ty_3, ty_5, ty_9, ty_27, notIf, isEq, k1, e10, hq, hr, w0, w1, w2, b1, h1, q1, hdl]))
    simp only [runB, finC, finD, Option.isSome_some, Option.isSome_none, ↓reduceIte, Nat.reduceEqDiff, Nat.reduceAdd, Nat.reduceMul, forall_eq_or_imp, forall_eq, implies_true, Nat.reduceBEq, reduceCtorEq, false_implies, List.zip_cons_cons, List.zip_nil_left, List.zip_nil_right, Nat.reduceLeDiff, List.forall_mem_nil, rs_25]
set_option maxRecDepth 100000 in
set_option maxHeartbeats 4000000 in
theorem decR_zero : SoundC Try.prog 25 (decC 1) := by
  refine sound_fn Try.func25 (by kernel_rfl) rfl rfl ?_
  intro args objs r0 hr
  obtain ⟨n, ⟨h0, hn⟩, rfl, rfl, rfl⟩ := mkC_inv hr
  refine ⟨rfl, by show 1 ≤ _; decide, fun E hN hns hF => ?_⟩
  refine vc_sound none0_sound mixed _ _ _ ?_
  have hN := hN.trans nt_25
  obtain ⟨m, rfl⟩ : ∃ m : Nat, n = (m : Int) := ⟨n.toNat, by omega⟩
  have h10 : m < 10 := by have : (m : Int) < 10 := hn; omega
  have hd : decS (m : Int) = decN m := by unfold decS; rw [Int.toNat_natCast]
  rw [hd]
  have k1 : decide ((m : Int) < 10) = true := decide_eq_true (by omega)
  have w0 : IntKind.i64.wrap (48 + (m : Int)) = 48 + (m : Int) := wrapI (by omega)
  have w1 := dig_wrap h10
  have b1 : bytesOf [[PC.int .u8 ((UInt8.ofNat (48 + m)).toNat : Int)]] = some [UInt8.ofNat (48 + m)] := by
    simp only [bytesOf, Int.toNat_natCast, UInt8.ofNat_toNat]
  rw [decN_lt h10]
  simp only [runA, runB, runC, runD, runE, runF, fieldE, storeE, binE, ↓reduceIte, Nat.reduceLT, Nat.reduceLeDiff, Nat.reduceEqDiff, Nat.reduceAdd, Nat.reduceMul, Nat.reduceSub, reduceCtorEq, putAt, unE, Nat.reduceBEq, convE, buildE, List.replicate, Int.reduceLT, Int.reduceLE, Int.reduceToNat, mkE, mapSetE, hN, hF, ty_3, ty_5, ty_9, ty_27, notIf, isEq, k1, w0, w1, b1]
  iterate 2 (try (refine drawnP_intro (by kernel_rfl) (by kernel_rfl) ?_; simp only [runA, runB, runC, runD, runE, runF, fieldE, storeE, binE, ↓reduceIte, Nat.reduceLT, Nat.reduceLeDiff, Nat.reduceEqDiff, Nat.reduceAdd, Nat.reduceMul, Nat.reduceSub, reduceCtorEq, putAt, unE, Nat.reduceBEq, convE, buildE, List.replicate, Int.reduceLT, Int.reduceLE, Int.reduceToNat, mkE, mapSetE, hN, hF, ty_3, ty_5, ty_9, ty_27, notIf, isEq, k1, w0, w1, b1]))
  simp only [runB, finC, finD, Option.isSome_some, Option.isSome_none, ↓reduceIte, Nat.reduceEqDiff, Nat.reduceAdd, Nat.reduceMul, forall_eq_or_imp, forall_eq, implies_true, Nat.reduceBEq, reduceCtorEq, false_implies, List.zip_cons_cons, List.zip_nil_left, List.zip_nil_right, Nat.reduceLeDiff, List.forall_mem_nil, rs_25]
theorem decR_all : ∀ k, k ≤ 14 → SoundC Try.prog 25 (decC (k + 1))
  | 0, _ => decR_zero
  | k + 1, h => decR_step (k + 1) h (ext_sound none0_sound (decR_all k (by omega))) rfl
noncomputable def dec13C : Contract := decC 13
theorem dec13_at (n : Int) (h0 : 0 ≤ n) (h1 : n ≤ 1099511627776) : dec13C [.c (.int .i64 n)] [] = some ⟨[.pv (.c (.str (decS n)))], []⟩ := dec_at 13 n ⟨h0, by show n < 10000000000000; omega⟩
theorem decR_sound : SoundC Try.prog 25 dec13C := decR_all 12 (by decide)


variable {Γ : FuncId → Contract}

set_option maxRecDepth 100000 in
set_option maxHeartbeats 4000000 in
theorem decP_sound : SoundC Try.prog 79 dec13C := by
  refine sound_fn Try.func79 (by kernel_rfl) rfl rfl ?_
  intro args objs r0 hr
  obtain ⟨n, ⟨h0, hn⟩, rfl, rfl, rfl⟩ := mkC_inv (show mkC _ _ _ _ _ _ = some _ from (show decC 13 args objs = some r0 from hr))
  refine ⟨rfl, by show 1 ≤ _; decide, fun E hN hns hF => ?_⟩
  refine vc_sound none0_sound mixed _ _ _ ?_
  have hN := hN.trans nt_79
  obtain ⟨m0, rfl⟩ : ∃ m : Nat, n = (m : Int) := ⟨n.toNat, by omega⟩
  have hn2 : m0 < 10 ^ 13 := by exact_mod_cast hn
  have hd : decS (m0 : Int) = decN m0 := by unfold decS; rw [Int.toNat_natCast]
  rw [hd]
  have e10 : ((10 : Int) = 0) = False := by simp
  have hz0 : rowsOK 1 ([] : List (List PC)) := fun _ h => by cases h
  simp only [runA, runB, runC, runD, runE, runF, fieldE, storeE, binE, ↓reduceIte, Nat.reduceLT, Nat.reduceLeDiff, Nat.reduceEqDiff, Nat.reduceAdd, Nat.reduceMul, Nat.reduceSub, reduceCtorEq, putAt, unE, Nat.reduceBEq, convE, buildE, List.replicate, Int.reduceLT, Int.reduceLE, Int.reduceToNat, mkE, mapSetE, hN, hF, ty_3, ty_5, ty_9, ty_27, notIf, isEq]
  refine AWP.loop (fun c st => ∃ (m k : Nat) (b : List UInt8), m < 10 ^ k ∧ k + b.length ≤ 13 ∧ c = k ∧ decN m0 = decN m ++ b ∧ st = ⟨[(0, .c (.int .i64 (m : Int))), (2, .c (.str [])), (3, if b = [] then .nilsl else .c (.sl (bytes b)))], []⟩) ⟨13, _, ?w, m0, 13, [], hn2, by simp, rfl, by simp, rfl⟩ ?r
  case w =>
    rw [hns]
    simp only [runB, finC, finD, AS.get, AS.mem, false_implies, implies_true, ↓reduceIte, Nat.reduceEqDiff, Option.isSome_some, Option.isSome_none, forall_eq_or_imp, forall_eq, reduceCtorEq, Nat.reduceAdd, Nat.reduceMul, List.zip_cons_cons, List.zip_nil_left, List.zip_nil_right, List.forall_mem_nil]
    first | done | simp
  case r =>
    rintro c st ⟨m, k, b, hm, hkb, rfl, hdb, rfl⟩
    refine vc_sound none0_sound mixed _ _ _ ?_
    rw [hdb]
    have hm13 : m < 10000000000000 := by
      have h13 : (10 : Nat) ^ c ≤ 10 ^ 13 := Nat.pow_le_pow_right (by decide) (by omega)
      have h14 : (10 : Nat) ^ 13 = 10000000000000 := by decide
      omega
    by_cases h10 : m < 10
    · have k1 : decide ((m : Int) ≥ 10) = false := decide_eq_false (by omega)
      have w0 : IntKind.i64.wrap (48 + (m : Int)) = 48 + (m : Int) := wrapI (by omega)
      have w1 := dig_wrap h10
      rw [decN_lt h10]
      by_cases hb : b = []
      · subst hb
        have b1 : bytesOf [[PC.int .u8 ((UInt8.ofNat (48 + m)).toNat : Int)]] = some [UInt8.ofNat (48 + m)] := by
          simp only [bytesOf, Int.toNat_natCast, UInt8.ofNat_toNat]
        simp only [runA, runB, runC, runD, runE, runF, fieldE, storeE, binE, ↓reduceIte, Nat.reduceLT, Nat.reduceLeDiff, Nat.reduceEqDiff, Nat.reduceAdd, Nat.reduceMul, Nat.reduceSub, reduceCtorEq, putAt, unE, Nat.reduceBEq, convE, buildE, List.replicate, Int.reduceLT, Int.reduceLE, Int.reduceToNat, mkE, mapSetE, hN, hF, ty_3, ty_5, ty_9, ty_27, notIf, isEq, k1, w0, w1, b1, hz0]
        iterate 2 (try (refine drawnP_intro (by kernel_rfl) (by kernel_rfl) ?_; simp only [runA, runB, runC, runD, runE, runF, fieldE, storeE, binE, ↓reduceIte, Nat.reduceLT, Nat.reduceLeDiff, Nat.reduceEqDiff, Nat.reduceAdd, Nat.reduceMul, Nat.reduceSub, reduceCtorEq, putAt, unE, Nat.reduceBEq, convE, buildE, List.replicate, Int.reduceLT, Int.reduceLE, Int.reduceToNat, mkE, mapSetE, hN, hF, ty_3, ty_5, ty_9, ty_27, notIf, isEq, k1, w0, w1, b1, hz0]))
        simp only [runB, finC, finD, Option.isSome_some, Option.isSome_none, ↓reduceIte, Nat.reduceEqDiff, Nat.reduceAdd, Nat.reduceMul, forall_eq_or_imp, forall_eq, implies_true, Nat.reduceBEq, reduceCtorEq, false_implies, List.zip_cons_cons, List.zip_nil_left, List.zip_nil_right, Nat.reduceLeDiff, List.forall_mem_nil, rs_79]
      · have b1 : bytesOf ([PC.int .u8 ((UInt8.ofNat (48 + m)).toNat : Int)] :: bytes b) = some ([UInt8.ofNat (48 + m)] ++ b) := bytesOf_bytes ([UInt8.ofNat (48 + m)] ++ b)
        have hz := rowsOK_bytes b
        have hbl := bytes_length b
        have hLb : (1 + b.length ≤ 140737488355328) = True := eq_true (by omega)
        rw [if_neg hb]
        simp only [runA, runB, runC, runD, runE, runF, fieldE, storeE, binE, ↓reduceIte, Nat.reduceLT, Nat.reduceLeDiff, Nat.reduceEqDiff, Nat.reduceAdd, Nat.reduceMul, Nat.reduceSub, reduceCtorEq, putAt, unE, Nat.reduceBEq, convE, buildE, List.replicate, Int.reduceLT, Int.reduceLE, Int.reduceToNat, mkE, mapSetE, hN, hF, ty_3, ty_5, ty_9, ty_27, notIf, isEq, k1, w0, w1, b1, hz, hbl, hLb]
        iterate 2 (try (refine drawnP_intro (by kernel_rfl) (by kernel_rfl) ?_; simp only [runA, runB, runC, runD, runE, runF, fieldE, storeE, binE, ↓reduceIte, Nat.reduceLT, Nat.reduceLeDiff, Nat.reduceEqDiff, Nat.reduceAdd, Nat.reduceMul, Nat.reduceSub, reduceCtorEq, putAt, unE, Nat.reduceBEq, convE, buildE, List.replicate, Int.reduceLT, Int.reduceLE, Int.reduceToNat, mkE, mapSetE, hN, hF, ty_3, ty_5, ty_9, ty_27, notIf, isEq, k1, w0, w1, b1, hz, hbl, hLb]))
        simp only [runB, finC, finD, Option.isSome_some, Option.isSome_none, ↓reduceIte, Nat.reduceEqDiff, Nat.reduceAdd, Nat.reduceMul, forall_eq_or_imp, forall_eq, implies_true, Nat.reduceBEq, reduceCtorEq, false_implies, List.zip_cons_cons, List.zip_nil_left, List.zip_nil_right, Nat.reduceLeDiff, List.forall_mem_nil, rs_79]
    · have k1 : decide ((m : Int) ≥ 10) = true := decide_eq_true (by omega)
      have hc : c ≠ 0 := by rintro rfl; simp at hm; omega
      obtain ⟨k', rfl⟩ : ∃ k', c = k' + 1 := ⟨c - 1, by omega⟩
      have hq : ((m : Int)).tdiv 10 = ((m / 10 : Nat) : Int) := by rw [Int.tdiv_eq_ediv_of_nonneg (by omega)]; rfl
      have hr2 : ((m : Int)).tmod 10 = ((m % 10 : Nat) : Int) := by rw [Int.tmod_eq_emod_of_nonneg (by omega)]; rfl
      have w2 : IntKind.i64.wrap ((m / 10 : Nat) : Int) = ((m / 10 : Nat) : Int) := wrapI (by omega)
      have w0 : IntKind.i64.wrap (48 + ((m % 10 : Nat) : Int)) = 48 + ((m % 10 : Nat) : Int) := wrapI (by omega)
      have w1 := dig_wrap (n := m % 10) (by omega)
      have hbc : [PC.int .u8 ((UInt8.ofNat (48 + m % 10)).toNat : Int)] :: bytes b = bytes (UInt8.ofNat (48 + m % 10) :: b) := rfl
      have hdn := decN_ge h10
      by_cases hb : b = []
      · subst hb
        rw [if_pos rfl]
        simp only [runA, runB, runC, runD, runE, runF, fieldE, storeE, binE, ↓reduceIte, Nat.reduceLT, Nat.reduceLeDiff, Nat.reduceEqDiff, Nat.reduceAdd, Nat.reduceMul, Nat.reduceSub, reduceCtorEq, putAt, unE, Nat.reduceBEq, convE, buildE, List.replicate, Int.reduceLT, Int.reduceLE, Int.reduceToNat, mkE, mapSetE, hN, hF, ty_3, ty_5, ty_9, ty_27, notIf, isEq, k1, e10, hq, hr2, w0, w1, w2, hz0]
        iterate 2 (try (refine drawnP_intro (by kernel_rfl) (by kernel_rfl) ?_; simp only [runA, runB, runC, runD, runE, runF, fieldE, storeE, binE, ↓reduceIte, Nat.reduceLT, Nat.reduceLeDiff, Nat.reduceEqDiff, Nat.reduceAdd, Nat.reduceMul, Nat.reduceSub, reduceCtorEq, putAt, unE, Nat.reduceBEq, convE, buildE, List.replicate, Int.reduceLT, Int.reduceLE, Int.reduceToNat, mkE, mapSetE, hN, hF, ty_3, ty_5, ty_9, ty_27, notIf, isEq, k1, e10, hq, hr2, w0, w1, w2, hz0]))
        refine ⟨k', _, by omega, ?_, m / 10, k', [UInt8.ofNat (48 + m % 10)], by rw [Nat.pow_succ] at hm; omega, by simp at hkb ⊢; omega, rfl, by simp [hdn], rfl⟩
        rw [hns]
        simp only [runB, finC, finD, AS.get, AS.mem, false_implies, implies_true, ↓reduceIte, Nat.reduceEqDiff, Option.isSome_some, Option.isSome_none, forall_eq_or_imp, forall_eq, reduceCtorEq, Nat.reduceAdd, Nat.reduceMul, List.zip_cons_cons, List.zip_nil_left, List.zip_nil_right, List.forall_mem_nil, bytes, List.map_cons, List.map_nil]
        first | done | simp
      · have hz := rowsOK_bytes b
        have hbl := bytes_length b
        have hLb : (1 + b.length ≤ 140737488355328) = True := eq_true (by omega)
        rw [if_neg hb]
        simp only [runA, runB, runC, runD, runE, runF, fieldE, storeE, binE, ↓reduceIte, Nat.reduceLT, Nat.reduceLeDiff, Nat.reduceEqDiff, Nat.reduceAdd, Nat.reduceMul, Nat.reduceSub, reduceCtorEq, putAt, unE, Nat.reduceBEq, convE, buildE, List.replicate, Int.reduceLT, Int.reduceLE, Int.reduceToNat, mkE, mapSetE, hN, hF, ty_3, ty_5, ty_9, ty_27, notIf, isEq, k1, e10, hq, hr2, w0, w1, w2, hz, hbl, hLb, hbc]
        iterate 2 (try (refine drawnP_intro (by kernel_rfl) (by kernel_rfl) ?_; simp only [runA, runB, runC, runD, runE, runF, fieldE, storeE, binE, ↓reduceIte, Nat.reduceLT, Nat.reduceLeDiff, Nat.reduceEqDiff, Nat.reduceAdd, Nat.reduceMul, Nat.reduceSub, reduceCtorEq, putAt, unE, Nat.reduceBEq, convE, buildE, List.replicate, Int.reduceLT, Int.reduceLE, Int.reduceToNat, mkE, mapSetE, hN, hF, ty_3, ty_5, ty_9, ty_27, notIf, isEq, k1, e10, hq, hr2, w0, w1, w2, hz, hbl, hLb, hbc]))
        refine ⟨k', _, by omega, ?_, m / 10, k', UInt8.ofNat (48 + m % 10) :: b, by rw [Nat.pow_succ] at hm; omega, by simp at hkb ⊢; omega, rfl, by simp [hdn], rfl⟩
        rw [hns]
        simp only [runB, finC, finD, AS.get, AS.mem, false_implies, implies_true, ↓reduceIte, Nat.reduceEqDiff, Option.isSome_some, Option.isSome_none, forall_eq_or_imp, forall_eq, reduceCtorEq, Nat.reduceAdd, Nat.reduceMul, List.zip_cons_cons, List.zip_nil_left, List.zip_nil_right, List.forall_mem_nil]
        first | done | simp


variable {Γ : FuncId → Contract}

theorem sl16 : ∀ n : Fin 16, (letters.take (n.1 + 1)).drop n.1 = [hx n.1] := by decide
theorem sl_let {n : Nat} (h : n < 16) : sliceE Try.prog 9 (.c (.str [48, 49, 50, 51, 52, 53, 54, 55, 56, 57, 97, 98, 99, 100, 101, 102])) (some (.c (.int .u8 (n : Int)))) (some (.c (.int .u8 ((n : Int) + 1)))) none = some (.c (.str [hx n])) := by
  have ht : tyStr Try.prog 9 = true := by kernel_rfl
  have h1 := sl16 ⟨n, h⟩
  dsimp only at h1
  have e : ((n : Int) + 1).toNat = n + 1 := by omega
  unfold sliceE
  simp only [ht, boundE]
  rw [if_pos ⟨by omega, by omega, by show (n : Int) + 1 ≤ ((16 : Nat) : Int); omega⟩, e, Int.toNat_natCast]
  unfold letters at h1
  rw [h1]
theorem hexL_take (l : List UInt8) (i : Nat) (h : i < l.length) : hexL (l.take (i + 1)) = hexL (l.take i) ++ [hx ((l.getD i 0).toNat / 16)] ++ [hx ((l.getD i 0).toNat % 16)] := by
  rw [List.take_add_one, List.getElem?_eq_getElem h, hexL_append, List.getD_eq_getElem?_getD, List.getElem?_eq_getElem h, List.append_assoc]
  rfl

set_option maxRecDepth 100000 in
set_option maxHeartbeats 4000000 in
theorem hexR_sound  : SoundC Try.prog 26 hexC := by
  refine sound_fn Try.func26 (by kernel_rfl) rfl rfl ?_
  intro args objs r0 hr
  obtain ⟨l, hl, rfl, rfl, rfl⟩ := mkC_inv hr
  refine ⟨rfl, by show 1 ≤ _; decide, fun E hN hns hF => ?_⟩
  refine vc_sound none0_sound mixed _ _ _ ?_
  have hN := hN.trans nt_26
  have hl : l.length ≤ 17592186044416 := hl
  by_cases h : l = []
  · subst h
    have b0 : (([] : List UInt8) == []) = true := rfl
    rw [show hexS [] = [46] from rfl]
    simp only [runA, runB, runC, runD, runE, runF, fieldE, storeE, binE, ↓reduceIte, Nat.reduceLT, Nat.reduceLeDiff, Nat.reduceEqDiff, Nat.reduceAdd, Nat.reduceMul, Nat.reduceSub, reduceCtorEq, putAt, unE, Nat.reduceBEq, convE, buildE, List.replicate, Int.reduceLT, Int.reduceLE, Int.reduceToNat, mkE, mapSetE, hN, hF, ty_3, ty_5, ty_9, notIf, isEq, b0]
    simp only [runB, finC, finD, Option.isSome_some, Option.isSome_none, ↓reduceIte, Nat.reduceEqDiff, Nat.reduceAdd, Nat.reduceMul, forall_eq_or_imp, forall_eq, implies_true, Nat.reduceBEq, reduceCtorEq, false_implies, List.zip_cons_cons, List.zip_nil_left, List.zip_nil_right, Nat.reduceLeDiff, List.forall_mem_nil, rs_26]
  have b0 : (l == []) = false := by simpa using h
  rw [show hexS l = hexL l from if_neg h]
  simp only [runA, runB, runC, runD, runE, runF, fieldE, storeE, binE, ↓reduceIte, Nat.reduceLT, Nat.reduceLeDiff, Nat.reduceEqDiff, Nat.reduceAdd, Nat.reduceMul, Nat.reduceSub, reduceCtorEq, putAt, unE, Nat.reduceBEq, convE, buildE, List.replicate, Int.reduceLT, Int.reduceLE, Int.reduceToNat, mkE, mapSetE, hN, hF, ty_3, ty_5, ty_9, notIf, isEq, b0]
  refine AWP.loop (fun c st => ∃ i : Nat, i ≤ l.length ∧ c = l.length - i ∧ st = ⟨[(0, .c (.str l)), (2, .c (.str [])), (3, .c (.str (hexL (l.take i)))), (4, .c (.int .i64 (i : Int)))], []⟩) ⟨l.length, _, ?w, 0, Nat.zero_le _, rfl, rfl⟩ ?r
  case w =>
    rw [hns]
    simp only [runB, finC, finD, AS.get, AS.mem, false_implies, implies_true, ↓reduceIte, Nat.reduceEqDiff, Option.isSome_some, Option.isSome_none, forall_eq_or_imp, forall_eq, reduceCtorEq, Nat.reduceAdd, Nat.reduceMul, List.zip_cons_cons, List.zip_nil_left, List.zip_nil_right, List.forall_mem_nil, List.take_zero, hexL]
    first | done | simp
  case r =>
    rintro c st ⟨i, hi, rfl, rfl⟩
    refine vc_sound none0_sound mixed _ _ _ ?_
    by_cases hlt : i < l.length
    · have k1 : decide ((i : Int) < (l.length : Int)) = true := decide_eq_true (by omega)
      have hi2 : ((i : Int) < (l.length : Int)) = True := eq_true (by omega)
      have e2 : IntKind.i64.wrap ((i : Int) + 1) = (i : Int) + 1 := wrapI (by omega)
      have hht := hexL_take l i hlt
      have hhl : (hexL (l.take i)).length ≤ 2 * l.length := by rw [hexL_length, List.length_take]; omega
      have hc := (l.getD i 0).toNat_lt
      have hid : l[i]? = some (l.getD i 0) := by rw [List.getD_eq_getElem?_getD, List.getElem?_eq_getElem hlt]; rfl
      generalize l.getD i 0 = cb at *
      have q1 : ((cb.toNat : Int)).tdiv 16 = ((cb.toNat / 16 : Nat) : Int) := by rw [Int.tdiv_eq_ediv_of_nonneg (by omega)]; rfl
      have q2 : ((cb.toNat : Int)).tmod 16 = ((cb.toNat % 16 : Nat) : Int) := by rw [Int.tmod_eq_emod_of_nonneg (by omega)]; rfl
      have e16 : ((16 : Int) = 0) = False := by simp
      obtain ⟨a, ha⟩ : ∃ a, a = cb.toNat / 16 := ⟨_, rfl⟩
      obtain ⟨b, hb⟩ : ∃ b, b = cb.toNat % 16 := ⟨_, rfl⟩
      have ha16 : a < 16 := by omega
      have hb16 : b < 16 := by omega
      have sa := sl_let ha16
      have sb := sl_let hb16
      rw [← ha] at q1 hht
      rw [← hb] at q2 hht
      have wa : IntKind.u8.wrap (a : Int) = (a : Int) := by rw [wrapB]; omega
      have wb : IntKind.u8.wrap (b : Int) = (b : Int) := by rw [wrapB]; omega
      have wc : IntKind.u8.wrap ((a : Int) + 1) = (a : Int) + 1 := by rw [wrapB]; omega
      have wd : IntKind.u8.wrap ((b : Int) + 1) = (b : Int) + 1 := by rw [wrapB]; omega
      have ta : ((a : Int) + 1).toNat = a + 1 := by omega
      have tb : ((b : Int) + 1).toNat = b + 1 := by omega
      have la : ((a : Int) ≤ (a : Int) + 1) = True := eq_true (by omega)
      have lb : ((b : Int) ≤ (b : Int) + 1) = True := eq_true (by omega)
      have lc : ((a : Int) + 1 ≤ ((16 : Nat) : Int)) = True := eq_true (by omega)
      have ld : ((b : Int) + 1 ≤ ((16 : Nat) : Int)) = True := eq_true (by omega)
      have le : ((0 : Int) ≤ (a : Int) + 1) = True := eq_true (by omega)
      have lf : ((0 : Int) ≤ (b : Int) + 1) = True := eq_true (by omega)
      generalize hexL (l.take i) = H at *
      have hl1 : (H.length ≤ 9223372036854775806) = True := eq_true (by omega)
      have hl2 : (H.length ≤ 9223372036854775805) = True := eq_true (by omega)
      simp only [runA, runB, runC, runD, runE, runF, fieldE, storeE, binE, ↓reduceIte, Nat.reduceLT, Nat.reduceLeDiff, Nat.reduceEqDiff, Nat.reduceAdd, Nat.reduceMul, Nat.reduceSub, reduceCtorEq, putAt, unE, Nat.reduceBEq, convE, buildE, List.replicate, Int.reduceLT, Int.reduceLE, Int.reduceToNat, mkE, mapSetE, hN, hF, ty_3, ty_5, ty_9, notIf, isEq, k1, hi2, hid, q1, q2, wa, wb, wc, wd, ta, tb, la, lb, lc, ld, le, lf, sa, sb, hl1, hl2, e16, e2]
      iterate 2 (try (refine drawnP_intro (by kernel_rfl) (by kernel_rfl) ?_; simp only [runA, runB, runC, runD, runE, runF, fieldE, storeE, binE, ↓reduceIte, Nat.reduceLT, Nat.reduceLeDiff, Nat.reduceEqDiff, Nat.reduceAdd, Nat.reduceMul, Nat.reduceSub, reduceCtorEq, putAt, unE, Nat.reduceBEq, convE, buildE, List.replicate, Int.reduceLT, Int.reduceLE, Int.reduceToNat, mkE, mapSetE, hN, hF, ty_3, ty_5, ty_9, notIf, isEq, k1, hi2, hid, q1, q2, wa, wb, wc, wd, ta, tb, la, lb, lc, ld, le, lf, sa, sb, hl1, hl2, e16, e2]))
      refine ⟨l.length - (i + 1), _, by omega, ?_, i + 1, by omega, rfl, rfl⟩
      rw [hns, hht]
      simp only [runB, finC, finD, AS.get, AS.mem, false_implies, implies_true, ↓reduceIte, Nat.reduceEqDiff, Option.isSome_some, Option.isSome_none, forall_eq_or_imp, forall_eq, reduceCtorEq, Nat.reduceAdd, Nat.reduceMul, List.zip_cons_cons, List.zip_nil_left, List.zip_nil_right, List.forall_mem_nil]
      first | done | simp
    · have k1 : decide ((i : Int) < (l.length : Int)) = false := decide_eq_false (by omega)
      obtain rfl : i = l.length := by omega
      rw [List.take_of_length_le (Nat.le_refl _)]
      simp only [runA, runB, runC, runD, runE, runF, fieldE, storeE, binE, ↓reduceIte, Nat.reduceLT, Nat.reduceLeDiff, Nat.reduceEqDiff, Nat.reduceAdd, Nat.reduceMul, Nat.reduceSub, reduceCtorEq, putAt, unE, Nat.reduceBEq, convE, buildE, List.replicate, Int.reduceLT, Int.reduceLE, Int.reduceToNat, mkE, mapSetE, hN, hF, ty_3, ty_5, ty_9, notIf, isEq, k1]
      simp only [runB, finC, finD, Option.isSome_some, Option.isSome_none, ↓reduceIte, Nat.reduceEqDiff, Nat.reduceAdd, Nat.reduceMul, forall_eq_or_imp, forall_eq, implies_true, Nat.reduceBEq, reduceCtorEq, false_implies, List.zip_cons_cons, List.zip_nil_left, List.zip_nil_right, Nat.reduceLeDiff, List.forall_mem_nil, rs_26]

end Go.Proofs.Ytcfijanfcgnnhaa.AM
