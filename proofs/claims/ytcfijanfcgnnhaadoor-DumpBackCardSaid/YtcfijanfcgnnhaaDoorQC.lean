/-
  QC: Pk1 Pk2 Sh0 Dt1 Dt2.
-/
import Derived.Test.YtcfijanfcgnnhaaDoorQ5
import Derived.Test.YtcfijanfcgnnhaaDoorQ4
set_option linter.unusedVariables false
set_option linter.unusedSimpArgs false
namespace Go.Proofs.YtcfijanfcgnnhaaDoor.AM
open Go


theorem bytes_length (l : List UInt8) : (bytes l).length = l.length := by simp [bytes]
theorem rowsOK_bytes (l : List UInt8) : rowsOK 1 (bytes l) := by
  intro r hr
  simp only [bytes, List.mem_map] at hr
  obtain ⟨b, _, rfl⟩ := hr
  rfl
structure WS where
  b : List UInt8
  e : Int
  deriving DecidableEq
variable {Γ : FuncId → Contract}

/-- A contract by shapes: of whatever answers to these arguments and objects. -/
noncomputable def mkC {α : Type} (ok : α → Prop) (A : α → List AV) (O : α → List (List OV)) (R : α → CRes) : Contract := fun args objs =>
  open Classical in if h : ∃ x, ok x ∧ args = A x ∧ objs = O x then some (R h.choose) else none
theorem mkC_inv {α : Type} {ok : α → Prop} {A : α → List AV} {O : α → List (List OV)} {R : α → CRes} {args : List AV} {objs : List (List OV)} {r : CRes} (h : mkC ok A O R args objs = some r) :
    ∃ x, ok x ∧ args = A x ∧ objs = O x ∧ r = R x := by
  unfold mkC at h
  split at h
  · rename_i hx
    cases h
    obtain ⟨h1, h2, h3⟩ := hx.choose_spec
    exact ⟨_, h1, h2, h3, rfl⟩
  · cases h
theorem mkC_at {α : Type} {ok : α → Prop} {A : α → List AV} {O : α → List (List OV)} {R : α → CRes} (x : α) (h : ok x) (hi : ∀ y, ok y → A y = A x → O y = O x → R y = R x) : mkC ok A O R (A x) (O x) = some (R x) := by
  unfold mkC
  have hx : ∃ y, ok y ∧ A x = A y ∧ O x = O y := ⟨x, h, rfl, rfl⟩
  rw [dif_pos hx]
  obtain ⟨h1, h2, h3⟩ := hx.choose_spec
  rw [hi _ h1 h2.symm h3.symm]

abbrev W32 := BitVec 32
def wC (x : W32) : PC := .int .u32 (x.toNat : Int)
variable {P : Program} {t : TypeId}
/-- An octet's word, a word's octet. -/
def bw (b : UInt8) : W32 := BitVec.ofNat 32 b.toNat
def cellsW (l : List W32) : List AV := l.map fun x => .c (wC x)

variable {Γ : FuncId → Contract}

def decN (n : Nat) : List UInt8 := if n < 10 then [UInt8.ofNat (48 + n)] else decN (n / 10) ++ [UInt8.ofNat (48 + n % 10)]
termination_by n
decreasing_by omega
def decS (n : Int) : List UInt8 := decN n.toNat
theorem decN_lt {n : Nat} (h : n < 10) : decN n = [UInt8.ofNat (48 + n)] := by rw [decN, if_pos h]
theorem decN_ge {n : Nat} (h : ¬ n < 10) : decN n = decN (n / 10) ++ [UInt8.ofNat (48 + n % 10)] := by rw [decN, if_neg h]
theorem decN_len : ∀ (k n : Nat), n < 10 ^ k → (decN n).length ≤ k + 1
  | 0, n, h => by rw [decN_lt (by simp at h; omega)]; simp
  | k + 1, n, h => by
    by_cases h10 : n < 10
    · rw [decN_lt h10]; simp
    · rw [decN_ge h10, List.length_append]
      have := decN_len k (n / 10) (by rw [Nat.pow_succ] at h; omega)
      simp only [List.length_cons, List.length_nil]; omega
theorem dig_wrap {n : Nat} (h : n < 10) : IntKind.u8.wrap (48 + (n : Int)) = ((UInt8.ofNat (48 + n)).toNat : Int) := by
  rw [wrapB, UInt8.toNat_ofNat']; omega
noncomputable def decC (k : Nat) : Contract := mkC (α := Int) (fun n => 0 ≤ n ∧ n < ((10 ^ k : Nat) : Int)) (fun n => [.c (.int .i64 n)]) (fun _ => []) (fun n => ⟨[.pv (.c (.str (decS n)))], []⟩)
theorem dec_at (k : Nat) (n : Int) (h : 0 ≤ n ∧ n < ((10 ^ k : Nat) : Int)) : decC k [.c (.int .i64 n)] [] = some ⟨[.pv (.c (.str (decS n)))], []⟩ :=
  mkC_at (α := Int) n h (by
    rintro y _ h _
    simp only [List.cons.injEq, AV.c.injEq, PC.int.injEq, true_and, and_true] at h
    rw [h])
noncomputable def dec13C : Contract := decC 13
theorem dec13_at (n : Int) (h0 : 0 ≤ n) (h1 : n ≤ 1099511627776) : dec13C [.c (.int .i64 n)] [] = some ⟨[.pv (.c (.str (decS n)))], []⟩ := dec_at 13 n ⟨h0, by show n < 10000000000000; omega⟩

variable {Γ : FuncId → Contract}

set_option maxRecDepth 100000 in
set_option maxHeartbeats 4000000 in
theorem decP_sound : SoundC Tryd.prog 26 dec13C := by
  refine sound_fn Tryd.func26 (by kernel_rfl) rfl rfl ?_
  intro args objs r0 hr
  obtain ⟨n, ⟨h0, hn⟩, rfl, rfl, rfl⟩ := mkC_inv (show mkC _ _ _ _ _ _ = some _ from (show decC 13 args objs = some r0 from hr))
  refine ⟨rfl, by show 1 ≤ _; decide, fun E hN hns hF => ?_⟩
  refine vc_sound none0_sound mixed _ _ _ ?_
  have hN := hN.trans nt_26
  obtain ⟨m0, rfl⟩ : ∃ m : Nat, n = (m : Int) := ⟨n.toNat, by omega⟩
  have hn2 : m0 < 10 ^ 13 := by exact_mod_cast hn
  have hd : decS (m0 : Int) = decN m0 := by unfold decS; rw [Int.toNat_natCast]
  rw [hd]
  have e10 : ((10 : Int) = 0) = False := by simp
  have hz0 : rowsOK 1 ([] : List (List PC)) := fun _ h => by cases h
  simp only [runA, runB, runC, runD, runE, runF, fieldE, storeE, binE, ↓reduceIte, Nat.reduceLT, Nat.reduceLeDiff, Nat.reduceEqDiff, Nat.reduceAdd, Nat.reduceMul, Nat.reduceSub, reduceCtorEq, putAt, unE, Nat.reduceBEq, convE, buildE, List.replicate, Int.reduceLT, Int.reduceLE, Int.reduceToNat, mkE, mapSetE, hN, hF, ty_3, ty_5, ty_9, ty_58, notIf, isEq]
  refine AWP.loop (fun c st => ∃ (m k : Nat) (b : List UInt8), m < 10 ^ k ∧ k + b.length ≤ 13 ∧ c = k ∧ decN m0 = decN m ++ b ∧ st = ⟨[(0, .c (.int .i64 (m : Int))), (2, .c (.str [])), (3, if b = [] then .nilsl else .c (.sl (bytes b)))], []⟩) ⟨13, _, ?w, m0, 13, [], hn2, by simp, rfl, by simp, rfl⟩ ?r
  case w =>
    rw [hns]
    simp only [runB, finC, finD, AS.get, AS.mem, false_implies, implies_true, ↓reduceIte, Nat.reduceEqDiff, Option.isSome_some, Option.isSome_none, forall_eq_or_imp, forall_eq, reduceCtorEq, Nat.reduceAdd, Nat.reduceMul, List.zip_cons_cons, List.zip_nil_left, List.zip_nil_right, List.forall_mem_nil]
    first | done | simp
  case r =>
    rintro c st ⟨m, k, b, hm, hkb, rfl, hdb, rfl⟩
    refine vc_sound none0_sound mixed _ _ _ ?_
    rw [hdb]
    have hm13 : m < 10000000000000 := by
      have h13 : (10 : Nat) ^ c ≤ 10 ^ 13 := Nat.pow_le_pow_right (by decide) (by omega)
      have h14 : (10 : Nat) ^ 13 = 10000000000000 := by decide
      omega
    by_cases h10 : m < 10
    · have k1 : decide ((m : Int) ≥ 10) = false := decide_eq_false (by omega)
      have w0 : IntKind.i64.wrap (48 + (m : Int)) = 48 + (m : Int) := wrapI (by omega)
      have w1 := dig_wrap h10
      rw [decN_lt h10]
      by_cases hb : b = []
      · subst hb
        have b1 : bytesOf [[PC.int .u8 ((UInt8.ofNat (48 + m)).toNat : Int)]] = some [UInt8.ofNat (48 + m)] := by
          simp only [bytesOf, Int.toNat_natCast, UInt8.ofNat_toNat]
        simp only [runA, runB, runC, runD, runE, runF, fieldE, storeE, binE, ↓reduceIte, Nat.reduceLT, Nat.reduceLeDiff, Nat.reduceEqDiff, Nat.reduceAdd, Nat.reduceMul, Nat.reduceSub, reduceCtorEq, putAt, unE, Nat.reduceBEq, convE, buildE, List.replicate, Int.reduceLT, Int.reduceLE, Int.reduceToNat, mkE, mapSetE, hN, hF, ty_3, ty_5, ty_9, ty_58, notIf, isEq, k1, w0, w1, b1, hz0]
        iterate 2 (try (refine drawnP_intro (by kernel_rfl) (by kernel_rfl) ?_; simp only [runA, runB, runC, runD, runE, runF, fieldE, storeE, binE, ↓reduceIte, Nat.reduceLT, Nat.reduceLeDiff, Nat.reduceEqDiff, Nat.reduceAdd, Nat.reduceMul, Nat.reduceSub, reduceCtorEq, putAt, unE, Nat.reduceBEq, convE, buildE, List.replicate, Int.reduceLT, Int.reduceLE, Int.reduceToNat, mkE, mapSetE, hN, hF, ty_3, ty_5, ty_9, ty_58, notIf, isEq, k1, w0, w1, b1, hz0]))
        simp only [runB, finC, finD, Option.isSome_some, Option.isSome_none, ↓reduceIte, Nat.reduceEqDiff, Nat.reduceAdd, Nat.reduceMul, forall_eq_or_imp, forall_eq, implies_true, Nat.reduceBEq, reduceCtorEq, false_implies, List.zip_cons_cons, List.zip_nil_left, List.zip_nil_right, Nat.reduceLeDiff, List.forall_mem_nil, rs_26]
      · have b1 : bytesOf ([PC.int .u8 ((UInt8.ofNat (48 + m)).toNat : Int)] :: bytes b) = some ([UInt8.ofNat (48 + m)] ++ b) := bytesOf_bytes ([UInt8.ofNat (48 + m)] ++ b)
        have hz := rowsOK_bytes b
        have hbl := bytes_length b
        have hLb : (1 + b.length ≤ 140737488355328) = True := eq_true (by omega)
        rw [if_neg hb]
        simp only [runA, runB, runC, runD, runE, runF, fieldE, storeE, binE, ↓reduceIte, Nat.reduceLT, Nat.reduceLeDiff, Nat.reduceEqDiff, Nat.reduceAdd, Nat.reduceMul, Nat.reduceSub, reduceCtorEq, putAt, unE, Nat.reduceBEq, convE, buildE, List.replicate, Int.reduceLT, Int.reduceLE, Int.reduceToNat, mkE, mapSetE, hN, hF, ty_3, ty_5, ty_9, ty_58, notIf, isEq, k1, w0, w1, b1, hz, hbl, hLb]
        iterate 2 (try (refine drawnP_intro (by kernel_rfl) (by kernel_rfl) ?_; simp only [runA, runB, runC, runD, runE, runF, fieldE, storeE, binE, ↓reduceIte, Nat.reduceLT, Nat.reduceLeDiff, Nat.reduceEqDiff, Nat.reduceAdd, Nat.reduceMul, Nat.reduceSub, reduceCtorEq, putAt, unE, Nat.reduceBEq, convE, buildE, List.replicate, Int.reduceLT, Int.reduceLE, Int.reduceToNat, mkE, mapSetE, hN, hF, ty_3, ty_5, ty_9, ty_58, notIf, isEq, k1, w0, w1, b1, hz, hbl, hLb]))
        simp only [runB, finC, finD, Option.isSome_some, Option.isSome_none, ↓reduceIte, Nat.reduceEqDiff, Nat.reduceAdd, Nat.reduceMul, forall_eq_or_imp, forall_eq, implies_true, Nat.reduceBEq, reduceCtorEq, false_implies, List.zip_cons_cons, List.zip_nil_left, List.zip_nil_right, Nat.reduceLeDiff, List.forall_mem_nil, rs_26]
    · have k1 : decide ((m : Int) ≥ 10) = true := decide_eq_true (by omega)
      have hc : c ≠ 0 := by rintro rfl; simp at hm; omega
      obtain ⟨k', rfl⟩ : ∃ k', c = k' + 1 := ⟨c - 1, by omega⟩
      have hq : ((m : Int)).tdiv 10 = ((m / 10 : Nat) : Int) := by rw [Int.tdiv_eq_ediv_of_nonneg (by omega)]; rfl
      have hr2 : ((m : Int)).tmod 10 = ((m % 10 : Nat) : Int) := by rw [Int.tmod_eq_emod_of_nonneg (by omega)]; rfl
      have w2 : IntKind.i64.wrap ((m / 10 : Nat) : Int) = ((m / 10 : Nat) : Int) := wrapI (by omega)
      have w0 : IntKind.i64.wrap (48 + ((m % 10 : Nat) : Int)) = 48 + ((m % 10 : Nat) : Int) := wrapI (by omega)
      have w1 := dig_wrap (n := m % 10) (by omega)
      have hbc : [PC.int .u8 ((UInt8.ofNat (48 + m % 10)).toNat : Int)] :: bytes b = bytes (UInt8.ofNat (48 + m % 10) :: b) := rfl
      have hdn := decN_ge h10
      by_cases hb : b = []
      · subst hb
        rw [if_pos rfl]
        simp only [runA, runB, runC, runD, runE, runF, fieldE, storeE, binE, ↓reduceIte, Nat.reduceLT, Nat.reduceLeDiff, Nat.reduceEqDiff, Nat.reduceAdd, Nat.reduceMul, Nat.reduceSub, reduceCtorEq, putAt, unE, Nat.reduceBEq, convE, buildE, List.replicate, Int.reduceLT, Int.reduceLE, Int.reduceToNat, mkE, mapSetE, hN, hF, ty_3, ty_5, ty_9, ty_58, notIf, isEq, k1, e10, hq, hr2, w0, w1, w2, hz0]
        iterate 2 (try (refine drawnP_intro (by kernel_rfl) (by kernel_rfl) ?_; simp only [runA, runB, runC, runD, runE, runF, fieldE, storeE, binE, ↓reduceIte, Nat.reduceLT, Nat.reduceLeDiff, Nat.reduceEqDiff, Nat.reduceAdd, Nat.reduceMul, Nat.reduceSub, reduceCtorEq, putAt, unE, Nat.reduceBEq, convE, buildE, List.replicate, Int.reduceLT, Int.reduceLE, Int.reduceToNat, mkE, mapSetE, hN, hF, ty_3, ty_5, ty_9, ty_58, notIf, isEq, k1, e10, hq, hr2, w0, w1, w2, hz0]))
        refine ⟨k', _, by omega, ?_, m / 10, k', [UInt8.ofNat (48 + m % 10)], by rw [Nat.pow_succ] at hm; omega, by simp at hkb ⊢; omega, rfl, by simp [hdn], rfl⟩
        rw [hns]
        simp only [runB, finC, finD, AS.get, AS.mem, false_implies, implies_true, ↓reduceIte, Nat.reduceEqDiff, Option.isSome_some, Option.isSome_none, forall_eq_or_imp, forall_eq, reduceCtorEq, Nat.reduceAdd, Nat.reduceMul, List.zip_cons_cons, List.zip_nil_left, List.zip_nil_right, List.forall_mem_nil, bytes, List.map_cons, List.map_nil]
        first | done | simp
      · have hz := rowsOK_bytes b
        have hbl := bytes_length b
        have hLb : (1 + b.length ≤ 140737488355328) = True := eq_true (by omega)
        rw [if_neg hb]
        simp only [runA, runB, runC, runD, runE, runF, fieldE, storeE, binE, ↓reduceIte, Nat.reduceLT, Nat.reduceLeDiff, Nat.reduceEqDiff, Nat.reduceAdd, Nat.reduceMul, Nat.reduceSub, reduceCtorEq, putAt, unE, Nat.reduceBEq, convE, buildE, List.replicate, Int.reduceLT, Int.reduceLE, Int.reduceToNat, mkE, mapSetE, hN, hF, ty_3, ty_5, ty_9, ty_58, notIf, isEq, k1, e10, hq, hr2, w0, w1, w2, hz, hbl, hLb, hbc]
        iterate 2 (try (refine drawnP_intro (by kernel_rfl) (by kernel_rfl) ?_; simp only [runA, runB, runC, runD, runE, runF, fieldE, storeE, binE, ↓reduceIte, Nat.reduceLT, Nat.reduceLeDiff, Nat.reduceEqDiff, Nat.reduceAdd, Nat.reduceMul, Nat.reduceSub, reduceCtorEq, putAt, unE, Nat.reduceBEq, convE, buildE, List.replicate, Int.reduceLT, Int.reduceLE, Int.reduceToNat, mkE, mapSetE, hN, hF, ty_3, ty_5, ty_9, ty_58, notIf, isEq, k1, e10, hq, hr2, w0, w1, w2, hz, hbl, hLb, hbc]))
        refine ⟨k', _, by omega, ?_, m / 10, k', UInt8.ofNat (48 + m % 10) :: b, by rw [Nat.pow_succ] at hm; omega, by simp at hkb ⊢; omega, rfl, by simp [hdn], rfl⟩
        rw [hns]
        simp only [runB, finC, finD, AS.get, AS.mem, false_implies, implies_true, ↓reduceIte, Nat.reduceEqDiff, Option.isSome_some, Option.isSome_none, forall_eq_or_imp, forall_eq, reduceCtorEq, Nat.reduceAdd, Nat.reduceMul, List.zip_cons_cons, List.zip_nil_left, List.zip_nil_right, List.forall_mem_nil]
        first | done | simp

end Go.Proofs.YtcfijanfcgnnhaaDoor.AM
