/-
  QE: Mk1 Mk2 Mk3 Mk4 Mk5 Mk6 Mk7 Mk8 Mk9.
-/
import Derived.Test.YtenmlgalcjkdbaaGreatQ7
import Derived.Test.YtenmlgalcjkdbaaGreatQ3
import Derived.RangeFuncNested
import Derived.RangeFuncCalls
import Derived.RangeFuncBox
import Derived.Shelf.Abstract
import Derived.Shelf.RegionOpen
import Derived.WalkKit
import Derived.OwnWalkIn
import Derived.TacticsInMore
import Derived.LoopNIn
import Derived.LoopIn
set_option linter.unusedVariables false
set_option linter.unusedSimpArgs false
namespace Go.Proofs.YtenmlgalcjkdbaaGreat.AM
open Go

noncomputable def upS : List (List UInt8) → List (List UInt8)
  | a :: b :: l => shortS (a ++ b) :: upS l
  | l => l
theorem upS_nil : upS [] = [] := by rw [upS]; intro a b l h; cases h
theorem upS_one (x : List UInt8) : upS [x] = [x] := by rw [upS]; intro a b l h; cases h
theorem upS_length : ∀ (l : List (List UInt8)), (upS l).length = (l.length + 1) / 2
  | [] => by rw [upS_nil]; rfl
  | [x] => by rw [upS_one]; simp
  | a :: b :: l => by
    rw [upS, List.length_cons, upS_length l]
    simp only [List.length_cons]; omega
/-- All texts are short enough. -/
def Okl (l : List (List UInt8)) : Prop := l.length ≤ 1099511627 ∧ ∀ s ∈ l, s.length ≤ 10995116277
/-- To the root. -/
noncomputable def climbS : List UInt8 → Nat → List (List UInt8) → List UInt8
  | leaf, _, [] => leaf
  | leaf, at_, s :: path => climbS (if at_ % 2 = 1 then shortS (s ++ leaf) else shortS (leaf ++ s)) (at_ / 2) path


variable {Γ : FuncId → Contract}


variable {Γ : FuncId → Contract}


variable {Γ : FuncId → Contract}

theorem ofNat64 (n : Nat) : BitVec.ofInt 64 (n : Int) = BitVec.ofNat 64 n := by rw [BitVec.ofInt_natCast]
theorem and_one (n : Nat) (h : n < 9223372036854775808) : IntKind.i64.wrap (((BitVec.ofInt IntKind.i64.bits (n : Int) &&& BitVec.ofInt IntKind.i64.bits 1).toNat : Nat) : Int) = ((n % 2 : Nat) : Int) := by
  have e : (BitVec.ofInt 64 (n : Int) &&& BitVec.ofInt 64 1).toNat = n % 2 := by
    rw [ofNat64, show (1 : Int) = ((1 : Nat) : Int) from rfl, ofNat64, BitVec.toNat_and, BitVec.toNat_ofNat, BitVec.toNat_ofNat, Nat.mod_eq_of_lt (by omega), Nat.mod_eq_of_lt (by omega), Nat.and_one_is_mod]
  show IntKind.i64.wrap (((BitVec.ofInt 64 (n : Int) &&& BitVec.ofInt 64 1).toNat : Nat) : Int) = _
  rw [e, wrapI (by omega)]
theorem shr_one (n : Nat) : ((n : Int).fdiv (2 ^ (min 1 IntKind.i64.bits))) = ((n / 2 : Nat) : Int) := by
  have : (2 : Int) ^ (min 1 IntKind.i64.bits) = 2 := rfl
  rw [this, Int.fdiv_eq_ediv_of_nonneg _ (by decide)]
  omega
theorem tmod_two (n : Nat) : (n : Int).tmod 2 = ((n % 2 : Nat) : Int) := by
  rw [Int.tmod_eq_emod_of_nonneg (by omega)]; omega
theorem tdiv_two (n : Nat) (h : n < 9223372036854775808) : IntKind.i64.wrap ((n : Int).tdiv 2) = ((n / 2 : Nat) : Int) := by
  rw [Int.tdiv_eq_ediv_of_nonneg (by omega), show (n : Int) / 2 = ((n / 2 : Nat) : Int) from by omega, wrapI (by omega)]

structure Cl where
  leaf : List UInt8
  i : Int
  path : List (List UInt8)
def clOK (p : Cl) : Prop := p.leaf.length ≤ 10995116277 ∧ p.i < 9223372036854775808 ∧ Okl p.path
noncomputable def climbC : Contract := mkC (α := Cl) clOK (fun p => [.c (.str p.leaf), .c (.int .i64 p.i), .c (.sl (texts p.path))]) (fun _ => []) (fun p => ⟨[.pv (.c (.str (climbS p.leaf (max p.i 0).toNat p.path)))], []⟩)
theorem climb_at (leaf : List UInt8) (i : Int) (path : List (List UInt8)) (h : clOK ⟨leaf, i, path⟩) : climbC [.c (.str leaf), .c (.int .i64 i), .c (.sl (texts path))] [] = some ⟨[.pv (.c (.str (climbS leaf (max i 0).toNat path)))], []⟩ :=
  mkC_at (α := Cl) ⟨leaf, i, path⟩ h (by
    rintro ⟨a, b, c⟩ _ h' _
    simp only [List.cons.injEq, AV.c.injEq, PC.int.injEq, PC.str.injEq, PC.sl.injEq, true_and, and_true] at h'
    obtain ⟨rfl, rfl, h'⟩ := h'
    obtain rfl := texts_inj h'
    rfl)

set_option maxRecDepth 100000 in
set_option maxHeartbeats 1000000 in
theorem climb_sound (hΓ : SoundG Tryz.prog Γ) (h2 : Γ 199 = shortC) : SoundC Tryz.prog 166 climbC := by
  refine sound_fn Tryz.func166 (by kernel_rfl) rfl rfl ?_
  intro args objs r hr
  obtain ⟨⟨leaf, at_, path⟩, ⟨hl, hat, hp1, hp2⟩, rfl, rfl, rfl⟩ := mkC_inv hr
  refine ⟨rfl, by show 3 ≤ _; decide, fun E hN hns hF => ?_⟩
  refine vc_sound hΓ mixed _ _ _ ?_
  have hN := hN.trans nt_166
  dsimp only at hl hat hp1 hp2 ⊢
  obtain ⟨A, hA⟩ : ∃ A, (max at_ 0).toNat = A := ⟨_, rfl⟩
  have hmax : (if (0 : Int) > at_ then 0 else at_) = (A : Int) := by split <;> omega
  have hA2 : A < 9223372036854775808 := by omega
  rw [hA]
  simp only [runA, runB, runC, runD, runE, runF, fieldE, storeE, binE, ↓reduceIte, Nat.reduceLT, Nat.reduceLeDiff, Nat.reduceEqDiff, Nat.reduceAdd, Nat.reduceMul, Nat.reduceSub, reduceCtorEq, putAt, unE, Nat.reduceBEq, convE, buildE, List.replicate, Int.reduceLT, Int.reduceLE, Int.reduceToNat, mkE, mapSetE, hN, hF, ty_3, ty_5, ty_9, ty_24, ty_47, ty_159, notIf, isEq, hmax]
  refine AWP.loop (fun c st => ∃ (i : Nat) (cur : List UInt8) (B : Nat), i ≤ path.length ∧ climbS leaf A path = climbS cur B (path.drop i) ∧ cur.length ≤ 10995116277 ∧ B < 9223372036854775808 ∧ c = path.length - i ∧
    st = ⟨[(0, .c (.str cur)), (1, .c (.int .i64 (B : Int))), (13, .c (.sl (texts path))), (14, .c (.int .i64 (path.length : Int))), (15, .c (.int .i64 (i : Int)))], []⟩) ⟨path.length, _, ?w, 0, leaf, A, Nat.zero_le _, rfl, hl, hA2, rfl, rfl⟩ ?r
  case w =>
    rw [hns]
    simp only [runB, finC, finD, AS.get, AS.mem, false_implies, implies_true, ↓reduceIte, Nat.reduceEqDiff, Option.isSome_some, Option.isSome_none, forall_eq_or_imp, forall_eq, reduceCtorEq, Nat.reduceAdd, Nat.reduceMul, List.zip_cons_cons, List.zip_nil_left, List.zip_nil_right, List.forall_mem_nil]
    simp [texts_length]
  case r =>
    rintro c st ⟨i, cur, B, hi, hcl, hcur, hB, rfl, rfl⟩
    refine vc_sound hΓ mixed _ _ _ ?_
    by_cases hlt : i < path.length
    · have g1 : decide ((i : Int) < (path.length : Int)) = true := by simpa using hlt
      obtain ⟨s, hs⟩ : ∃ s, path[i]? = some s := ⟨path[i], by simp [hlt]⟩
      have hsr : (texts path)[i]? = some [PC.str s] := by simp [texts, hs]
      have hms := hp2 s (List.mem_of_getElem? hs)
      have hdr : path.drop i = s :: path.drop (i + 1) := by
        rw [List.drop_eq_getElem_cons hlt]; congr 1
        have := List.getElem?_eq_getElem hlt
        rw [hs] at this; exact (Option.some.inj this).symm
      rw [hdr, climbS] at hcl
      have e1 : IntKind.i64.wrap ((i : Int) + 1) = (i : Int) + 1 := wrapI (by omega)
      have e2 := and_one B hB
      have e3 := shr_one B
      have hb : (1 : Int) < 0 ↔ False := by decide
      have hB2 : B / 2 < 9223372036854775808 := by omega
      by_cases ho : B % 2 = 1
      · rw [if_pos ho] at hcl
        have g2 : (((B % 2 : Nat) : Int) == 1) = true := by simp; omega
        have hsh := short_at [s, cur] ⟨by simp; omega, by simp⟩
        have hf : [s, cur].flatten = s ++ cur := by simp
        rw [hf] at hsh
        have hsl : [[PC.sl (bytes s)], [PC.sl (bytes cur)]] = slices [s, cur] := rfl
        simp only [runA, runB, runC, runD, runE, runF, fieldE, storeE, binE, ↓reduceIte, Nat.reduceLT, Nat.reduceLeDiff, Nat.reduceEqDiff, Nat.reduceAdd, Nat.reduceMul, Nat.reduceSub, reduceCtorEq, putAt, unE, Nat.reduceBEq, convE, buildE, List.replicate, Int.reduceLT, Int.reduceLE, Int.reduceToNat, mkE, mapSetE, hN, hF, ty_3, ty_5, ty_9, ty_24, ty_47, ty_159, notIf, isEq, g1, hsr, e2, g2, hsl, h2, hsh, shOp, hb, e3, e1]
        refine ⟨path.length - (i + 1), _, by omega, ?_, i + 1, _, B / 2, by omega, hcl, by rw [shortS_length]; decide, hB2, rfl, rfl⟩
        rw [hns]
        simp only [runB, finC, finD, AS.get, AS.mem, false_implies, implies_true, ↓reduceIte, Nat.reduceEqDiff, Option.isSome_some, Option.isSome_none, forall_eq_or_imp, forall_eq, reduceCtorEq, Nat.reduceAdd, Nat.reduceMul, List.zip_cons_cons, List.zip_nil_left, List.zip_nil_right, List.forall_mem_nil]
        first | done | simp
      · rw [if_neg ho] at hcl
        have g2 : (((B % 2 : Nat) : Int) == 1) = false := by simp; omega
        have hsh := short_at [cur, s] ⟨by simp; omega, by simp⟩
        have hf : [cur, s].flatten = cur ++ s := by simp
        rw [hf] at hsh
        have hsl : [[PC.sl (bytes cur)], [PC.sl (bytes s)]] = slices [cur, s] := rfl
        simp only [runA, runB, runC, runD, runE, runF, fieldE, storeE, binE, ↓reduceIte, Nat.reduceLT, Nat.reduceLeDiff, Nat.reduceEqDiff, Nat.reduceAdd, Nat.reduceMul, Nat.reduceSub, reduceCtorEq, putAt, unE, Nat.reduceBEq, convE, buildE, List.replicate, Int.reduceLT, Int.reduceLE, Int.reduceToNat, mkE, mapSetE, hN, hF, ty_3, ty_5, ty_9, ty_24, ty_47, ty_159, notIf, isEq, g1, hsr, e2, g2, hsl, h2, hsh, shOp, hb, e3, e1]
        refine ⟨path.length - (i + 1), _, by omega, ?_, i + 1, _, B / 2, by omega, hcl, by rw [shortS_length]; decide, hB2, rfl, rfl⟩
        rw [hns]
        simp only [runB, finC, finD, AS.get, AS.mem, false_implies, implies_true, ↓reduceIte, Nat.reduceEqDiff, Option.isSome_some, Option.isSome_none, forall_eq_or_imp, forall_eq, reduceCtorEq, Nat.reduceAdd, Nat.reduceMul, List.zip_cons_cons, List.zip_nil_left, List.zip_nil_right, List.forall_mem_nil]
        first | done | simp
    · have g1 : decide ((i : Int) < (path.length : Int)) = false := by simpa using hlt
      have hdr : path.drop i = [] := List.drop_of_length_le (by omega)
      rw [hdr, climbS] at hcl
      simp only [runA, runB, runC, runD, runE, runF, fieldE, storeE, binE, ↓reduceIte, Nat.reduceLT, Nat.reduceLeDiff, Nat.reduceEqDiff, Nat.reduceAdd, Nat.reduceMul, Nat.reduceSub, reduceCtorEq, putAt, unE, Nat.reduceBEq, convE, buildE, List.replicate, Int.reduceLT, Int.reduceLE, Int.reduceToNat, mkE, mapSetE, hN, hF, ty_3, ty_5, ty_9, ty_24, ty_47, ty_159, notIf, isEq, g1]
      simp only [runB, finC, finD, Option.isSome_some, Option.isSome_none, ↓reduceIte, Nat.reduceEqDiff, Nat.reduceAdd, Nat.reduceMul, forall_eq_or_imp, forall_eq, implies_true, Nat.reduceBEq, reduceCtorEq, false_implies, List.zip_cons_cons, List.zip_nil_left, List.zip_nil_right, Nat.reduceLeDiff, List.forall_mem_nil, rs_166, hcl]


variable {Γ : FuncId → Contract}

set_option maxRecDepth 100000 in
set_option maxHeartbeats 1000000 in
theorem refClimb_sound (hΓ : SoundG Tryz.prog Γ) (h2 : Γ 195 = short1C) : SoundC Tryz.prog 139 climbC := by
  refine sound_fn Tryz.func139 (by kernel_rfl) rfl rfl ?_
  intro args objs r hr
  obtain ⟨⟨leaf, at_, path⟩, ⟨hl, hat, hp1, hp2⟩, rfl, rfl, rfl⟩ := mkC_inv hr
  refine ⟨rfl, by show 3 ≤ _; decide, fun E hN hns hF => ?_⟩
  refine vc_sound hΓ mixed _ _ _ ?_
  have hN := hN.trans nt_139
  dsimp only at hl hat hp1 hp2 ⊢
  obtain ⟨A, hA⟩ : ∃ A, (max at_ 0).toNat = A := ⟨_, rfl⟩
  have hmax : (if (0 : Int) > at_ then 0 else at_) = (A : Int) := by split <;> omega
  have hA2 : A < 9223372036854775808 := by omega
  rw [hA]
  simp only [runA, runB, runC, runD, runE, runF, fieldE, storeE, binE, ↓reduceIte, Nat.reduceLT, Nat.reduceLeDiff, Nat.reduceEqDiff, Nat.reduceAdd, Nat.reduceMul, Nat.reduceSub, reduceCtorEq, putAt, unE, Nat.reduceBEq, convE, buildE, List.replicate, Int.reduceLT, Int.reduceLE, Int.reduceToNat, mkE, mapSetE, hN, hF, ty_3, ty_5, ty_9, ty_24, ty_47, notIf, isEq, hmax]
  refine AWP.loop (fun c st => ∃ (i : Nat) (cur : List UInt8) (B : Nat), i ≤ path.length ∧ climbS leaf A path = climbS cur B (path.drop i) ∧ cur.length ≤ 10995116277 ∧ B < 9223372036854775808 ∧ c = path.length - i ∧
    st = ⟨[(0, .c (.str cur)), (1, .c (.int .i64 (B : Int))), (2, .c (.sl (texts path))), (7, .c (.int .i64 (i : Int)))], []⟩) ⟨path.length, _, ?w, 0, leaf, A, Nat.zero_le _, rfl, hl, hA2, rfl, rfl⟩ ?r
  case w =>
    rw [hns]
    simp only [runB, finC, finD, AS.get, AS.mem, false_implies, implies_true, ↓reduceIte, Nat.reduceEqDiff, Option.isSome_some, Option.isSome_none, forall_eq_or_imp, forall_eq, reduceCtorEq, Nat.reduceAdd, Nat.reduceMul, List.zip_cons_cons, List.zip_nil_left, List.zip_nil_right, List.forall_mem_nil]
    first | done | simp
  case r =>
    rintro c st ⟨i, cur, B, hi, hcl, hcur, hB, rfl, rfl⟩
    refine vc_sound hΓ mixed _ _ _ ?_
    by_cases hlt : i < path.length
    · have g1 : decide ((i : Int) < (path.length : Int)) = true := by simpa using hlt
      obtain ⟨s, hs⟩ : ∃ s, path[i]? = some s := ⟨path[i], by simp [hlt]⟩
      have hsr : (texts path)[i]? = some [PC.str s] := by simp [texts, hs]
      have hms := hp2 s (List.mem_of_getElem? hs)
      have hdr : path.drop i = s :: path.drop (i + 1) := by
        rw [List.drop_eq_getElem_cons hlt]; congr 1
        have := List.getElem?_eq_getElem hlt
        rw [hs] at this; exact (Option.some.inj this).symm
      rw [hdr, climbS] at hcl
      have e1 : IntKind.i64.wrap ((i : Int) + 1) = (i : Int) + 1 := wrapI (by omega)
      have e2 := tmod_two B
      have e3 := tdiv_two B hB
      have h20 : ((2 : Int) = 0) = False := by simp
      have hB2 : B / 2 < 9223372036854775808 := by omega
      by_cases ho : B % 2 = 1
      · rw [if_pos ho] at hcl
        have g2 : (((B % 2 : Nat) : Int) == 1) = true := by simp; omega
        have hsh := short1_at (s ++ cur) (by simp; omega)
        have hab : s.length + cur.length ≤ 9223372036854775807 := by omega
        simp only [runA, runB, runC, runD, runE, runF, fieldE, storeE, binE, ↓reduceIte, Nat.reduceLT, Nat.reduceLeDiff, Nat.reduceEqDiff, Nat.reduceAdd, Nat.reduceMul, Nat.reduceSub, reduceCtorEq, putAt, unE, Nat.reduceBEq, convE, buildE, List.replicate, Int.reduceLT, Int.reduceLE, Int.reduceToNat, mkE, mapSetE, hN, hF, ty_3, ty_5, ty_9, ty_24, ty_47, notIf, isEq, g1, hsr, h20, e2, g2, h2, hsh, hab, e3, e1, texts_length]
        refine ⟨path.length - (i + 1), _, by omega, ?_, i + 1, _, B / 2, by omega, hcl, by rw [shortS_length]; decide, hB2, rfl, rfl⟩
        rw [hns]
        simp only [runB, finC, finD, AS.get, AS.mem, false_implies, implies_true, ↓reduceIte, Nat.reduceEqDiff, Option.isSome_some, Option.isSome_none, forall_eq_or_imp, forall_eq, reduceCtorEq, Nat.reduceAdd, Nat.reduceMul, List.zip_cons_cons, List.zip_nil_left, List.zip_nil_right, List.forall_mem_nil]
        first | done | simp
      · rw [if_neg ho] at hcl
        have g2 : (((B % 2 : Nat) : Int) == 1) = false := by simp; omega
        have hsh := short1_at (cur ++ s) (by simp; omega)
        have hab : cur.length + s.length ≤ 9223372036854775807 := by omega
        simp only [runA, runB, runC, runD, runE, runF, fieldE, storeE, binE, ↓reduceIte, Nat.reduceLT, Nat.reduceLeDiff, Nat.reduceEqDiff, Nat.reduceAdd, Nat.reduceMul, Nat.reduceSub, reduceCtorEq, putAt, unE, Nat.reduceBEq, convE, buildE, List.replicate, Int.reduceLT, Int.reduceLE, Int.reduceToNat, mkE, mapSetE, hN, hF, ty_3, ty_5, ty_9, ty_24, ty_47, notIf, isEq, g1, hsr, h20, e2, g2, h2, hsh, hab, e3, e1, texts_length]
        refine ⟨path.length - (i + 1), _, by omega, ?_, i + 1, _, B / 2, by omega, hcl, by rw [shortS_length]; decide, hB2, rfl, rfl⟩
        rw [hns]
        simp only [runB, finC, finD, AS.get, AS.mem, false_implies, implies_true, ↓reduceIte, Nat.reduceEqDiff, Option.isSome_some, Option.isSome_none, forall_eq_or_imp, forall_eq, reduceCtorEq, Nat.reduceAdd, Nat.reduceMul, List.zip_cons_cons, List.zip_nil_left, List.zip_nil_right, List.forall_mem_nil]
        first | done | simp
    · have g1 : decide ((i : Int) < (path.length : Int)) = false := by simpa using hlt
      have hdr : path.drop i = [] := List.drop_of_length_le (by omega)
      rw [hdr, climbS] at hcl
      simp only [runA, runB, runC, runD, runE, runF, fieldE, storeE, binE, ↓reduceIte, Nat.reduceLT, Nat.reduceLeDiff, Nat.reduceEqDiff, Nat.reduceAdd, Nat.reduceMul, Nat.reduceSub, reduceCtorEq, putAt, unE, Nat.reduceBEq, convE, buildE, List.replicate, Int.reduceLT, Int.reduceLE, Int.reduceToNat, mkE, mapSetE, hN, hF, ty_3, ty_5, ty_9, ty_24, ty_47, notIf, isEq, g1, texts_length]
      simp only [runB, finC, finD, Option.isSome_some, Option.isSome_none, ↓reduceIte, Nat.reduceEqDiff, Nat.reduceAdd, Nat.reduceMul, forall_eq_or_imp, forall_eq, implies_true, Nat.reduceBEq, reduceCtorEq, false_implies, List.zip_cons_cons, List.zip_nil_left, List.zip_nil_right, Nat.reduceLeDiff, List.forall_mem_nil, rs_139, hcl]

structure Pa where
  l : List (List UInt8)
  a : Int
open Go Go.Proofs Go.RowKit Go.Shelf

variable {Γ : FuncId → Contract}

/-- Two lists of texts. -/
structure Tx2 where
  a : List (List UInt8)
  b : List (List UInt8)
open Go Go.RowKit

variable {Γ : FuncId → Contract} {E : Env}


variable {Γ : FuncId → Contract}

noncomputable def upN (l : List (List UInt8)) : Nat → List (List UInt8)
  | 0 => l
  | i + 1 => upS (upN l i)
theorem upN_up (l : List (List UInt8)) : ∀ i, upN (upS l) i = upN l (i + 1)
  | 0 => rfl
  | i + 1 => by rw [upN, upN_up l i]; rfl
theorem depth : ∀ (n : Nat) (l : List (List UInt8)), l.length ≤ n → ∃ k, (∀ i, i < k → 1 < (upN l i).length) ∧ (upN l k).length ≤ 1
  | 0, l, h => ⟨0, fun i hi => by omega, by show l.length ≤ 1; omega⟩
  | n + 1, l, h => by
    by_cases h1 : l.length ≤ 1
    · exact ⟨0, fun i hi => by omega, h1⟩
    · have hl := upS_length l
      obtain ⟨k, h2, h3⟩ := depth n (upS l) (by omega)
      refine ⟨k + 1, fun i hi => ?_, by rw [← upN_up]; exact h3⟩
      cases i with
      | zero => show 1 < l.length; omega
      | succ i => rw [← upN_up]; exact h2 i (by omega)

variable {Γ : FuncId → Contract}

end Go.Proofs.YtenmlgalcjkdbaaGreat.AM
