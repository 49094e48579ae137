/-
  QC: Tx0 Sg1 Sg2.
-/
import Derived.Test.YtenmlgalcjkdbaaGreatQP
import Derived.Test.YtenmlgalcjkdbaaGreatQ8
import Derived.Test.YtenmlgalcjkdbaaGreatQ7
set_option linter.unusedVariables false
set_option linter.unusedSimpArgs false
namespace Go.Proofs.YtenmlgalcjkdbaaGreat.AM
open Go

def rd (r : RS) (most : Int) : Int × RS := if r.e = 0 then nextN ⟨r.b, 0⟩ most else (0, r)

variable {Γ : FuncId → Contract}

structure Sd where
  seed : List UInt8
  leaf : Int
  place : Int
/-- So many steps on. -/
def chainS (s : List UInt8) : Nat → List UInt8
  | 0 => s
  | n + 1 => shortS (chainS s n)
theorem chainS_length (s : List UInt8) (n : Nat) (h : s.length ≤ 1000000) : (chainS s n).length ≤ 1000000 := by
  cases n with
  | zero => exact h
  | succ n => show (shortS _).length ≤ _; rw [shortS_length]; decide
noncomputable def chainC : Contract := mkC (α := List UInt8 × Nat) (fun p => p.1.length ≤ 1000000 ∧ p.2 ≤ 3) (fun p => [.c (.str p.1), .c (.int .i64 (p.2 : Int))]) (fun _ => []) (fun p => ⟨[.pv (.c (.str (chainS p.1 p.2)))], []⟩)
theorem chain_at (s : List UInt8) (n : Nat) (h : s.length ≤ 1000000) (h3 : n ≤ 3) : chainC [.c (.str s), .c (.int .i64 (n : Int))] [] = some ⟨[.pv (.c (.str (chainS s n)))], []⟩ :=
  mkC_at (α := List UInt8 × Nat) (s, n) ⟨h, h3⟩ (by
    rintro ⟨a, b⟩ _ h _
    simp only [List.cons.injEq, AV.c.injEq, PC.int.injEq, PC.str.injEq, true_and, and_true] at h
    obtain ⟨rfl, e⟩ := h
    obtain rfl : b = n := by omega
    rfl)

set_option maxRecDepth 100000 in
set_option maxHeartbeats 1000000 in
theorem chain_sound (hΓ : SoundG Tryz.prog Γ) (h2 : Γ 199 = shortC) : SoundC Tryz.prog 142 chainC := by
  refine sound_fn Tryz.func142 (by kernel_rfl) rfl rfl ?_
  intro args objs r hr
  obtain ⟨⟨s, n⟩, ⟨hl, hn⟩, rfl, rfl, rfl⟩ := mkC_inv hr
  refine ⟨rfl, by show 2 ≤ _; decide, fun E hN hns hF => ?_⟩
  refine vc_sound hΓ mixed _ _ _ ?_
  have hN := hN.trans nt_142
  dsimp only at hl hn ⊢
  have g1 : ¬ ((0 : Int) > (n : Int)) := by omega
  have g2 : ¬ ((3 : Int) < (n : Int)) := by omega
  simp only [runA, runB, runC, runD, runE, runF, fieldE, storeE, binE, ↓reduceIte, Nat.reduceLT, Nat.reduceLeDiff, Nat.reduceEqDiff, Nat.reduceAdd, Nat.reduceMul, Nat.reduceSub, reduceCtorEq, putAt, unE, Nat.reduceBEq, convE, buildE, List.replicate, Int.reduceLT, Int.reduceLE, Int.reduceToNat, mkE, mapSetE, hN, hF, ty_3, ty_5, ty_9, ty_47, ty_159, notIf, isEq, g1, g2]
  refine AWP.loop (fun c st => ∃ i : Nat, i ≤ n ∧ c = n - i ∧ st = ⟨[(0, .c (.str (chainS s i))), (7, .c (.int .i64 (n : Int))), (8, .c (.int .i64 (i : Int)))], []⟩) ⟨n, _, ?w, 0, Nat.zero_le _, rfl, rfl⟩ ?r
  case w =>
    rw [hns]
    simp only [runB, finC, finD, AS.get, AS.mem, false_implies, implies_true, ↓reduceIte, Nat.reduceEqDiff, Option.isSome_some, Option.isSome_none, forall_eq_or_imp, forall_eq, reduceCtorEq, Nat.reduceAdd, Nat.reduceMul, List.zip_cons_cons, List.zip_nil_left, List.zip_nil_right, List.forall_mem_nil, chainS]
    first | done | simp
  case r =>
    rintro c st ⟨i, hi, rfl, rfl⟩
    refine vc_sound hΓ mixed _ _ _ ?_
    by_cases hlt : i < n
    · have h1 : decide ((i : Int) < (n : Int)) = true := by simpa using hlt
      have e1 : IntKind.i64.wrap ((i : Int) + 1) = (i : Int) + 1 := wrapI (by omega)
      have hcl := chainS_length s i hl
      have hs := short_at [chainS s i] ⟨by simp; omega, by simp⟩
      have he : shortS ([chainS s i].flatten) = chainS s (i + 1) := by simp [chainS]
      rw [he] at hs
      have h1s : [[PC.sl (bytes (chainS s i))]] = slices [chainS s i] := rfl
      simp only [runA, runB, runC, runD, runE, runF, fieldE, storeE, binE, ↓reduceIte, Nat.reduceLT, Nat.reduceLeDiff, Nat.reduceEqDiff, Nat.reduceAdd, Nat.reduceMul, Nat.reduceSub, reduceCtorEq, putAt, unE, Nat.reduceBEq, convE, buildE, List.replicate, Int.reduceLT, Int.reduceLE, Int.reduceToNat, mkE, mapSetE, hN, hF, ty_3, ty_5, ty_9, ty_47, ty_159, notIf, isEq, h1, e1, h2, h1s, hs]
      refine ⟨n - (i + 1), _, by omega, ?_, i + 1, by omega, rfl, rfl⟩
      rw [hns]
      simp only [runB, finC, finD, AS.get, AS.mem, false_implies, implies_true, ↓reduceIte, Nat.reduceEqDiff, Option.isSome_some, Option.isSome_none, forall_eq_or_imp, forall_eq, reduceCtorEq, Nat.reduceAdd, Nat.reduceMul, List.zip_cons_cons, List.zip_nil_left, List.zip_nil_right, List.forall_mem_nil]
      first | done | simp
    · have h1 : decide ((i : Int) < (n : Int)) = false := by simpa using hlt
      obtain rfl : i = n := by omega
      simp only [runA, runB, runC, runD, runE, runF, fieldE, storeE, binE, ↓reduceIte, Nat.reduceLT, Nat.reduceLeDiff, Nat.reduceEqDiff, Nat.reduceAdd, Nat.reduceMul, Nat.reduceSub, reduceCtorEq, putAt, unE, Nat.reduceBEq, convE, buildE, List.replicate, Int.reduceLT, Int.reduceLE, Int.reduceToNat, mkE, mapSetE, hN, hF, ty_3, ty_5, ty_9, ty_47, ty_159, notIf, isEq, h1]
      simp only [runB, finC, finD, Option.isSome_some, Option.isSome_none, ↓reduceIte, Nat.reduceEqDiff, Nat.reduceAdd, Nat.reduceMul, forall_eq_or_imp, forall_eq, implies_true, Nat.reduceBEq, reduceCtorEq, false_implies, List.zip_cons_cons, List.zip_nil_left, List.zip_nil_right, Nat.reduceLeDiff, List.forall_mem_nil, rs_142]

set_option maxRecDepth 100000 in
set_option maxHeartbeats 1000000 in
theorem refChain_sound (hΓ : SoundG Tryz.prog Γ) (h2 : Γ 195 = short1C) : SoundC Tryz.prog 197 chainC := by
  refine sound_fn Tryz.func197 (by kernel_rfl) rfl rfl ?_
  intro args objs r hr
  obtain ⟨⟨s, n⟩, ⟨hl, hn⟩, rfl, rfl, rfl⟩ := mkC_inv hr
  refine ⟨rfl, by show 2 ≤ _; decide, fun E hN hns hF => ?_⟩
  refine vc_sound hΓ mixed _ _ _ ?_
  have hN := hN.trans nt_197
  dsimp only at hl hn ⊢
  simp only [runA, runB, runC, runD, runE, runF, fieldE, storeE, binE, ↓reduceIte, Nat.reduceLT, Nat.reduceLeDiff, Nat.reduceEqDiff, Nat.reduceAdd, Nat.reduceMul, Nat.reduceSub, reduceCtorEq, putAt, unE, Nat.reduceBEq, convE, buildE, List.replicate, Int.reduceLT, Int.reduceLE, Int.reduceToNat, mkE, mapSetE, hN, hF, ty_3, ty_5, ty_9, ty_47, notIf, isEq]
  refine AWP.loop (fun c st => ∃ i : Nat, i ≤ n ∧ c = n - i ∧ st = ⟨[(0, .c (.str (chainS s i))), (1, .c (.int .i64 (n : Int))), (5, .c (.int .i64 (i : Int)))], []⟩) ⟨n, _, ?w, 0, Nat.zero_le _, rfl, rfl⟩ ?r
  case w =>
    rw [hns]
    simp only [runB, finC, finD, AS.get, AS.mem, false_implies, implies_true, ↓reduceIte, Nat.reduceEqDiff, Option.isSome_some, Option.isSome_none, forall_eq_or_imp, forall_eq, reduceCtorEq, Nat.reduceAdd, Nat.reduceMul, List.zip_cons_cons, List.zip_nil_left, List.zip_nil_right, List.forall_mem_nil, chainS]
    first | done | simp
  case r =>
    rintro c st ⟨i, hi, rfl, rfl⟩
    refine vc_sound hΓ mixed _ _ _ ?_
    by_cases hlt : i < n
    · have h1 : decide ((i : Int) < (n : Int)) = true := by simpa using hlt
      have h3 : decide ((i : Int) < 3) = true := by simp; omega
      have e1 : IntKind.i64.wrap ((i : Int) + 1) = (i : Int) + 1 := wrapI (by omega)
      have hcl := chainS_length s i hl
      have hs := short1_at (chainS s i) (by omega)
      have he : shortS (chainS s i) = chainS s (i + 1) := rfl
      rw [he] at hs
      simp only [runA, runB, runC, runD, runE, runF, fieldE, storeE, binE, ↓reduceIte, Nat.reduceLT, Nat.reduceLeDiff, Nat.reduceEqDiff, Nat.reduceAdd, Nat.reduceMul, Nat.reduceSub, reduceCtorEq, putAt, unE, Nat.reduceBEq, convE, buildE, List.replicate, Int.reduceLT, Int.reduceLE, Int.reduceToNat, mkE, mapSetE, hN, hF, ty_3, ty_5, ty_9, ty_47, notIf, isEq, h1, h3, e1, h2, hs]
      refine ⟨n - (i + 1), _, by omega, ?_, i + 1, by omega, rfl, rfl⟩
      rw [hns]
      simp only [runB, finC, finD, AS.get, AS.mem, false_implies, implies_true, ↓reduceIte, Nat.reduceEqDiff, Option.isSome_some, Option.isSome_none, forall_eq_or_imp, forall_eq, reduceCtorEq, Nat.reduceAdd, Nat.reduceMul, List.zip_cons_cons, List.zip_nil_left, List.zip_nil_right, List.forall_mem_nil]
      first | done | simp
    · have h1 : decide ((i : Int) < (n : Int)) = false := by simpa using hlt
      obtain rfl : i = n := by omega
      simp only [runA, runB, runC, runD, runE, runF, fieldE, storeE, binE, ↓reduceIte, Nat.reduceLT, Nat.reduceLeDiff, Nat.reduceEqDiff, Nat.reduceAdd, Nat.reduceMul, Nat.reduceSub, reduceCtorEq, putAt, unE, Nat.reduceBEq, convE, buildE, List.replicate, Int.reduceLT, Int.reduceLE, Int.reduceToNat, mkE, mapSetE, hN, hF, ty_3, ty_5, ty_9, ty_47, notIf, isEq, h1]
      simp only [runB, finC, finD, Option.isSome_some, Option.isSome_none, ↓reduceIte, Nat.reduceEqDiff, Nat.reduceAdd, Nat.reduceMul, forall_eq_or_imp, forall_eq, implies_true, Nat.reduceBEq, reduceCtorEq, false_implies, List.zip_cons_cons, List.zip_nil_left, List.zip_nil_right, Nat.reduceLeDiff, List.forall_mem_nil, rs_197]

def endedOK (l : List (List UInt8)) : Prop := l.flatten.length ≤ 1000000000 ∧ l.length ≤ 1000000000
noncomputable def endedC : Contract := mkC (α := List (List UInt8)) endedOK (fun l => [.c (.sl (texts l))]) (fun _ => []) (fun l => ⟨[.pv (.c (.str (shortS l.flatten)))], []⟩)
theorem ended_at (l : List (List UInt8)) (h : endedOK l) : endedC [.c (.sl (texts l))] [] = some ⟨[.pv (.c (.str (shortS l.flatten)))], []⟩ :=
  mkC_at (α := List (List UInt8)) l h (fun y _ h1 _ => by
    simp at h1
    rw [texts_inj h1])

set_option maxRecDepth 100000 in
set_option maxHeartbeats 1000000 in
theorem ended_sound (hΓ : SoundG Tryz.prog Γ) (h2 : Γ 199 = shortC) : SoundC Tryz.prog 144 endedC := by
  refine sound_fn Tryz.func144 (by kernel_rfl) rfl rfl ?_
  intro args objs r hr
  obtain ⟨l, ⟨hl1, hl2⟩, rfl, rfl, rfl⟩ := mkC_inv hr
  refine ⟨rfl, by show 1 ≤ _; decide, fun E hN hns hF => ?_⟩
  refine vc_sound hΓ mixed _ _ _ ?_
  have hN := hN.trans nt_144
  simp only [runA, runB, runC, runD, runE, runF, fieldE, storeE, binE, ↓reduceIte, Nat.reduceLT, Nat.reduceLeDiff, Nat.reduceEqDiff, Nat.reduceAdd, Nat.reduceMul, Nat.reduceSub, reduceCtorEq, putAt, unE, Nat.reduceBEq, convE, buildE, List.replicate, Int.reduceLT, Int.reduceLE, Int.reduceToNat, mkE, mapSetE, hN, hF, ty_3, ty_5, ty_9, ty_24, ty_47, ty_159, notIf, isEq, texts_length]
  refine AWP.loop (fun c st => ∃ i : Nat, i ≤ l.length ∧ c = l.length - i ∧ st = ⟨[(3, .own 897 1 (bytes (l.take i).flatten)), (6, .c (.sl (texts l))), (7, .c (.int .i64 (l.length : Int))), (8, .c (.int .i64 (i : Int)))], [(897, .row 1 (l.take i).flatten.length)]⟩) ⟨l.length, _, ?w, 0, Nat.zero_le _, rfl, rfl⟩ ?r
  case w =>
    rw [hns]
    simp only [runB, finC, finD, AS.get, AS.mem, false_implies, implies_true, ↓reduceIte, Nat.reduceEqDiff, Option.isSome_some, Option.isSome_none, forall_eq_or_imp, forall_eq, reduceCtorEq, Nat.reduceAdd, Nat.reduceMul, List.zip_cons_cons, List.zip_nil_left, List.zip_nil_right, List.forall_mem_nil]
    simp [bytes]
  case r =>
    rintro c st ⟨i, hi, rfl, rfl⟩
    refine vc_sound hΓ mixed _ _ _ ?_
    by_cases hlt : i < l.length
    · have h1 : decide ((i : Int) < (l.length : Int)) = true := by simpa using hlt
      obtain ⟨b, hb⟩ : ∃ b, l[i]? = some b := ⟨l[i], by simp [hlt]⟩
      have hbr : (texts l)[i]? = some [PC.str b] := by simp [texts, hb]
      have hs := flat_succ hb
      have hle := flat_take l (i + 1)
      rw [hs, List.length_append] at hle
      have e1 : IntKind.i64.wrap ((i : Int) + 1) = (i : Int) + 1 := wrapI (by omega)
      have hz := rowsOK_bytes
      have hL : (l.take i).flatten.length + b.length ≤ 140737488355328 := by omega
      simp only [runA, runB, runC, runD, runE, runF, fieldE, storeE, binE, ↓reduceIte, Nat.reduceLT, Nat.reduceLeDiff, Nat.reduceEqDiff, Nat.reduceAdd, Nat.reduceMul, Nat.reduceSub, reduceCtorEq, putAt, unE, Nat.reduceBEq, convE, buildE, List.replicate, Int.reduceLT, Int.reduceLE, Int.reduceToNat, mkE, mapSetE, hN, hF, ty_3, ty_5, ty_9, ty_24, ty_47, ty_159, notIf, isEq, h1, hbr, e1, hz, hL, bytes_length, bytes_app, ← hs]
      refine ⟨l.length - (i + 1), _, by omega, ?_, i + 1, by omega, rfl, rfl⟩
      rw [hns]
      simp only [runB, finC, finD, AS.get, AS.mem, false_implies, implies_true, ↓reduceIte, Nat.reduceEqDiff, Option.isSome_some, Option.isSome_none, forall_eq_or_imp, forall_eq, reduceCtorEq, Nat.reduceAdd, Nat.reduceMul, List.zip_cons_cons, List.zip_nil_left, List.zip_nil_right, List.forall_mem_nil]
      first | done | (rw [hs]; simp)
    · have h1 : decide ((i : Int) < (l.length : Int)) = false := by simpa using hlt
      obtain rfl : i = l.length := by omega
      have hs := short_at [l.flatten] ⟨by simp; rw [List.length_flatten] at hl1; omega, by simp⟩
      rw [show [l.flatten].flatten = l.flatten from by simp] at hs
      have h1s : [[PC.sl (bytes l.flatten)]] = slices [l.flatten] := rfl
      simp only [runA, runB, runC, runD, runE, runF, fieldE, storeE, binE, ↓reduceIte, Nat.reduceLT, Nat.reduceLeDiff, Nat.reduceEqDiff, Nat.reduceAdd, Nat.reduceMul, Nat.reduceSub, reduceCtorEq, putAt, unE, Nat.reduceBEq, convE, buildE, List.replicate, Int.reduceLT, Int.reduceLE, Int.reduceToNat, mkE, mapSetE, hN, hF, ty_3, ty_5, ty_9, ty_24, ty_47, ty_159, notIf, isEq, h1, h2, h1s, hs, List.take_length]
      simp only [runB, finC, finD, Option.isSome_some, Option.isSome_none, ↓reduceIte, Nat.reduceEqDiff, Nat.reduceAdd, Nat.reduceMul, forall_eq_or_imp, forall_eq, implies_true, Nat.reduceBEq, reduceCtorEq, false_implies, List.zip_cons_cons, List.zip_nil_left, List.zip_nil_right, Nat.reduceLeDiff, List.forall_mem_nil, rs_144]


variable {Γ : FuncId → Contract}

theorem shl_pow (h : Nat) (h4 : h ≤ 4) : shOp .shl .i64 1 (h : Int) = some (.int .i64 ((2 ^ h : Nat) : Int)) := by
  have : h = 0 ∨ h = 1 ∨ h = 2 ∨ h = 3 ∨ h = 4 := by omega
  rcases this with rfl | rfl | rfl | rfl | rfl <;> rfl

end Go.Proofs.YtenmlgalcjkdbaaGreat.AM
