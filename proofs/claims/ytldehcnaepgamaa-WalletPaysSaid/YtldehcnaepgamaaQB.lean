/-
  QB: Sn4 Sn5 Sn6.
-/
import Derived.Test.YtldehcnaepgamaaQA
import Derived.Test.YtldehcnaepgamaaQ9
set_option linter.unusedVariables false
set_option linter.unusedSimpArgs false
namespace Go.Proofs.Ytldehcnaepgamaa.AM
open Go

variable {Γ : FuncId → Contract}

structure Ky where
  seed : List UInt8
  leaves : List (List UInt8)
  next : Int
  deriving DecidableEq
def Ky.av (k : Ky) : AV := .agg [.c (.str k.seed), .c (.sl (texts k.leaves)), .c (.int .i64 k.next)]
theorem Ky.av_inj {a b : Ky} (h : a.av = b.av) : a = b := by
  obtain ⟨a1, a2, a3⟩ := a
  obtain ⟨b1, b2, b3⟩ := b
  simp only [Ky.av, AV.agg.injEq, List.cons.injEq, AV.c.injEq, PC.str.injEq, PC.sl.injEq, PC.int.injEq, true_and, and_true] at h
  obtain ⟨rfl, h, rfl⟩ := h
  rw [texts_inj h]
def okN16 (n : Nat) : Prop := n = 1 ∨ n = 2 ∨ n = 4 ∨ n = 8 ∨ n = 16
instance (n : Nat) : Decidable (okN16 n) := inferInstanceAs (Decidable (_ ∨ _))
def goodK (k : Ky) : Prop := k.seed.length ≤ 64 ∧ okN16 k.leaves.length ∧ all8 k.leaves ∧ 0 ≤ k.next ∧ k.next ≤ (k.leaves.length : Int)
instance (k : Ky) : Decidable (goodK k) := inferInstanceAs (Decidable (_ ∧ _))
def keyS (k : Ky) : Int := if goodK k then 0 else 9
theorem goodK.okl {k : Ky} (h : goodK k) : Okl k.leaves := by
  obtain ⟨_, h1, h2, _⟩ := h
  refine ⟨by unfold okN16 at h1; omega, fun s hs => by rw [h2 s hs]; decide⟩

def oddC : Contract := fun args objs => match args, objs with
  | [.c (.str s)], [] => some ⟨[.pv (.c (.bool ((s.length : Int) != 8)))], []⟩
  | _, _ => none
set_option maxHeartbeats 1000000 in
theorem odd_sound : SoundC Try.prog 64 oddC := by
  refine sound_fn Try.func64 (by kernel_rfl) rfl rfl ?_
  intro args objs r hr
  unfold oddC at hr
  split at hr
  · rename_i s
    cases hr
    refine ⟨rfl, by show 1 ≤ _; decide, fun E hN hns hF => ?_⟩
    refine vc_sound none0_sound mixed _ _ _ ?_
    have hN := hN.trans nt_64
    simp only [runA, runB, runC, runD, runE, runF, fieldE, storeE, binE, ↓reduceIte, Nat.reduceLT, Nat.reduceLeDiff, Nat.reduceEqDiff, Nat.reduceAdd, Nat.reduceMul, Nat.reduceSub, reduceCtorEq, putAt, unE, Nat.reduceBEq, convE, buildE, List.replicate, Int.reduceLT, Int.reduceLE, Int.reduceToNat, mkE, mapSetE, hN, hF, ty_3, ty_4, ty_9, notIf, isEq]
    simp only [runB, finC, finD, Option.isSome_some, Option.isSome_none, ↓reduceIte, Nat.reduceEqDiff, Nat.reduceAdd, Nat.reduceMul, forall_eq_or_imp, forall_eq, implies_true, Nat.reduceBEq, reduceCtorEq, false_implies, List.zip_cons_cons, List.zip_nil_left, List.zip_nil_right, Nat.reduceLeDiff, List.forall_mem_nil, rs_64]
  · cases hr
def oddIdx (l : List (List UInt8)) : Int := match l.findIdx? (fun s => s.length != 8) with | some i => (i : Int) | none => -1
theorem oddIdx_some {l : List (List UInt8)} {i : Nat} (hi : i < l.length) (h : (l.getD i []).length ≠ 8) (hb : ∀ k, k < i → (l.getD k []).length = 8) : oddIdx l = (i : Int) := by
  have : l.findIdx? (fun s => s.length != 8) = some i := by
    rw [List.findIdx?_eq_some_iff_getElem]
    refine ⟨hi, ?_, fun j hj => ?_⟩
    · rw [List.getD, List.getElem?_eq_getElem hi] at h
      simpa using h
    · have := hb j hj
      rw [List.getD, List.getElem?_eq_getElem (by omega)] at this
      simpa using this
  unfold oddIdx
  rw [this]
theorem oddIdx_none {l : List (List UInt8)} (h : all8 l) : oddIdx l = -1 := by
  have : l.findIdx? (fun s => s.length != 8) = none := by
    rw [List.findIdx?_eq_none_iff]
    intro x hx
    simp [h x hx]
  unfold oddIdx
  rw [this]
theorem all8_of {l : List (List UInt8)} (h : ∀ k, k < l.length → (l.getD k []).length = 8) : all8 l := fun p hp => by
  obtain ⟨k, hk, rfl⟩ := List.getElem_of_mem hp
  have := h k hk
  rw [List.getD, List.getElem?_eq_getElem hk] at this
  exact this
theorem oddIdx_ge (l : List (List UInt8)) : decide (oddIdx l ≥ 0) = !decide (all8 l) := by
  by_cases h : all8 l
  · rw [oddIdx_none h, decide_eq_true h]; rfl
  · rw [decide_eq_false h]
    have : ∃ i, l.findIdx? (fun s => s.length != 8) = some i := by
      cases hf : l.findIdx? (fun s => s.length != 8) with
      | some i => exact ⟨i, rfl⟩
      | none =>
        rw [List.findIdx?_eq_none_iff] at hf
        exact absurd (fun p hp => by simpa using hf p hp) h
    obtain ⟨i, hi⟩ := this
    unfold oddIdx
    rw [hi]
    simp
noncomputable def idxFC : Contract := mkC (α := List (List UInt8)) (fun l => l.length ≤ 9223372036854775807) (fun l => [.c (.sl (texts l)), .clo 64 []]) (fun _ => []) (fun l => ⟨[.pv (.c (.int .i64 (oddIdx l)))], []⟩)
theorem idxF_at (l : List (List UInt8)) (h : l.length ≤ 9223372036854775807) : idxFC [.c (.sl (texts l)), .clo 64 []] [] = some ⟨[.pv (.c (.int .i64 (oddIdx l)))], []⟩ :=
  mkC_at (α := List (List UInt8)) l h (by
    rintro y _ h _
    simp only [List.cons.injEq, AV.c.injEq, PC.sl.injEq, true_and, and_true] at h
    rw [texts_inj h])
set_option maxHeartbeats 1000000 in
theorem idxF_sound (hΓ : SoundG Try.prog Γ) (h1 : Γ 64 = oddC) : SoundC Try.prog 108 idxFC := by
  refine sound_fn Try.func108 (by kernel_rfl) rfl rfl ?_
  intro args objs r hr
  obtain ⟨l, hl, rfl, rfl, rfl⟩ := mkC_inv hr
  have hl : l.length ≤ 9223372036854775807 := hl
  refine ⟨rfl, by show 2 ≤ _; decide, fun E hN hns hF => ?_⟩
  refine vc_sound hΓ mixed _ _ _ ?_
  have hN := hN.trans nt_108
  simp only [runA, runB, runC, runD, runE, runF, fieldE, storeE, binE, ↓reduceIte, Nat.reduceLT, Nat.reduceLeDiff, Nat.reduceEqDiff, Nat.reduceAdd, Nat.reduceMul, Nat.reduceSub, reduceCtorEq, putAt, unE, Nat.reduceBEq, convE, buildE, List.replicate, Int.reduceLT, Int.reduceLE, Int.reduceToNat, mkE, mapSetE, hN, hF, ty_3, ty_9, ty_22, notIf, isEq, texts_length]
  refine AWP.loop (fun k st => ∃ i : Nat, (i ≤ l.length ∧ ∀ k, k < i → (l.getD k []).length = 8) ∧ k = l.length - i ∧ st = ⟨[(0, .c (.sl (texts l))), (1, .clo 64 []), (7, .c (.int .i64 (l.length : Int))), (8, .c (.int .i64 (i : Int)))], []⟩) ⟨l.length, _, ?w, 0, ⟨Nat.zero_le _, fun k hk => absurd hk (Nat.not_lt_zero k)⟩, rfl, rfl⟩ ?r
  case w =>
    rw [hns]
    simp only [runB, finC, finD, AS.get, AS.mem, false_implies, implies_true, ↓reduceIte, Nat.reduceEqDiff, Option.isSome_some, Option.isSome_none, forall_eq_or_imp, forall_eq, reduceCtorEq, Nat.reduceAdd, Nat.reduceMul, List.zip_cons_cons, List.zip_nil_left, List.zip_nil_right, List.forall_mem_nil]
    first | done | simp
  case r =>
    rintro k st ⟨i, ⟨hi, h8⟩, rfl, rfl⟩
    refine vc_sound hΓ mixed _ _ _ ?_
    by_cases hlt : i < l.length
    · have k1 : decide ((i : Int) < (l.length : Int)) = true := by simpa using hlt
      have e1 : IntKind.i64.wrap ((i : Int) + 1) = (i : Int) + 1 := wrapI (by omega)
      have hg := textsD l i hlt
      by_cases hp8 : (l.getD i []).length = 8
      · have k2 : (((l.getD i []).length : Int) != 8) = false := ne8f hp8
        have h8' : ∀ k, k < i + 1 → (l.getD k []).length = 8 := fun k hk => by
          by_cases e : k = i
          · rw [e]; exact hp8
          · exact h8 k (by omega)
        generalize l.getD i [] = q at hg k2
        simp only [runA, runB, runC, runD, runE, runF, fieldE, storeE, binE, ↓reduceIte, Nat.reduceLT, Nat.reduceLeDiff, Nat.reduceEqDiff, Nat.reduceAdd, Nat.reduceMul, Nat.reduceSub, reduceCtorEq, putAt, unE, Nat.reduceBEq, convE, buildE, List.replicate, Int.reduceLT, Int.reduceLE, Int.reduceToNat, mkE, mapSetE, hN, hF, ty_3, ty_9, ty_22, notIf, isEq, k1, k2, e1, hg, h1, oddC]
        refine ⟨l.length - (i + 1), _, by omega, ?_, i + 1, ⟨by omega, h8'⟩, rfl, rfl⟩
        rw [hns]
        simp only [runB, finC, finD, AS.get, AS.mem, false_implies, implies_true, ↓reduceIte, Nat.reduceEqDiff, Option.isSome_some, Option.isSome_none, forall_eq_or_imp, forall_eq, reduceCtorEq, Nat.reduceAdd, Nat.reduceMul, List.zip_cons_cons, List.zip_nil_left, List.zip_nil_right, List.forall_mem_nil]
        first | done | simp
      · have k2 : (((l.getD i []).length : Int) != 8) = true := ne8t hp8
        have hS := oddIdx_some hlt hp8 h8
        generalize l.getD i [] = q at hg k2
        simp only [runA, runB, runC, runD, runE, runF, fieldE, storeE, binE, ↓reduceIte, Nat.reduceLT, Nat.reduceLeDiff, Nat.reduceEqDiff, Nat.reduceAdd, Nat.reduceMul, Nat.reduceSub, reduceCtorEq, putAt, unE, Nat.reduceBEq, convE, buildE, List.replicate, Int.reduceLT, Int.reduceLE, Int.reduceToNat, mkE, mapSetE, hN, hF, ty_3, ty_9, ty_22, notIf, isEq, k1, k2, e1, hg, h1, oddC]
        simp only [runB, finC, finD, Option.isSome_some, Option.isSome_none, ↓reduceIte, Nat.reduceEqDiff, Nat.reduceAdd, Nat.reduceMul, forall_eq_or_imp, forall_eq, implies_true, Nat.reduceBEq, reduceCtorEq, false_implies, List.zip_cons_cons, List.zip_nil_left, List.zip_nil_right, Nat.reduceLeDiff, List.forall_mem_nil, rs_108, hS]
    · have k1 : decide ((i : Int) < (l.length : Int)) = false := by simpa using hlt
      obtain rfl : i = l.length := by omega
      have hS := oddIdx_none (all8_of h8)
      simp only [runA, runB, runC, runD, runE, runF, fieldE, storeE, binE, ↓reduceIte, Nat.reduceLT, Nat.reduceLeDiff, Nat.reduceEqDiff, Nat.reduceAdd, Nat.reduceMul, Nat.reduceSub, reduceCtorEq, putAt, unE, Nat.reduceBEq, convE, buildE, List.replicate, Int.reduceLT, Int.reduceLE, Int.reduceToNat, mkE, mapSetE, hN, hF, ty_3, ty_9, ty_22, notIf, isEq, k1]
      simp only [runB, finC, finD, Option.isSome_some, Option.isSome_none, ↓reduceIte, Nat.reduceEqDiff, Nat.reduceAdd, Nat.reduceMul, forall_eq_or_imp, forall_eq, implies_true, Nat.reduceBEq, reduceCtorEq, false_implies, List.zip_cons_cons, List.zip_nil_left, List.zip_nil_right, Nat.reduceLeDiff, List.forall_mem_nil, rs_108, hS]

noncomputable def conFC : Contract := mkC (α := List (List UInt8)) (fun l => l.length ≤ 9223372036854775807) (fun l => [.c (.sl (texts l)), .clo 64 []]) (fun _ => []) (fun l => ⟨[.pv (.c (.bool (!decide (all8 l))))], []⟩)
theorem conF_at (l : List (List UInt8)) (h : l.length ≤ 9223372036854775807) : conFC [.c (.sl (texts l)), .clo 64 []] [] = some ⟨[.pv (.c (.bool (!decide (all8 l))))], []⟩ :=
  mkC_at (α := List (List UInt8)) l h (by
    rintro y _ h _
    simp only [List.cons.injEq, AV.c.injEq, PC.sl.injEq, true_and, and_true] at h
    rw [texts_inj h])
set_option maxHeartbeats 1000000 in
theorem conF_sound (hΓ : SoundG Try.prog Γ) (h1 : Γ 108 = idxFC) : SoundC Try.prog 65 conFC := by
  refine sound_fn Try.func65 (by kernel_rfl) rfl rfl ?_
  intro args objs r hr
  obtain ⟨l, hl, rfl, rfl, rfl⟩ := mkC_inv hr
  refine ⟨rfl, by show 2 ≤ _; decide, fun E hN hns hF => ?_⟩
  refine vc_sound hΓ mixed _ _ _ ?_
  have hN := hN.trans nt_65
  have h2 := idxF_at l hl
  have h3 := oddIdx_ge l
  simp only [runA, runB, runC, runD, runE, runF, fieldE, storeE, binE, ↓reduceIte, Nat.reduceLT, Nat.reduceLeDiff, Nat.reduceEqDiff, Nat.reduceAdd, Nat.reduceMul, Nat.reduceSub, reduceCtorEq, putAt, unE, Nat.reduceBEq, convE, buildE, List.replicate, Int.reduceLT, Int.reduceLE, Int.reduceToNat, mkE, mapSetE, hN, hF, ty_3, ty_4, ty_9, ty_22, notIf, isEq, h1, h2, h3]
  simp only [runB, finC, finD, Option.isSome_some, Option.isSome_none, ↓reduceIte, Nat.reduceEqDiff, Nat.reduceAdd, Nat.reduceMul, forall_eq_or_imp, forall_eq, implies_true, Nat.reduceBEq, reduceCtorEq, false_implies, List.zip_cons_cons, List.zip_nil_left, List.zip_nil_right, Nat.reduceLeDiff, List.forall_mem_nil, rs_65]

theorem and_p16 (n : Nat) (h1 : 1 ≤ n) (h : n ≤ 16) : (IntKind.i64.wrap (((BitVec.ofInt IntKind.i64.bits (n : Int) &&& BitVec.ofInt IntKind.i64.bits ((n - 1 : Nat) : Int)).toNat : Nat) : Int) != 0) = !decide (okN16 n) := by
  have : n = 1 ∨ n = 2 ∨ n = 3 ∨ n = 4 ∨ n = 5 ∨ n = 6 ∨ n = 7 ∨ n = 8 ∨ n = 9 ∨ n = 10 ∨ n = 11 ∨ n = 12 ∨ n = 13 ∨ n = 14 ∨ n = 15 ∨ n = 16 := by omega
  rcases this with rfl | rfl | rfl | rfl | rfl | rfl | rfl | rfl | rfl | rfl | rfl | rfl | rfl | rfl | rfl | rfl <;> rfl

noncomputable def keyC : Contract := mkC (α := Ky) (fun k => k.leaves.length ≤ 9223372036854775807) (fun k => [k.av]) (fun _ => []) (fun k => ⟨[.pv (.c (.int .i64 (keyS k)))], []⟩)
theorem key_at (k : Ky) (h : k.leaves.length ≤ 9223372036854775807) : keyC [.agg [.c (.str k.seed), .c (.sl (texts k.leaves)), .c (.int .i64 k.next)]] [] = some ⟨[.pv (.c (.int .i64 (keyS k)))], []⟩ :=
  mkC_at (α := Ky) k h (by
    rintro y _ h _
    have h' : [y.av] = [k.av] := h
    have e : y = k := Ky.av_inj (by simpa using h')
    rw [e])

set_option maxRecDepth 100000 in
set_option maxHeartbeats 4000000 in
theorem key_sound (hΓ : SoundG Try.prog Γ) (h1 : Γ 65 = conFC) : SoundC Try.prog 19 keyC := by
  refine sound_fn Try.func19 (by kernel_rfl) rfl rfl ?_
  intro args objs r hr
  obtain ⟨⟨seed, leaves, next⟩, hl, rfl, rfl, rfl⟩ := mkC_inv hr
  have hl : leaves.length ≤ 9223372036854775807 := hl
  refine ⟨rfl, by show 1 ≤ _; decide, fun E hN hns hF => ?_⟩
  refine vc_sound hΓ mixed _ _ _ ?_
  have hN := hN.trans nt_19
  have hc := conF_at leaves hl
  have hB : ∀ b, keyS ⟨seed, leaves, next⟩ = b → True := fun _ _ => trivial
  unfold Ky.av
  by_cases hca : seed.length ≤ 64
  case neg =>
    have ga : decide ((seed.length : Int) > 64) = true := by simp; omega
    have hS : keyS ⟨seed, leaves, next⟩ = 9 := if_neg (by rintro ⟨a1, a2, a3, a4, a5⟩; exact hca a1)
    simp only [runA, runB, runC, runD, runE, runF, fieldE, storeE, binE, ↓reduceIte, Nat.reduceLT, Nat.reduceLeDiff, Nat.reduceEqDiff, Nat.reduceAdd, Nat.reduceMul, Nat.reduceSub, reduceCtorEq, putAt, unE, Nat.reduceBEq, convE, buildE, List.replicate, Int.reduceLT, Int.reduceLE, Int.reduceToNat, mkE, mapSetE, hN, hF, ty_3, ty_9, ty_22, ty_24, ty_27, notIf, isEq, texts_length, ga]
    simp only [runB, finC, finD, Option.isSome_some, Option.isSome_none, ↓reduceIte, Nat.reduceEqDiff, Nat.reduceAdd, Nat.reduceMul, forall_eq_or_imp, forall_eq, implies_true, Nat.reduceBEq, reduceCtorEq, false_implies, List.zip_cons_cons, List.zip_nil_left, List.zip_nil_right, Nat.reduceLeDiff, List.forall_mem_nil, rs_19, hS]
  have ga : decide ((seed.length : Int) > 64) = false := by simp; omega
  by_cases hcb : leaves.length = 0
  case pos =>
    have gb : ((leaves.length : Int) == 0) = true := by rw [hcb]; rfl
    have hS : keyS ⟨seed, leaves, next⟩ = 9 := if_neg (by rintro ⟨a1, a2, a3, a4, a5⟩; rw [show leaves.length = 0 from hcb] at a2; exact absurd a2 (by decide))
    simp only [runA, runB, runC, runD, runE, runF, fieldE, storeE, binE, ↓reduceIte, Nat.reduceLT, Nat.reduceLeDiff, Nat.reduceEqDiff, Nat.reduceAdd, Nat.reduceMul, Nat.reduceSub, reduceCtorEq, putAt, unE, Nat.reduceBEq, convE, buildE, List.replicate, Int.reduceLT, Int.reduceLE, Int.reduceToNat, mkE, mapSetE, hN, hF, ty_3, ty_9, ty_22, ty_24, ty_27, notIf, isEq, texts_length, ga, gb]
    simp only [runB, finC, finD, Option.isSome_some, Option.isSome_none, ↓reduceIte, Nat.reduceEqDiff, Nat.reduceAdd, Nat.reduceMul, forall_eq_or_imp, forall_eq, implies_true, Nat.reduceBEq, reduceCtorEq, false_implies, List.zip_cons_cons, List.zip_nil_left, List.zip_nil_right, Nat.reduceLeDiff, List.forall_mem_nil, rs_19, hS]
  have gb : ((leaves.length : Int) == 0) = false := by rw [beq_eq_false_iff_ne]; omega
  by_cases hcc : leaves.length ≤ 16
  case neg =>
    have gc : decide ((leaves.length : Int) > 16) = true := by simp; omega
    have hS : keyS ⟨seed, leaves, next⟩ = 9 := if_neg (by rintro ⟨a1, a2, a3, a4, a5⟩; exact hcc (by unfold okN16 at a2; dsimp only at a2; omega))
    simp only [runA, runB, runC, runD, runE, runF, fieldE, storeE, binE, ↓reduceIte, Nat.reduceLT, Nat.reduceLeDiff, Nat.reduceEqDiff, Nat.reduceAdd, Nat.reduceMul, Nat.reduceSub, reduceCtorEq, putAt, unE, Nat.reduceBEq, convE, buildE, List.replicate, Int.reduceLT, Int.reduceLE, Int.reduceToNat, mkE, mapSetE, hN, hF, ty_3, ty_9, ty_22, ty_24, ty_27, notIf, isEq, texts_length, ga, gb, gc]
    simp only [runB, finC, finD, Option.isSome_some, Option.isSome_none, ↓reduceIte, Nat.reduceEqDiff, Nat.reduceAdd, Nat.reduceMul, forall_eq_or_imp, forall_eq, implies_true, Nat.reduceBEq, reduceCtorEq, false_implies, List.zip_cons_cons, List.zip_nil_left, List.zip_nil_right, Nat.reduceLeDiff, List.forall_mem_nil, rs_19, hS]
  have gc : decide ((leaves.length : Int) > 16) = false := by simp; omega
  have ew : IntKind.i64.wrap ((leaves.length : Int) - 1) = ((leaves.length - 1 : Nat) : Int) := by rw [wrapI (by omega)]; omega
  have hap := and_p16 leaves.length (by omega) hcc
  by_cases hcd : okN16 leaves.length
  case neg =>
    rw [decide_eq_false hcd] at hap
    have gd : (!false) = true := rfl
    rw [gd] at hap
    have hS : keyS ⟨seed, leaves, next⟩ = 9 := if_neg (by rintro ⟨a1, a2, a3, a4, a5⟩; exact hcd a2)
    simp only [runA, runB, runC, runD, runE, runF, fieldE, storeE, binE, ↓reduceIte, Nat.reduceLT, Nat.reduceLeDiff, Nat.reduceEqDiff, Nat.reduceAdd, Nat.reduceMul, Nat.reduceSub, reduceCtorEq, putAt, unE, Nat.reduceBEq, convE, buildE, List.replicate, Int.reduceLT, Int.reduceLE, Int.reduceToNat, mkE, mapSetE, hN, hF, ty_3, ty_9, ty_22, ty_24, ty_27, notIf, isEq, texts_length, ga, gb, gc, ew, hap]
    simp only [runB, finC, finD, Option.isSome_some, Option.isSome_none, ↓reduceIte, Nat.reduceEqDiff, Nat.reduceAdd, Nat.reduceMul, forall_eq_or_imp, forall_eq, implies_true, Nat.reduceBEq, reduceCtorEq, false_implies, List.zip_cons_cons, List.zip_nil_left, List.zip_nil_right, Nat.reduceLeDiff, List.forall_mem_nil, rs_19, hS]
  rw [decide_eq_true hcd] at hap
  have gd : (!true) = false := rfl
  rw [gd] at hap
  by_cases hce : all8 leaves
  case neg =>
    rw [decide_eq_false hce] at hc
    have ge : (!false) = true := rfl
    rw [ge] at hc
    have hS : keyS ⟨seed, leaves, next⟩ = 9 := if_neg (by rintro ⟨a1, a2, a3, a4, a5⟩; exact hce a3)
    simp only [runA, runB, runC, runD, runE, runF, fieldE, storeE, binE, ↓reduceIte, Nat.reduceLT, Nat.reduceLeDiff, Nat.reduceEqDiff, Nat.reduceAdd, Nat.reduceMul, Nat.reduceSub, reduceCtorEq, putAt, unE, Nat.reduceBEq, convE, buildE, List.replicate, Int.reduceLT, Int.reduceLE, Int.reduceToNat, mkE, mapSetE, hN, hF, ty_3, ty_9, ty_22, ty_24, ty_27, notIf, isEq, texts_length, ga, gb, gc, ew, hap, h1, hc]
    simp only [runB, finC, finD, Option.isSome_some, Option.isSome_none, ↓reduceIte, Nat.reduceEqDiff, Nat.reduceAdd, Nat.reduceMul, forall_eq_or_imp, forall_eq, implies_true, Nat.reduceBEq, reduceCtorEq, false_implies, List.zip_cons_cons, List.zip_nil_left, List.zip_nil_right, Nat.reduceLeDiff, List.forall_mem_nil, rs_19, hS]
  rw [decide_eq_true hce] at hc
  have ge : (!true) = false := rfl
  rw [ge] at hc
  by_cases hcf : 0 ≤ next
  case neg =>
    have gf : decide (next < 0) = true := by simp; omega
    have hS : keyS ⟨seed, leaves, next⟩ = 9 := if_neg (by rintro ⟨a1, a2, a3, a4, a5⟩; exact hcf a4)
    simp only [runA, runB, runC, runD, runE, runF, fieldE, storeE, binE, ↓reduceIte, Nat.reduceLT, Nat.reduceLeDiff, Nat.reduceEqDiff, Nat.reduceAdd, Nat.reduceMul, Nat.reduceSub, reduceCtorEq, putAt, unE, Nat.reduceBEq, convE, buildE, List.replicate, Int.reduceLT, Int.reduceLE, Int.reduceToNat, mkE, mapSetE, hN, hF, ty_3, ty_9, ty_22, ty_24, ty_27, notIf, isEq, texts_length, ga, gb, gc, ew, hap, h1, hc, gf]
    simp only [runB, finC, finD, Option.isSome_some, Option.isSome_none, ↓reduceIte, Nat.reduceEqDiff, Nat.reduceAdd, Nat.reduceMul, forall_eq_or_imp, forall_eq, implies_true, Nat.reduceBEq, reduceCtorEq, false_implies, List.zip_cons_cons, List.zip_nil_left, List.zip_nil_right, Nat.reduceLeDiff, List.forall_mem_nil, rs_19, hS]
  have gf : decide (next < 0) = false := by simp; omega
  by_cases hcg : next ≤ (leaves.length : Int)
  case neg =>
    have gg : decide (next > (leaves.length : Int)) = true := by simp; omega
    have hS : keyS ⟨seed, leaves, next⟩ = 9 := if_neg (by rintro ⟨a1, a2, a3, a4, a5⟩; exact hcg a5)
    simp only [runA, runB, runC, runD, runE, runF, fieldE, storeE, binE, ↓reduceIte, Nat.reduceLT, Nat.reduceLeDiff, Nat.reduceEqDiff, Nat.reduceAdd, Nat.reduceMul, Nat.reduceSub, reduceCtorEq, putAt, unE, Nat.reduceBEq, convE, buildE, List.replicate, Int.reduceLT, Int.reduceLE, Int.reduceToNat, mkE, mapSetE, hN, hF, ty_3, ty_9, ty_22, ty_24, ty_27, notIf, isEq, texts_length, ga, gb, gc, ew, hap, h1, hc, gf, gg]
    simp only [runB, finC, finD, Option.isSome_some, Option.isSome_none, ↓reduceIte, Nat.reduceEqDiff, Nat.reduceAdd, Nat.reduceMul, forall_eq_or_imp, forall_eq, implies_true, Nat.reduceBEq, reduceCtorEq, false_implies, List.zip_cons_cons, List.zip_nil_left, List.zip_nil_right, Nat.reduceLeDiff, List.forall_mem_nil, rs_19, hS]
  have gg : decide (next > (leaves.length : Int)) = false := by simp; omega
  have hS : keyS ⟨seed, leaves, next⟩ = 0 := if_pos ⟨hca, hcd, hce, hcf, hcg⟩
  simp only [runA, runB, runC, runD, runE, runF, fieldE, storeE, binE, ↓reduceIte, Nat.reduceLT, Nat.reduceLeDiff, Nat.reduceEqDiff, Nat.reduceAdd, Nat.reduceMul, Nat.reduceSub, reduceCtorEq, putAt, unE, Nat.reduceBEq, convE, buildE, List.replicate, Int.reduceLT, Int.reduceLE, Int.reduceToNat, mkE, mapSetE, hN, hF, ty_3, ty_9, ty_22, ty_24, ty_27, notIf, isEq, texts_length, ga, gb, gc, ew, hap, h1, hc, gf, gg]
  simp only [runB, finC, finD, Option.isSome_some, Option.isSome_none, ↓reduceIte, Nat.reduceEqDiff, Nat.reduceAdd, Nat.reduceMul, forall_eq_or_imp, forall_eq, implies_true, Nat.reduceBEq, reduceCtorEq, false_implies, List.zip_cons_cons, List.zip_nil_left, List.zip_nil_right, Nat.reduceLeDiff, List.forall_mem_nil, rs_19, hS]


variable {Γ : FuncId → Contract}

set_option maxRecDepth 100000 in
set_option maxHeartbeats 4000000 in
theorem refKey_sound (hΓ : SoundG Try.prog Γ) : SoundC Try.prog 20 keyC := by
  refine sound_fn Try.func20 (by kernel_rfl) rfl rfl ?_
  intro args objs r hr
  obtain ⟨⟨seed, leaves, next⟩, hl, rfl, rfl, rfl⟩ := mkC_inv hr
  have hl : leaves.length ≤ 9223372036854775807 := hl
  refine ⟨rfl, by show 1 ≤ _; decide, fun E hN hns hF => ?_⟩
  refine vc_sound hΓ mixed _ _ _ ?_
  have hN := hN.trans nt_20
  unfold Ky.av
  by_cases hca : seed.length ≤ 64
  case neg =>
    have ga : decide ((seed.length : Int) > 64) = true := by simp; omega
    have hS : keyS ⟨seed, leaves, next⟩ = 9 := if_neg (by rintro ⟨a1, a2, a3, a4, a5⟩; exact hca a1)
    simp only [runA, runB, runC, runD, runE, runF, fieldE, storeE, binE, ↓reduceIte, Nat.reduceLT, Nat.reduceLeDiff, Nat.reduceEqDiff, Nat.reduceAdd, Nat.reduceMul, Nat.reduceSub, reduceCtorEq, putAt, unE, Nat.reduceBEq, convE, buildE, List.replicate, Int.reduceLT, Int.reduceLE, Int.reduceToNat, mkE, mapSetE, hN, hF, ty_3, ty_9, ty_22, ty_24, notIf, isEq, texts_length, ga]
    simp only [runB, finC, finD, Option.isSome_some, Option.isSome_none, ↓reduceIte, Nat.reduceEqDiff, Nat.reduceAdd, Nat.reduceMul, forall_eq_or_imp, forall_eq, implies_true, Nat.reduceBEq, reduceCtorEq, false_implies, List.zip_cons_cons, List.zip_nil_left, List.zip_nil_right, Nat.reduceLeDiff, List.forall_mem_nil, rs_20, hS]
  have ga : decide ((seed.length : Int) > 64) = false := by simp; omega
  by_cases hcd : okN16 leaves.length
  case neg =>
    have n1 : ((leaves.length : Int) != 1) = true := by rw [bne_iff_ne]; unfold okN16 at hcd; omega
    have n2 : ((leaves.length : Int) != 2) = true := by rw [bne_iff_ne]; unfold okN16 at hcd; omega
    have n3 : ((leaves.length : Int) != 4) = true := by rw [bne_iff_ne]; unfold okN16 at hcd; omega
    have n4 : ((leaves.length : Int) != 8) = true := by rw [bne_iff_ne]; unfold okN16 at hcd; omega
    have n5 : ((leaves.length : Int) != 16) = true := by rw [bne_iff_ne]; unfold okN16 at hcd; omega
    have hS : keyS ⟨seed, leaves, next⟩ = 9 := if_neg (by rintro ⟨a1, a2, a3, a4, a5⟩; exact hcd a2)
    simp only [runA, runB, runC, runD, runE, runF, fieldE, storeE, binE, ↓reduceIte, Nat.reduceLT, Nat.reduceLeDiff, Nat.reduceEqDiff, Nat.reduceAdd, Nat.reduceMul, Nat.reduceSub, reduceCtorEq, putAt, unE, Nat.reduceBEq, convE, buildE, List.replicate, Int.reduceLT, Int.reduceLE, Int.reduceToNat, mkE, mapSetE, hN, hF, ty_3, ty_9, ty_22, ty_24, notIf, isEq, texts_length, ga, n1, n2, n3, n4, n5]
    simp only [runB, finC, finD, Option.isSome_some, Option.isSome_none, ↓reduceIte, Nat.reduceEqDiff, Nat.reduceAdd, Nat.reduceMul, forall_eq_or_imp, forall_eq, implies_true, Nat.reduceBEq, reduceCtorEq, false_implies, List.zip_cons_cons, List.zip_nil_left, List.zip_nil_right, Nat.reduceLeDiff, List.forall_mem_nil, rs_20, hS]
  have hle : leaves.length ≤ 16 := by unfold okN16 at hcd; omega
  have hcd0 := hcd
  by_cases hcf : 0 ≤ next
  case neg =>
    have gf : decide (next < 0) = true := by simp; omega
    have hS : keyS ⟨seed, leaves, next⟩ = 9 := if_neg (by rintro ⟨a1, a2, a3, a4, a5⟩; exact hcf a4)
    rcases hcd with h | h | h | h | h
    · have n1 : ((leaves.length : Int) != 1) = false := by rw [h]; rfl
      have n2 : ((leaves.length : Int) != 2) = true := by rw [h]; rfl
      have n3 : ((leaves.length : Int) != 4) = true := by rw [h]; rfl
      have n4 : ((leaves.length : Int) != 8) = true := by rw [h]; rfl
      have n5 : ((leaves.length : Int) != 16) = true := by rw [h]; rfl
      simp only [runA, runB, runC, runD, runE, runF, fieldE, storeE, binE, ↓reduceIte, Nat.reduceLT, Nat.reduceLeDiff, Nat.reduceEqDiff, Nat.reduceAdd, Nat.reduceMul, Nat.reduceSub, reduceCtorEq, putAt, unE, Nat.reduceBEq, convE, buildE, List.replicate, Int.reduceLT, Int.reduceLE, Int.reduceToNat, mkE, mapSetE, hN, hF, ty_3, ty_9, ty_22, ty_24, notIf, isEq, texts_length, ga, n1, n2, n3, n4, n5, gf]
      simp only [runB, finC, finD, Option.isSome_some, Option.isSome_none, ↓reduceIte, Nat.reduceEqDiff, Nat.reduceAdd, Nat.reduceMul, forall_eq_or_imp, forall_eq, implies_true, Nat.reduceBEq, reduceCtorEq, false_implies, List.zip_cons_cons, List.zip_nil_left, List.zip_nil_right, Nat.reduceLeDiff, List.forall_mem_nil, rs_20, hS]
    · have n1 : ((leaves.length : Int) != 1) = true := by rw [h]; rfl
      have n2 : ((leaves.length : Int) != 2) = false := by rw [h]; rfl
      have n3 : ((leaves.length : Int) != 4) = true := by rw [h]; rfl
      have n4 : ((leaves.length : Int) != 8) = true := by rw [h]; rfl
      have n5 : ((leaves.length : Int) != 16) = true := by rw [h]; rfl
      simp only [runA, runB, runC, runD, runE, runF, fieldE, storeE, binE, ↓reduceIte, Nat.reduceLT, Nat.reduceLeDiff, Nat.reduceEqDiff, Nat.reduceAdd, Nat.reduceMul, Nat.reduceSub, reduceCtorEq, putAt, unE, Nat.reduceBEq, convE, buildE, List.replicate, Int.reduceLT, Int.reduceLE, Int.reduceToNat, mkE, mapSetE, hN, hF, ty_3, ty_9, ty_22, ty_24, notIf, isEq, texts_length, ga, n1, n2, n3, n4, n5, gf]
      simp only [runB, finC, finD, Option.isSome_some, Option.isSome_none, ↓reduceIte, Nat.reduceEqDiff, Nat.reduceAdd, Nat.reduceMul, forall_eq_or_imp, forall_eq, implies_true, Nat.reduceBEq, reduceCtorEq, false_implies, List.zip_cons_cons, List.zip_nil_left, List.zip_nil_right, Nat.reduceLeDiff, List.forall_mem_nil, rs_20, hS]
    · have n1 : ((leaves.length : Int) != 1) = true := by rw [h]; rfl
      have n2 : ((leaves.length : Int) != 2) = true := by rw [h]; rfl
      have n3 : ((leaves.length : Int) != 4) = false := by rw [h]; rfl
      have n4 : ((leaves.length : Int) != 8) = true := by rw [h]; rfl
      have n5 : ((leaves.length : Int) != 16) = true := by rw [h]; rfl
      simp only [runA, runB, runC, runD, runE, runF, fieldE, storeE, binE, ↓reduceIte, Nat.reduceLT, Nat.reduceLeDiff, Nat.reduceEqDiff, Nat.reduceAdd, Nat.reduceMul, Nat.reduceSub, reduceCtorEq, putAt, unE, Nat.reduceBEq, convE, buildE, List.replicate, Int.reduceLT, Int.reduceLE, Int.reduceToNat, mkE, mapSetE, hN, hF, ty_3, ty_9, ty_22, ty_24, notIf, isEq, texts_length, ga, n1, n2, n3, n4, n5, gf]
      simp only [runB, finC, finD, Option.isSome_some, Option.isSome_none, ↓reduceIte, Nat.reduceEqDiff, Nat.reduceAdd, Nat.reduceMul, forall_eq_or_imp, forall_eq, implies_true, Nat.reduceBEq, reduceCtorEq, false_implies, List.zip_cons_cons, List.zip_nil_left, List.zip_nil_right, Nat.reduceLeDiff, List.forall_mem_nil, rs_20, hS]
    · have n1 : ((leaves.length : Int) != 1) = true := by rw [h]; rfl
      have n2 : ((leaves.length : Int) != 2) = true := by rw [h]; rfl
      have n3 : ((leaves.length : Int) != 4) = true := by rw [h]; rfl
      have n4 : ((leaves.length : Int) != 8) = false := by rw [h]; rfl
      have n5 : ((leaves.length : Int) != 16) = true := by rw [h]; rfl
      simp only [runA, runB, runC, runD, runE, runF, fieldE, storeE, binE, ↓reduceIte, Nat.reduceLT, Nat.reduceLeDiff, Nat.reduceEqDiff, Nat.reduceAdd, Nat.reduceMul, Nat.reduceSub, reduceCtorEq, putAt, unE, Nat.reduceBEq, convE, buildE, List.replicate, Int.reduceLT, Int.reduceLE, Int.reduceToNat, mkE, mapSetE, hN, hF, ty_3, ty_9, ty_22, ty_24, notIf, isEq, texts_length, ga, n1, n2, n3, n4, n5, gf]
      simp only [runB, finC, finD, Option.isSome_some, Option.isSome_none, ↓reduceIte, Nat.reduceEqDiff, Nat.reduceAdd, Nat.reduceMul, forall_eq_or_imp, forall_eq, implies_true, Nat.reduceBEq, reduceCtorEq, false_implies, List.zip_cons_cons, List.zip_nil_left, List.zip_nil_right, Nat.reduceLeDiff, List.forall_mem_nil, rs_20, hS]
    · have n1 : ((leaves.length : Int) != 1) = true := by rw [h]; rfl
      have n2 : ((leaves.length : Int) != 2) = true := by rw [h]; rfl
      have n3 : ((leaves.length : Int) != 4) = true := by rw [h]; rfl
      have n4 : ((leaves.length : Int) != 8) = true := by rw [h]; rfl
      have n5 : ((leaves.length : Int) != 16) = false := by rw [h]; rfl
      simp only [runA, runB, runC, runD, runE, runF, fieldE, storeE, binE, ↓reduceIte, Nat.reduceLT, Nat.reduceLeDiff, Nat.reduceEqDiff, Nat.reduceAdd, Nat.reduceMul, Nat.reduceSub, reduceCtorEq, putAt, unE, Nat.reduceBEq, convE, buildE, List.replicate, Int.reduceLT, Int.reduceLE, Int.reduceToNat, mkE, mapSetE, hN, hF, ty_3, ty_9, ty_22, ty_24, notIf, isEq, texts_length, ga, n1, n2, n3, n4, n5, gf]
      simp only [runB, finC, finD, Option.isSome_some, Option.isSome_none, ↓reduceIte, Nat.reduceEqDiff, Nat.reduceAdd, Nat.reduceMul, forall_eq_or_imp, forall_eq, implies_true, Nat.reduceBEq, reduceCtorEq, false_implies, List.zip_cons_cons, List.zip_nil_left, List.zip_nil_right, Nat.reduceLeDiff, List.forall_mem_nil, rs_20, hS]
  have gf : decide (next < 0) = false := by simp; omega
  by_cases hcg : next ≤ (leaves.length : Int)
  case neg =>
    have gg : decide (next > (leaves.length : Int)) = true := by simp; omega
    have hS : keyS ⟨seed, leaves, next⟩ = 9 := if_neg (by rintro ⟨a1, a2, a3, a4, a5⟩; exact hcg a5)
    rcases hcd with h | h | h | h | h
    · have n1 : ((leaves.length : Int) != 1) = false := by rw [h]; rfl
      have n2 : ((leaves.length : Int) != 2) = true := by rw [h]; rfl
      have n3 : ((leaves.length : Int) != 4) = true := by rw [h]; rfl
      have n4 : ((leaves.length : Int) != 8) = true := by rw [h]; rfl
      have n5 : ((leaves.length : Int) != 16) = true := by rw [h]; rfl
      simp only [runA, runB, runC, runD, runE, runF, fieldE, storeE, binE, ↓reduceIte, Nat.reduceLT, Nat.reduceLeDiff, Nat.reduceEqDiff, Nat.reduceAdd, Nat.reduceMul, Nat.reduceSub, reduceCtorEq, putAt, unE, Nat.reduceBEq, convE, buildE, List.replicate, Int.reduceLT, Int.reduceLE, Int.reduceToNat, mkE, mapSetE, hN, hF, ty_3, ty_9, ty_22, ty_24, notIf, isEq, texts_length, ga, n1, n2, n3, n4, n5, gf, gg]
      simp only [runB, finC, finD, Option.isSome_some, Option.isSome_none, ↓reduceIte, Nat.reduceEqDiff, Nat.reduceAdd, Nat.reduceMul, forall_eq_or_imp, forall_eq, implies_true, Nat.reduceBEq, reduceCtorEq, false_implies, List.zip_cons_cons, List.zip_nil_left, List.zip_nil_right, Nat.reduceLeDiff, List.forall_mem_nil, rs_20, hS]
    · have n1 : ((leaves.length : Int) != 1) = true := by rw [h]; rfl
      have n2 : ((leaves.length : Int) != 2) = false := by rw [h]; rfl
      have n3 : ((leaves.length : Int) != 4) = true := by rw [h]; rfl
      have n4 : ((leaves.length : Int) != 8) = true := by rw [h]; rfl
      have n5 : ((leaves.length : Int) != 16) = true := by rw [h]; rfl
      simp only [runA, runB, runC, runD, runE, runF, fieldE, storeE, binE, ↓reduceIte, Nat.reduceLT, Nat.reduceLeDiff, Nat.reduceEqDiff, Nat.reduceAdd, Nat.reduceMul, Nat.reduceSub, reduceCtorEq, putAt, unE, Nat.reduceBEq, convE, buildE, List.replicate, Int.reduceLT, Int.reduceLE, Int.reduceToNat, mkE, mapSetE, hN, hF, ty_3, ty_9, ty_22, ty_24, notIf, isEq, texts_length, ga, n1, n2, n3, n4, n5, gf, gg]
      simp only [runB, finC, finD, Option.isSome_some, Option.isSome_none, ↓reduceIte, Nat.reduceEqDiff, Nat.reduceAdd, Nat.reduceMul, forall_eq_or_imp, forall_eq, implies_true, Nat.reduceBEq, reduceCtorEq, false_implies, List.zip_cons_cons, List.zip_nil_left, List.zip_nil_right, Nat.reduceLeDiff, List.forall_mem_nil, rs_20, hS]
    · have n1 : ((leaves.length : Int) != 1) = true := by rw [h]; rfl
      have n2 : ((leaves.length : Int) != 2) = true := by rw [h]; rfl
      have n3 : ((leaves.length : Int) != 4) = false := by rw [h]; rfl
      have n4 : ((leaves.length : Int) != 8) = true := by rw [h]; rfl
      have n5 : ((leaves.length : Int) != 16) = true := by rw [h]; rfl
      simp only [runA, runB, runC, runD, runE, runF, fieldE, storeE, binE, ↓reduceIte, Nat.reduceLT, Nat.reduceLeDiff, Nat.reduceEqDiff, Nat.reduceAdd, Nat.reduceMul, Nat.reduceSub, reduceCtorEq, putAt, unE, Nat.reduceBEq, convE, buildE, List.replicate, Int.reduceLT, Int.reduceLE, Int.reduceToNat, mkE, mapSetE, hN, hF, ty_3, ty_9, ty_22, ty_24, notIf, isEq, texts_length, ga, n1, n2, n3, n4, n5, gf, gg]
      simp only [runB, finC, finD, Option.isSome_some, Option.isSome_none, ↓reduceIte, Nat.reduceEqDiff, Nat.reduceAdd, Nat.reduceMul, forall_eq_or_imp, forall_eq, implies_true, Nat.reduceBEq, reduceCtorEq, false_implies, List.zip_cons_cons, List.zip_nil_left, List.zip_nil_right, Nat.reduceLeDiff, List.forall_mem_nil, rs_20, hS]
    · have n1 : ((leaves.length : Int) != 1) = true := by rw [h]; rfl
      have n2 : ((leaves.length : Int) != 2) = true := by rw [h]; rfl
      have n3 : ((leaves.length : Int) != 4) = true := by rw [h]; rfl
      have n4 : ((leaves.length : Int) != 8) = false := by rw [h]; rfl
      have n5 : ((leaves.length : Int) != 16) = true := by rw [h]; rfl
      simp only [runA, runB, runC, runD, runE, runF, fieldE, storeE, binE, ↓reduceIte, Nat.reduceLT, Nat.reduceLeDiff, Nat.reduceEqDiff, Nat.reduceAdd, Nat.reduceMul, Nat.reduceSub, reduceCtorEq, putAt, unE, Nat.reduceBEq, convE, buildE, List.replicate, Int.reduceLT, Int.reduceLE, Int.reduceToNat, mkE, mapSetE, hN, hF, ty_3, ty_9, ty_22, ty_24, notIf, isEq, texts_length, ga, n1, n2, n3, n4, n5, gf, gg]
      simp only [runB, finC, finD, Option.isSome_some, Option.isSome_none, ↓reduceIte, Nat.reduceEqDiff, Nat.reduceAdd, Nat.reduceMul, forall_eq_or_imp, forall_eq, implies_true, Nat.reduceBEq, reduceCtorEq, false_implies, List.zip_cons_cons, List.zip_nil_left, List.zip_nil_right, Nat.reduceLeDiff, List.forall_mem_nil, rs_20, hS]
    · have n1 : ((leaves.length : Int) != 1) = true := by rw [h]; rfl
      have n2 : ((leaves.length : Int) != 2) = true := by rw [h]; rfl
      have n3 : ((leaves.length : Int) != 4) = true := by rw [h]; rfl
      have n4 : ((leaves.length : Int) != 8) = true := by rw [h]; rfl
      have n5 : ((leaves.length : Int) != 16) = false := by rw [h]; rfl
      simp only [runA, runB, runC, runD, runE, runF, fieldE, storeE, binE, ↓reduceIte, Nat.reduceLT, Nat.reduceLeDiff, Nat.reduceEqDiff, Nat.reduceAdd, Nat.reduceMul, Nat.reduceSub, reduceCtorEq, putAt, unE, Nat.reduceBEq, convE, buildE, List.replicate, Int.reduceLT, Int.reduceLE, Int.reduceToNat, mkE, mapSetE, hN, hF, ty_3, ty_9, ty_22, ty_24, notIf, isEq, texts_length, ga, n1, n2, n3, n4, n5, gf, gg]
      simp only [runB, finC, finD, Option.isSome_some, Option.isSome_none, ↓reduceIte, Nat.reduceEqDiff, Nat.reduceAdd, Nat.reduceMul, forall_eq_or_imp, forall_eq, implies_true, Nat.reduceBEq, reduceCtorEq, false_implies, List.zip_cons_cons, List.zip_nil_left, List.zip_nil_right, Nat.reduceLeDiff, List.forall_mem_nil, rs_20, hS]
  have gg : decide (next > (leaves.length : Int)) = false := by simp; omega
  rcases hcd with h | h | h | h | h
  · have n1 : ((leaves.length : Int) != 1) = false := by rw [h]; rfl
    have n2 : ((leaves.length : Int) != 2) = true := by rw [h]; rfl
    have n3 : ((leaves.length : Int) != 4) = true := by rw [h]; rfl
    have n4 : ((leaves.length : Int) != 8) = true := by rw [h]; rfl
    have n5 : ((leaves.length : Int) != 16) = true := by rw [h]; rfl
    simp only [runA, runB, runC, runD, runE, runF, fieldE, storeE, binE, ↓reduceIte, Nat.reduceLT, Nat.reduceLeDiff, Nat.reduceEqDiff, Nat.reduceAdd, Nat.reduceMul, Nat.reduceSub, reduceCtorEq, putAt, unE, Nat.reduceBEq, convE, buildE, List.replicate, Int.reduceLT, Int.reduceLE, Int.reduceToNat, mkE, mapSetE, hN, hF, ty_3, ty_9, ty_22, ty_24, notIf, isEq, texts_length, ga, gf, gg, n1, n2, n3, n4, n5]
    clear n1 n2 n3 n4 n5
    refine AWP.loop (fun k st => ∃ i : Nat, (i ≤ leaves.length ∧ ∀ k, k < i → (leaves.getD k []).length = 8) ∧ k = leaves.length - i ∧ st = ⟨[(1, .ptr 64 0), (3, .c (.int .i64 (leaves.length : Int))), (4, .c (.int .i64 (i : Int)))], [(64, .obj [.c (.str seed), .c (.sl (texts leaves)), .c (.int .i64 next)] false)]⟩) ⟨leaves.length, _, ?w, 0, ⟨Nat.zero_le _, fun k hk => absurd hk (Nat.not_lt_zero k)⟩, rfl, rfl⟩ ?r
    case w =>
      rw [hns]
      simp only [runB, finC, finD, AS.get, AS.mem, false_implies, implies_true, ↓reduceIte, Nat.reduceEqDiff, Option.isSome_some, Option.isSome_none, forall_eq_or_imp, forall_eq, reduceCtorEq, Nat.reduceAdd, Nat.reduceMul, List.zip_cons_cons, List.zip_nil_left, List.zip_nil_right, List.forall_mem_nil]
      first | done | simp
    case r =>
      rintro k st ⟨i, ⟨hi, h8⟩, rfl, rfl⟩
      refine vc_sound hΓ mixed _ _ _ ?_
      by_cases hlt : i < leaves.length
      · have k1 : decide ((i : Int) < (leaves.length : Int)) = true := by simpa using hlt
        have e1 : IntKind.i64.wrap ((i : Int) + 1) = (i : Int) + 1 := wrapI (by omega)
        have hg := textsD leaves i hlt
        by_cases hp8 : (leaves.getD i []).length = 8
        · have k2 : (((leaves.getD i []).length : Int) != 8) = false := ne8f hp8
          have h8' : ∀ k, k < i + 1 → (leaves.getD k []).length = 8 := fun k hk => by
            by_cases e : k = i
            · rw [e]; exact hp8
            · exact h8 k (by omega)
          generalize leaves.getD i [] = q at hg k2
          simp only [runA, runB, runC, runD, runE, runF, fieldE, storeE, binE, ↓reduceIte, Nat.reduceLT, Nat.reduceLeDiff, Nat.reduceEqDiff, Nat.reduceAdd, Nat.reduceMul, Nat.reduceSub, reduceCtorEq, putAt, unE, Nat.reduceBEq, convE, buildE, List.replicate, Int.reduceLT, Int.reduceLE, Int.reduceToNat, mkE, mapSetE, hN, hF, ty_3, ty_9, ty_22, ty_24, notIf, isEq, k1, k2, e1, hg]
          refine ⟨leaves.length - (i + 1), _, by omega, ?_, i + 1, ⟨by omega, h8'⟩, rfl, rfl⟩
          rw [hns]
          simp only [runB, finC, finD, AS.get, AS.mem, false_implies, implies_true, ↓reduceIte, Nat.reduceEqDiff, Option.isSome_some, Option.isSome_none, forall_eq_or_imp, forall_eq, reduceCtorEq, Nat.reduceAdd, Nat.reduceMul, List.zip_cons_cons, List.zip_nil_left, List.zip_nil_right, List.forall_mem_nil]
          first | done | simp
        · have k2 : (((leaves.getD i []).length : Int) != 8) = true := ne8t hp8
          have hS : keyS ⟨seed, leaves, next⟩ = 9 := if_neg (by
            rintro ⟨a1, a2, a3, a4, a5⟩
            refine hp8 (a3 _ ?_)
            show leaves.getD i [] ∈ leaves
            rw [List.getD, List.getElem?_eq_getElem hlt]
            exact List.getElem_mem _)
          generalize leaves.getD i [] = q at hg k2
          simp only [runA, runB, runC, runD, runE, runF, fieldE, storeE, binE, ↓reduceIte, Nat.reduceLT, Nat.reduceLeDiff, Nat.reduceEqDiff, Nat.reduceAdd, Nat.reduceMul, Nat.reduceSub, reduceCtorEq, putAt, unE, Nat.reduceBEq, convE, buildE, List.replicate, Int.reduceLT, Int.reduceLE, Int.reduceToNat, mkE, mapSetE, hN, hF, ty_3, ty_9, ty_22, ty_24, notIf, isEq, k1, k2, e1, hg]
          simp only [runB, finC, finD, Option.isSome_some, Option.isSome_none, ↓reduceIte, Nat.reduceEqDiff, Nat.reduceAdd, Nat.reduceMul, forall_eq_or_imp, forall_eq, implies_true, Nat.reduceBEq, reduceCtorEq, false_implies, List.zip_cons_cons, List.zip_nil_left, List.zip_nil_right, Nat.reduceLeDiff, List.forall_mem_nil, rs_20, hS]
      · have k1 : decide ((i : Int) < (leaves.length : Int)) = false := by simpa using hlt
        have hil : i = leaves.length := by omega
        have hS : keyS ⟨seed, leaves, next⟩ = 0 := if_pos ⟨hca, hcd0, all8_of (fun k (hk : k < leaves.length) => h8 k (by omega)), hcf, hcg⟩
        simp only [runA, runB, runC, runD, runE, runF, fieldE, storeE, binE, ↓reduceIte, Nat.reduceLT, Nat.reduceLeDiff, Nat.reduceEqDiff, Nat.reduceAdd, Nat.reduceMul, Nat.reduceSub, reduceCtorEq, putAt, unE, Nat.reduceBEq, convE, buildE, List.replicate, Int.reduceLT, Int.reduceLE, Int.reduceToNat, mkE, mapSetE, hN, hF, ty_3, ty_9, ty_22, ty_24, notIf, isEq, k1]
        simp only [runB, finC, finD, Option.isSome_some, Option.isSome_none, ↓reduceIte, Nat.reduceEqDiff, Nat.reduceAdd, Nat.reduceMul, forall_eq_or_imp, forall_eq, implies_true, Nat.reduceBEq, reduceCtorEq, false_implies, List.zip_cons_cons, List.zip_nil_left, List.zip_nil_right, Nat.reduceLeDiff, List.forall_mem_nil, rs_20, hS]
  · have n1 : ((leaves.length : Int) != 1) = true := by rw [h]; rfl
    have n2 : ((leaves.length : Int) != 2) = false := by rw [h]; rfl
    have n3 : ((leaves.length : Int) != 4) = true := by rw [h]; rfl
    have n4 : ((leaves.length : Int) != 8) = true := by rw [h]; rfl
    have n5 : ((leaves.length : Int) != 16) = true := by rw [h]; rfl
    simp only [runA, runB, runC, runD, runE, runF, fieldE, storeE, binE, ↓reduceIte, Nat.reduceLT, Nat.reduceLeDiff, Nat.reduceEqDiff, Nat.reduceAdd, Nat.reduceMul, Nat.reduceSub, reduceCtorEq, putAt, unE, Nat.reduceBEq, convE, buildE, List.replicate, Int.reduceLT, Int.reduceLE, Int.reduceToNat, mkE, mapSetE, hN, hF, ty_3, ty_9, ty_22, ty_24, notIf, isEq, texts_length, ga, gf, gg, n1, n2, n3, n4, n5]
    clear n1 n2 n3 n4 n5
    refine AWP.loop (fun k st => ∃ i : Nat, (i ≤ leaves.length ∧ ∀ k, k < i → (leaves.getD k []).length = 8) ∧ k = leaves.length - i ∧ st = ⟨[(1, .ptr 64 0), (3, .c (.int .i64 (leaves.length : Int))), (4, .c (.int .i64 (i : Int)))], [(64, .obj [.c (.str seed), .c (.sl (texts leaves)), .c (.int .i64 next)] false)]⟩) ⟨leaves.length, _, ?w, 0, ⟨Nat.zero_le _, fun k hk => absurd hk (Nat.not_lt_zero k)⟩, rfl, rfl⟩ ?r
    case w =>
      rw [hns]
      simp only [runB, finC, finD, AS.get, AS.mem, false_implies, implies_true, ↓reduceIte, Nat.reduceEqDiff, Option.isSome_some, Option.isSome_none, forall_eq_or_imp, forall_eq, reduceCtorEq, Nat.reduceAdd, Nat.reduceMul, List.zip_cons_cons, List.zip_nil_left, List.zip_nil_right, List.forall_mem_nil]
      first | done | simp
    case r =>
      rintro k st ⟨i, ⟨hi, h8⟩, rfl, rfl⟩
      refine vc_sound hΓ mixed _ _ _ ?_
      by_cases hlt : i < leaves.length
      · have k1 : decide ((i : Int) < (leaves.length : Int)) = true := by simpa using hlt
        have e1 : IntKind.i64.wrap ((i : Int) + 1) = (i : Int) + 1 := wrapI (by omega)
        have hg := textsD leaves i hlt
        by_cases hp8 : (leaves.getD i []).length = 8
        · have k2 : (((leaves.getD i []).length : Int) != 8) = false := ne8f hp8
          have h8' : ∀ k, k < i + 1 → (leaves.getD k []).length = 8 := fun k hk => by
            by_cases e : k = i
            · rw [e]; exact hp8
            · exact h8 k (by omega)
          generalize leaves.getD i [] = q at hg k2
          simp only [runA, runB, runC, runD, runE, runF, fieldE, storeE, binE, ↓reduceIte, Nat.reduceLT, Nat.reduceLeDiff, Nat.reduceEqDiff, Nat.reduceAdd, Nat.reduceMul, Nat.reduceSub, reduceCtorEq, putAt, unE, Nat.reduceBEq, convE, buildE, List.replicate, Int.reduceLT, Int.reduceLE, Int.reduceToNat, mkE, mapSetE, hN, hF, ty_3, ty_9, ty_22, ty_24, notIf, isEq, k1, k2, e1, hg]
          refine ⟨leaves.length - (i + 1), _, by omega, ?_, i + 1, ⟨by omega, h8'⟩, rfl, rfl⟩
          rw [hns]
          simp only [runB, finC, finD, AS.get, AS.mem, false_implies, implies_true, ↓reduceIte, Nat.reduceEqDiff, Option.isSome_some, Option.isSome_none, forall_eq_or_imp, forall_eq, reduceCtorEq, Nat.reduceAdd, Nat.reduceMul, List.zip_cons_cons, List.zip_nil_left, List.zip_nil_right, List.forall_mem_nil]
          first | done | simp
        · have k2 : (((leaves.getD i []).length : Int) != 8) = true := ne8t hp8
          have hS : keyS ⟨seed, leaves, next⟩ = 9 := if_neg (by
            rintro ⟨a1, a2, a3, a4, a5⟩
            refine hp8 (a3 _ ?_)
            show leaves.getD i [] ∈ leaves
            rw [List.getD, List.getElem?_eq_getElem hlt]
            exact List.getElem_mem _)
          generalize leaves.getD i [] = q at hg k2
          simp only [runA, runB, runC, runD, runE, runF, fieldE, storeE, binE, ↓reduceIte, Nat.reduceLT, Nat.reduceLeDiff, Nat.reduceEqDiff, Nat.reduceAdd, Nat.reduceMul, Nat.reduceSub, reduceCtorEq, putAt, unE, Nat.reduceBEq, convE, buildE, List.replicate, Int.reduceLT, Int.reduceLE, Int.reduceToNat, mkE, mapSetE, hN, hF, ty_3, ty_9, ty_22, ty_24, notIf, isEq, k1, k2, e1, hg]
          simp only [runB, finC, finD, Option.isSome_some, Option.isSome_none, ↓reduceIte, Nat.reduceEqDiff, Nat.reduceAdd, Nat.reduceMul, forall_eq_or_imp, forall_eq, implies_true, Nat.reduceBEq, reduceCtorEq, false_implies, List.zip_cons_cons, List.zip_nil_left, List.zip_nil_right, Nat.reduceLeDiff, List.forall_mem_nil, rs_20, hS]
      · have k1 : decide ((i : Int) < (leaves.length : Int)) = false := by simpa using hlt
        have hil : i = leaves.length := by omega
        have hS : keyS ⟨seed, leaves, next⟩ = 0 := if_pos ⟨hca, hcd0, all8_of (fun k (hk : k < leaves.length) => h8 k (by omega)), hcf, hcg⟩
        simp only [runA, runB, runC, runD, runE, runF, fieldE, storeE, binE, ↓reduceIte, Nat.reduceLT, Nat.reduceLeDiff, Nat.reduceEqDiff, Nat.reduceAdd, Nat.reduceMul, Nat.reduceSub, reduceCtorEq, putAt, unE, Nat.reduceBEq, convE, buildE, List.replicate, Int.reduceLT, Int.reduceLE, Int.reduceToNat, mkE, mapSetE, hN, hF, ty_3, ty_9, ty_22, ty_24, notIf, isEq, k1]
        simp only [runB, finC, finD, Option.isSome_some, Option.isSome_none, ↓reduceIte, Nat.reduceEqDiff, Nat.reduceAdd, Nat.reduceMul, forall_eq_or_imp, forall_eq, implies_true, Nat.reduceBEq, reduceCtorEq, false_implies, List.zip_cons_cons, List.zip_nil_left, List.zip_nil_right, Nat.reduceLeDiff, List.forall_mem_nil, rs_20, hS]
  · have n1 : ((leaves.length : Int) != 1) = true := by rw [h]; rfl
    have n2 : ((leaves.length : Int) != 2) = true := by rw [h]; rfl
    have n3 : ((leaves.length : Int) != 4) = false := by rw [h]; rfl
    have n4 : ((leaves.length : Int) != 8) = true := by rw [h]; rfl
    have n5 : ((leaves.length : Int) != 16) = true := by rw [h]; rfl
    simp only [runA, runB, runC, runD, runE, runF, fieldE, storeE, binE, ↓reduceIte, Nat.reduceLT, Nat.reduceLeDiff, Nat.reduceEqDiff, Nat.reduceAdd, Nat.reduceMul, Nat.reduceSub, reduceCtorEq, putAt, unE, Nat.reduceBEq, convE, buildE, List.replicate, Int.reduceLT, Int.reduceLE, Int.reduceToNat, mkE, mapSetE, hN, hF, ty_3, ty_9, ty_22, ty_24, notIf, isEq, texts_length, ga, gf, gg, n1, n2, n3, n4, n5]
    clear n1 n2 n3 n4 n5
    refine AWP.loop (fun k st => ∃ i : Nat, (i ≤ leaves.length ∧ ∀ k, k < i → (leaves.getD k []).length = 8) ∧ k = leaves.length - i ∧ st = ⟨[(1, .ptr 64 0), (3, .c (.int .i64 (leaves.length : Int))), (4, .c (.int .i64 (i : Int)))], [(64, .obj [.c (.str seed), .c (.sl (texts leaves)), .c (.int .i64 next)] false)]⟩) ⟨leaves.length, _, ?w, 0, ⟨Nat.zero_le _, fun k hk => absurd hk (Nat.not_lt_zero k)⟩, rfl, rfl⟩ ?r
    case w =>
      rw [hns]
      simp only [runB, finC, finD, AS.get, AS.mem, false_implies, implies_true, ↓reduceIte, Nat.reduceEqDiff, Option.isSome_some, Option.isSome_none, forall_eq_or_imp, forall_eq, reduceCtorEq, Nat.reduceAdd, Nat.reduceMul, List.zip_cons_cons, List.zip_nil_left, List.zip_nil_right, List.forall_mem_nil]
      first | done | simp
    case r =>
      rintro k st ⟨i, ⟨hi, h8⟩, rfl, rfl⟩
      refine vc_sound hΓ mixed _ _ _ ?_
      by_cases hlt : i < leaves.length
      · have k1 : decide ((i : Int) < (leaves.length : Int)) = true := by simpa using hlt
        have e1 : IntKind.i64.wrap ((i : Int) + 1) = (i : Int) + 1 := wrapI (by omega)
        have hg := textsD leaves i hlt
        by_cases hp8 : (leaves.getD i []).length = 8
        · have k2 : (((leaves.getD i []).length : Int) != 8) = false := ne8f hp8
          have h8' : ∀ k, k < i + 1 → (leaves.getD k []).length = 8 := fun k hk => by
            by_cases e : k = i
            · rw [e]; exact hp8
            · exact h8 k (by omega)
          generalize leaves.getD i [] = q at hg k2
          simp only [runA, runB, runC, runD, runE, runF, fieldE, storeE, binE, ↓reduceIte, Nat.reduceLT, Nat.reduceLeDiff, Nat.reduceEqDiff, Nat.reduceAdd, Nat.reduceMul, Nat.reduceSub, reduceCtorEq, putAt, unE, Nat.reduceBEq, convE, buildE, List.replicate, Int.reduceLT, Int.reduceLE, Int.reduceToNat, mkE, mapSetE, hN, hF, ty_3, ty_9, ty_22, ty_24, notIf, isEq, k1, k2, e1, hg]
          refine ⟨leaves.length - (i + 1), _, by omega, ?_, i + 1, ⟨by omega, h8'⟩, rfl, rfl⟩
          rw [hns]
          simp only [runB, finC, finD, AS.get, AS.mem, false_implies, implies_true, ↓reduceIte, Nat.reduceEqDiff, Option.isSome_some, Option.isSome_none, forall_eq_or_imp, forall_eq, reduceCtorEq, Nat.reduceAdd, Nat.reduceMul, List.zip_cons_cons, List.zip_nil_left, List.zip_nil_right, List.forall_mem_nil]
          first | done | simp
        · have k2 : (((leaves.getD i []).length : Int) != 8) = true := ne8t hp8
          have hS : keyS ⟨seed, leaves, next⟩ = 9 := if_neg (by
            rintro ⟨a1, a2, a3, a4, a5⟩
            refine hp8 (a3 _ ?_)
            show leaves.getD i [] ∈ leaves
            rw [List.getD, List.getElem?_eq_getElem hlt]
            exact List.getElem_mem _)
          generalize leaves.getD i [] = q at hg k2
          simp only [runA, runB, runC, runD, runE, runF, fieldE, storeE, binE, ↓reduceIte, Nat.reduceLT, Nat.reduceLeDiff, Nat.reduceEqDiff, Nat.reduceAdd, Nat.reduceMul, Nat.reduceSub, reduceCtorEq, putAt, unE, Nat.reduceBEq, convE, buildE, List.replicate, Int.reduceLT, Int.reduceLE, Int.reduceToNat, mkE, mapSetE, hN, hF, ty_3, ty_9, ty_22, ty_24, notIf, isEq, k1, k2, e1, hg]
          simp only [runB, finC, finD, Option.isSome_some, Option.isSome_none, ↓reduceIte, Nat.reduceEqDiff, Nat.reduceAdd, Nat.reduceMul, forall_eq_or_imp, forall_eq, implies_true, Nat.reduceBEq, reduceCtorEq, false_implies, List.zip_cons_cons, List.zip_nil_left, List.zip_nil_right, Nat.reduceLeDiff, List.forall_mem_nil, rs_20, hS]
      · have k1 : decide ((i : Int) < (leaves.length : Int)) = false := by simpa using hlt
        have hil : i = leaves.length := by omega
        have hS : keyS ⟨seed, leaves, next⟩ = 0 := if_pos ⟨hca, hcd0, all8_of (fun k (hk : k < leaves.length) => h8 k (by omega)), hcf, hcg⟩
        simp only [runA, runB, runC, runD, runE, runF, fieldE, storeE, binE, ↓reduceIte, Nat.reduceLT, Nat.reduceLeDiff, Nat.reduceEqDiff, Nat.reduceAdd, Nat.reduceMul, Nat.reduceSub, reduceCtorEq, putAt, unE, Nat.reduceBEq, convE, buildE, List.replicate, Int.reduceLT, Int.reduceLE, Int.reduceToNat, mkE, mapSetE, hN, hF, ty_3, ty_9, ty_22, ty_24, notIf, isEq, k1]
        simp only [runB, finC, finD, Option.isSome_some, Option.isSome_none, ↓reduceIte, Nat.reduceEqDiff, Nat.reduceAdd, Nat.reduceMul, forall_eq_or_imp, forall_eq, implies_true, Nat.reduceBEq, reduceCtorEq, false_implies, List.zip_cons_cons, List.zip_nil_left, List.zip_nil_right, Nat.reduceLeDiff, List.forall_mem_nil, rs_20, hS]
  · have n1 : ((leaves.length : Int) != 1) = true := by rw [h]; rfl
    have n2 : ((leaves.length : Int) != 2) = true := by rw [h]; rfl
    have n3 : ((leaves.length : Int) != 4) = true := by rw [h]; rfl
    have n4 : ((leaves.length : Int) != 8) = false := by rw [h]; rfl
    have n5 : ((leaves.length : Int) != 16) = true := by rw [h]; rfl
    simp only [runA, runB, runC, runD, runE, runF, fieldE, storeE, binE, ↓reduceIte, Nat.reduceLT, Nat.reduceLeDiff, Nat.reduceEqDiff, Nat.reduceAdd, Nat.reduceMul, Nat.reduceSub, reduceCtorEq, putAt, unE, Nat.reduceBEq, convE, buildE, List.replicate, Int.reduceLT, Int.reduceLE, Int.reduceToNat, mkE, mapSetE, hN, hF, ty_3, ty_9, ty_22, ty_24, notIf, isEq, texts_length, ga, gf, gg, n1, n2, n3, n4, n5]
    clear n1 n2 n3 n4 n5
    refine AWP.loop (fun k st => ∃ i : Nat, (i ≤ leaves.length ∧ ∀ k, k < i → (leaves.getD k []).length = 8) ∧ k = leaves.length - i ∧ st = ⟨[(1, .ptr 64 0), (3, .c (.int .i64 (leaves.length : Int))), (4, .c (.int .i64 (i : Int)))], [(64, .obj [.c (.str seed), .c (.sl (texts leaves)), .c (.int .i64 next)] false)]⟩) ⟨leaves.length, _, ?w, 0, ⟨Nat.zero_le _, fun k hk => absurd hk (Nat.not_lt_zero k)⟩, rfl, rfl⟩ ?r
    case w =>
      rw [hns]
      simp only [runB, finC, finD, AS.get, AS.mem, false_implies, implies_true, ↓reduceIte, Nat.reduceEqDiff, Option.isSome_some, Option.isSome_none, forall_eq_or_imp, forall_eq, reduceCtorEq, Nat.reduceAdd, Nat.reduceMul, List.zip_cons_cons, List.zip_nil_left, List.zip_nil_right, List.forall_mem_nil]
      first | done | simp
    case r =>
      rintro k st ⟨i, ⟨hi, h8⟩, rfl, rfl⟩
      refine vc_sound hΓ mixed _ _ _ ?_
      by_cases hlt : i < leaves.length
      · have k1 : decide ((i : Int) < (leaves.length : Int)) = true := by simpa using hlt
        have e1 : IntKind.i64.wrap ((i : Int) + 1) = (i : Int) + 1 := wrapI (by omega)
        have hg := textsD leaves i hlt
        by_cases hp8 : (leaves.getD i []).length = 8
        · have k2 : (((leaves.getD i []).length : Int) != 8) = false := ne8f hp8
          have h8' : ∀ k, k < i + 1 → (leaves.getD k []).length = 8 := fun k hk => by
            by_cases e : k = i
            · rw [e]; exact hp8
            · exact h8 k (by omega)
          generalize leaves.getD i [] = q at hg k2
          simp only [runA, runB, runC, runD, runE, runF, fieldE, storeE, binE, ↓reduceIte, Nat.reduceLT, Nat.reduceLeDiff, Nat.reduceEqDiff, Nat.reduceAdd, Nat.reduceMul, Nat.reduceSub, reduceCtorEq, putAt, unE, Nat.reduceBEq, convE, buildE, List.replicate, Int.reduceLT, Int.reduceLE, Int.reduceToNat, mkE, mapSetE, hN, hF, ty_3, ty_9, ty_22, ty_24, notIf, isEq, k1, k2, e1, hg]
          refine ⟨leaves.length - (i + 1), _, by omega, ?_, i + 1, ⟨by omega, h8'⟩, rfl, rfl⟩
          rw [hns]
          simp only [runB, finC, finD, AS.get, AS.mem, false_implies, implies_true, ↓reduceIte, Nat.reduceEqDiff, Option.isSome_some, Option.isSome_none, forall_eq_or_imp, forall_eq, reduceCtorEq, Nat.reduceAdd, Nat.reduceMul, List.zip_cons_cons, List.zip_nil_left, List.zip_nil_right, List.forall_mem_nil]
          first | done | simp
        · have k2 : (((leaves.getD i []).length : Int) != 8) = true := ne8t hp8
          have hS : keyS ⟨seed, leaves, next⟩ = 9 := if_neg (by
            rintro ⟨a1, a2, a3, a4, a5⟩
            refine hp8 (a3 _ ?_)
            show leaves.getD i [] ∈ leaves
            rw [List.getD, List.getElem?_eq_getElem hlt]
            exact List.getElem_mem _)
          generalize leaves.getD i [] = q at hg k2
          simp only [runA, runB, runC, runD, runE, runF, fieldE, storeE, binE, ↓reduceIte, Nat.reduceLT, Nat.reduceLeDiff, Nat.reduceEqDiff, Nat.reduceAdd, Nat.reduceMul, Nat.reduceSub, reduceCtorEq, putAt, unE, Nat.reduceBEq, convE, buildE, List.replicate, Int.reduceLT, Int.reduceLE, Int.reduceToNat, mkE, mapSetE, hN, hF, ty_3, ty_9, ty_22, ty_24, notIf, isEq, k1, k2, e1, hg]
          simp only [runB, finC, finD, Option.isSome_some, Option.isSome_none, ↓reduceIte, Nat.reduceEqDiff, Nat.reduceAdd, Nat.reduceMul, forall_eq_or_imp, forall_eq, implies_true, Nat.reduceBEq, reduceCtorEq, false_implies, List.zip_cons_cons, List.zip_nil_left, List.zip_nil_right, Nat.reduceLeDiff, List.forall_mem_nil, rs_20, hS]
      · have k1 : decide ((i : Int) < (leaves.length : Int)) = false := by simpa using hlt
        have hil : i = leaves.length := by omega
        have hS : keyS ⟨seed, leaves, next⟩ = 0 := if_pos ⟨hca, hcd0, all8_of (fun k (hk : k < leaves.length) => h8 k (by omega)), hcf, hcg⟩
        simp only [runA, runB, runC, runD, runE, runF, fieldE, storeE, binE, ↓reduceIte, Nat.reduceLT, Nat.reduceLeDiff, Nat.reduceEqDiff, Nat.reduceAdd, Nat.reduceMul, Nat.reduceSub, reduceCtorEq, putAt, unE, Nat.reduceBEq, convE, buildE, List.replicate, Int.reduceLT, Int.reduceLE, Int.reduceToNat, mkE, mapSetE, hN, hF, ty_3, ty_9, ty_22, ty_24, notIf, isEq, k1]
        simp only [runB, finC, finD, Option.isSome_some, Option.isSome_none, ↓reduceIte, Nat.reduceEqDiff, Nat.reduceAdd, Nat.reduceMul, forall_eq_or_imp, forall_eq, implies_true, Nat.reduceBEq, reduceCtorEq, false_implies, List.zip_cons_cons, List.zip_nil_left, List.zip_nil_right, Nat.reduceLeDiff, List.forall_mem_nil, rs_20, hS]
  · have n1 : ((leaves.length : Int) != 1) = true := by rw [h]; rfl
    have n2 : ((leaves.length : Int) != 2) = true := by rw [h]; rfl
    have n3 : ((leaves.length : Int) != 4) = true := by rw [h]; rfl
    have n4 : ((leaves.length : Int) != 8) = true := by rw [h]; rfl
    have n5 : ((leaves.length : Int) != 16) = false := by rw [h]; rfl
    simp only [runA, runB, runC, runD, runE, runF, fieldE, storeE, binE, ↓reduceIte, Nat.reduceLT, Nat.reduceLeDiff, Nat.reduceEqDiff, Nat.reduceAdd, Nat.reduceMul, Nat.reduceSub, reduceCtorEq, putAt, unE, Nat.reduceBEq, convE, buildE, List.replicate, Int.reduceLT, Int.reduceLE, Int.reduceToNat, mkE, mapSetE, hN, hF, ty_3, ty_9, ty_22, ty_24, notIf, isEq, texts_length, ga, gf, gg, n1, n2, n3, n4, n5]
    clear n1 n2 n3 n4 n5
    refine AWP.loop (fun k st => ∃ i : Nat, (i ≤ leaves.length ∧ ∀ k, k < i → (leaves.getD k []).length = 8) ∧ k = leaves.length - i ∧ st = ⟨[(1, .ptr 64 0), (3, .c (.int .i64 (leaves.length : Int))), (4, .c (.int .i64 (i : Int)))], [(64, .obj [.c (.str seed), .c (.sl (texts leaves)), .c (.int .i64 next)] false)]⟩) ⟨leaves.length, _, ?w, 0, ⟨Nat.zero_le _, fun k hk => absurd hk (Nat.not_lt_zero k)⟩, rfl, rfl⟩ ?r
    case w =>
      rw [hns]
      simp only [runB, finC, finD, AS.get, AS.mem, false_implies, implies_true, ↓reduceIte, Nat.reduceEqDiff, Option.isSome_some, Option.isSome_none, forall_eq_or_imp, forall_eq, reduceCtorEq, Nat.reduceAdd, Nat.reduceMul, List.zip_cons_cons, List.zip_nil_left, List.zip_nil_right, List.forall_mem_nil]
      first | done | simp
    case r =>
      rintro k st ⟨i, ⟨hi, h8⟩, rfl, rfl⟩
      refine vc_sound hΓ mixed _ _ _ ?_
      by_cases hlt : i < leaves.length
      · have k1 : decide ((i : Int) < (leaves.length : Int)) = true := by simpa using hlt
        have e1 : IntKind.i64.wrap ((i : Int) + 1) = (i : Int) + 1 := wrapI (by omega)
        have hg := textsD leaves i hlt
        by_cases hp8 : (leaves.getD i []).length = 8
        · have k2 : (((leaves.getD i []).length : Int) != 8) = false := ne8f hp8
          have h8' : ∀ k, k < i + 1 → (leaves.getD k []).length = 8 := fun k hk => by
            by_cases e : k = i
            · rw [e]; exact hp8
            · exact h8 k (by omega)
          generalize leaves.getD i [] = q at hg k2
          simp only [runA, runB, runC, runD, runE, runF, fieldE, storeE, binE, ↓reduceIte, Nat.reduceLT, Nat.reduceLeDiff, Nat.reduceEqDiff, Nat.reduceAdd, Nat.reduceMul, Nat.reduceSub, reduceCtorEq, putAt, unE, Nat.reduceBEq, convE, buildE, List.replicate, Int.reduceLT, Int.reduceLE, Int.reduceToNat, mkE, mapSetE, hN, hF, ty_3, ty_9, ty_22, ty_24, notIf, isEq, k1, k2, e1, hg]
          refine ⟨leaves.length - (i + 1), _, by omega, ?_, i + 1, ⟨by omega, h8'⟩, rfl, rfl⟩
          rw [hns]
          simp only [runB, finC, finD, AS.get, AS.mem, false_implies, implies_true, ↓reduceIte, Nat.reduceEqDiff, Option.isSome_some, Option.isSome_none, forall_eq_or_imp, forall_eq, reduceCtorEq, Nat.reduceAdd, Nat.reduceMul, List.zip_cons_cons, List.zip_nil_left, List.zip_nil_right, List.forall_mem_nil]
          first | done | simp
        · have k2 : (((leaves.getD i []).length : Int) != 8) = true := ne8t hp8
          have hS : keyS ⟨seed, leaves, next⟩ = 9 := if_neg (by
            rintro ⟨a1, a2, a3, a4, a5⟩
            refine hp8 (a3 _ ?_)
            show leaves.getD i [] ∈ leaves
            rw [List.getD, List.getElem?_eq_getElem hlt]
            exact List.getElem_mem _)
          generalize leaves.getD i [] = q at hg k2
          simp only [runA, runB, runC, runD, runE, runF, fieldE, storeE, binE, ↓reduceIte, Nat.reduceLT, Nat.reduceLeDiff, Nat.reduceEqDiff, Nat.reduceAdd, Nat.reduceMul, Nat.reduceSub, reduceCtorEq, putAt, unE, Nat.reduceBEq, convE, buildE, List.replicate, Int.reduceLT, Int.reduceLE, Int.reduceToNat, mkE, mapSetE, hN, hF, ty_3, ty_9, ty_22, ty_24, notIf, isEq, k1, k2, e1, hg]
          simp only [runB, finC, finD, Option.isSome_some, Option.isSome_none, ↓reduceIte, Nat.reduceEqDiff, Nat.reduceAdd, Nat.reduceMul, forall_eq_or_imp, forall_eq, implies_true, Nat.reduceBEq, reduceCtorEq, false_implies, List.zip_cons_cons, List.zip_nil_left, List.zip_nil_right, Nat.reduceLeDiff, List.forall_mem_nil, rs_20, hS]
      · have k1 : decide ((i : Int) < (leaves.length : Int)) = false := by simpa using hlt
        have hil : i = leaves.length := by omega
        have hS : keyS ⟨seed, leaves, next⟩ = 0 := if_pos ⟨hca, hcd0, all8_of (fun k (hk : k < leaves.length) => h8 k (by omega)), hcf, hcg⟩
        simp only [runA, runB, runC, runD, runE, runF, fieldE, storeE, binE, ↓reduceIte, Nat.reduceLT, Nat.reduceLeDiff, Nat.reduceEqDiff, Nat.reduceAdd, Nat.reduceMul, Nat.reduceSub, reduceCtorEq, putAt, unE, Nat.reduceBEq, convE, buildE, List.replicate, Int.reduceLT, Int.reduceLE, Int.reduceToNat, mkE, mapSetE, hN, hF, ty_3, ty_9, ty_22, ty_24, notIf, isEq, k1]
        simp only [runB, finC, finD, Option.isSome_some, Option.isSome_none, ↓reduceIte, Nat.reduceEqDiff, Nat.reduceAdd, Nat.reduceMul, forall_eq_or_imp, forall_eq, implies_true, Nat.reduceBEq, reduceCtorEq, false_implies, List.zip_cons_cons, List.zip_nil_left, List.zip_nil_right, Nat.reduceLeDiff, List.forall_mem_nil, rs_20, hS]

noncomputable def rootK (k : Ky) : List UInt8 × Int := if goodK k then (rootS k.leaves, 0) else ([], 9)
noncomputable def rootKC : Contract := mkC (α := Ky) (fun k => k.leaves.length ≤ 9223372036854775807) (fun k => [k.av]) (fun _ => []) (fun k => ⟨[.pv (.c (.str (rootK k).1)), .pv (.c (.int .i64 (rootK k).2))], []⟩)
set_option maxRecDepth 100000 in
set_option maxHeartbeats 1000000 in
theorem rootK_sound (hΓ : SoundG Try.prog Γ) (h1 : Γ 19 = keyC) (h2 : Γ 63 = rootC) : SoundC Try.prog 18 rootKC := by
  refine sound_fn Try.func18 (by kernel_rfl) rfl rfl ?_
  intro args objs r hr
  obtain ⟨⟨seed, leaves, next⟩, hl, rfl, rfl, rfl⟩ := mkC_inv hr
  have hl : leaves.length ≤ 9223372036854775807 := hl
  refine ⟨rfl, by show 1 ≤ _; decide, fun E hN hns hF => ?_⟩
  refine vc_sound hΓ mixed _ _ _ ?_
  have hN := hN.trans nt_18
  have q1 := key_at ⟨seed, leaves, next⟩ hl
  unfold Ky.av
  dsimp only at q1 ⊢
  by_cases hg : goodK ⟨seed, leaves, next⟩
  · have hK : keyS ⟨seed, leaves, next⟩ = 0 := if_pos hg
    have hS : rootK ⟨seed, leaves, next⟩ = (rootS leaves, 0) := if_pos hg
    rw [hK] at q1
    rw [hS]
    have q2 := root_at leaves hg.okl
    have b0 : ((0 : Int) != 0) = false := rfl
    simp only [runA, runB, runC, runD, runE, runF, fieldE, storeE, binE, ↓reduceIte, Nat.reduceLT, Nat.reduceLeDiff, Nat.reduceEqDiff, Nat.reduceAdd, Nat.reduceMul, Nat.reduceSub, reduceCtorEq, putAt, unE, Nat.reduceBEq, convE, buildE, List.replicate, Int.reduceLT, Int.reduceLE, Int.reduceToNat, mkE, mapSetE, hN, hF, ty_3, ty_9, ty_22, ty_24, ty_27, notIf, isEq, h1, h2, q1, q2, b0]
    simp only [runB, finC, finD, Option.isSome_some, Option.isSome_none, ↓reduceIte, Nat.reduceEqDiff, Nat.reduceAdd, Nat.reduceMul, forall_eq_or_imp, forall_eq, implies_true, Nat.reduceBEq, reduceCtorEq, false_implies, List.zip_cons_cons, List.zip_nil_left, List.zip_nil_right, Nat.reduceLeDiff, List.forall_mem_nil, rs_18]
  · have hK : keyS ⟨seed, leaves, next⟩ = 9 := if_neg hg
    have hS : rootK ⟨seed, leaves, next⟩ = ([], 9) := if_neg hg
    rw [hK] at q1
    rw [hS]
    have b0 : ((9 : Int) != 0) = true := rfl
    simp only [runA, runB, runC, runD, runE, runF, fieldE, storeE, binE, ↓reduceIte, Nat.reduceLT, Nat.reduceLeDiff, Nat.reduceEqDiff, Nat.reduceAdd, Nat.reduceMul, Nat.reduceSub, reduceCtorEq, putAt, unE, Nat.reduceBEq, convE, buildE, List.replicate, Int.reduceLT, Int.reduceLE, Int.reduceToNat, mkE, mapSetE, hN, hF, ty_3, ty_9, ty_22, ty_24, ty_27, notIf, isEq, h1, q1, b0]
    simp only [runB, finC, finD, Option.isSome_some, Option.isSome_none, ↓reduceIte, Nat.reduceEqDiff, Nat.reduceAdd, Nat.reduceMul, forall_eq_or_imp, forall_eq, implies_true, Nat.reduceBEq, reduceCtorEq, false_implies, List.zip_cons_cons, List.zip_nil_left, List.zip_nil_right, Nat.reduceLeDiff, List.forall_mem_nil, rs_18]

def sizeS (h : Int) : Int := if h < 0 ∨ 4 < h then 0 else 90 + 8 * h
noncomputable def sizeGC : Contract := mkC (α := Int) (fun _ => True) (fun h => [.c (.int .i64 h)]) (fun _ => []) (fun h => ⟨[.pv (.c (.int .i64 (sizeS h)))], []⟩)
theorem sizeG_at (n : Int) : sizeGC [.c (.int .i64 n)] [] = some ⟨[.pv (.c (.int .i64 (sizeS n)))], []⟩ :=
  mkC_at (α := Int) n trivial (by
    rintro m _ h _
    simp only [List.cons.injEq, AV.c.injEq, PC.int.injEq, true_and, and_true] at h
    rw [h])
set_option maxHeartbeats 1000000 in
theorem sizeG_sound : SoundC Try.prog 23 sizeGC := by
  refine sound_fn Try.func23 (by kernel_rfl) rfl rfl ?_
  intro args objs r hr
  obtain ⟨n, _, rfl, rfl, rfl⟩ := mkC_inv hr
  refine ⟨rfl, by show 1 ≤ _; decide, fun E hN hns hF => ?_⟩
  refine vc_sound none0_sound mixed _ _ _ ?_
  have hN := hN.trans nt_23
  by_cases c1 : n < 0
  · have g1 : decide (n < 0) = true := by simpa using c1
    have hS : sizeS n = 0 := if_pos (.inl c1)
    simp only [runA, runB, runC, runD, runE, runF, fieldE, storeE, binE, ↓reduceIte, Nat.reduceLT, Nat.reduceLeDiff, Nat.reduceEqDiff, Nat.reduceAdd, Nat.reduceMul, Nat.reduceSub, reduceCtorEq, putAt, unE, Nat.reduceBEq, convE, buildE, List.replicate, Int.reduceLT, Int.reduceLE, Int.reduceToNat, mkE, mapSetE, hN, hF, ty_3, notIf, isEq, g1]
    simp only [runB, finC, finD, Option.isSome_some, Option.isSome_none, ↓reduceIte, Nat.reduceEqDiff, Nat.reduceAdd, Nat.reduceMul, forall_eq_or_imp, forall_eq, implies_true, Nat.reduceBEq, reduceCtorEq, false_implies, List.zip_cons_cons, List.zip_nil_left, List.zip_nil_right, Nat.reduceLeDiff, List.forall_mem_nil, rs_23, hS]
  have g1 : decide (n < 0) = false := by simpa using c1
  by_cases c2 : 4 < n
  · have g2 : decide (n > 4) = true := by simpa using c2
    have hS : sizeS n = 0 := if_pos (.inr c2)
    simp only [runA, runB, runC, runD, runE, runF, fieldE, storeE, binE, ↓reduceIte, Nat.reduceLT, Nat.reduceLeDiff, Nat.reduceEqDiff, Nat.reduceAdd, Nat.reduceMul, Nat.reduceSub, reduceCtorEq, putAt, unE, Nat.reduceBEq, convE, buildE, List.replicate, Int.reduceLT, Int.reduceLE, Int.reduceToNat, mkE, mapSetE, hN, hF, ty_3, notIf, isEq, g1, g2]
    simp only [runB, finC, finD, Option.isSome_some, Option.isSome_none, ↓reduceIte, Nat.reduceEqDiff, Nat.reduceAdd, Nat.reduceMul, forall_eq_or_imp, forall_eq, implies_true, Nat.reduceBEq, reduceCtorEq, false_implies, List.zip_cons_cons, List.zip_nil_left, List.zip_nil_right, Nat.reduceLeDiff, List.forall_mem_nil, rs_23, hS]
  have g2 : decide (n > 4) = false := by simpa using c2
  have hS : sizeS n = 90 + 8 * n := if_neg (by omega)
  have e1 : IntKind.i64.wrap (11 + n) = 11 + n := wrapI (by omega)
  have e2 : IntKind.i64.wrap (8 * (11 + n)) = 8 * (11 + n) := wrapI (by omega)
  have e3 : IntKind.i64.wrap (2 + 8 * (11 + n)) = 90 + 8 * n := by rw [wrapI (by omega)]; omega
  simp only [runA, runB, runC, runD, runE, runF, fieldE, storeE, binE, ↓reduceIte, Nat.reduceLT, Nat.reduceLeDiff, Nat.reduceEqDiff, Nat.reduceAdd, Nat.reduceMul, Nat.reduceSub, reduceCtorEq, putAt, unE, Nat.reduceBEq, convE, buildE, List.replicate, Int.reduceLT, Int.reduceLE, Int.reduceToNat, mkE, mapSetE, hN, hF, ty_3, notIf, isEq, g1, g2, e1, e2, e3]
  simp only [runB, finC, finD, Option.isSome_some, Option.isSome_none, ↓reduceIte, Nat.reduceEqDiff, Nat.reduceAdd, Nat.reduceMul, forall_eq_or_imp, forall_eq, implies_true, Nat.reduceBEq, reduceCtorEq, false_implies, List.zip_cons_cons, List.zip_nil_left, List.zip_nil_right, Nat.reduceLeDiff, List.forall_mem_nil, rs_23, hS]


variable {Γ : FuncId → Contract}

def lenB (n : Nat) : Nat := n.log2 + 1
noncomputable def len64C : Contract := mkC (α := Nat) okN16 (fun n => [.c (.int .u64 (n : Int))]) (fun _ => []) (fun n => ⟨[.pv (.c (.int .i64 (lenB n : Int)))], []⟩)
theorem len64_at (n : Nat) (h : okN16 n) : len64C [.c (.int .u64 (n : Int))] [] = some ⟨[.pv (.c (.int .i64 (lenB n : Int)))], []⟩ :=
  mkC_at (α := Nat) n h (by
    rintro m _ h _
    simp only [List.cons.injEq, AV.c.injEq, PC.int.injEq, true_and, and_true] at h
    obtain rfl : m = n := by omega
    rfl)

set_option maxRecDepth 100000 in
set_option maxHeartbeats 4000000 in
theorem len64_sound : SoundC Try.prog 110 len64C := by
  refine sound_fn Try.func110 (by kernel_rfl) rfl rfl ?_
  intro args objs r hr
  obtain ⟨n, hn, rfl, rfl, rfl⟩ := mkC_inv hr
  have hn : okN16 n := hn
  refine ⟨rfl, by show 1 ≤ _; decide, fun E hN hns hF => ?_⟩
  refine vc_sound none0_sound mixed _ _ _ ?_
  have hN := hN.trans nt_110
  have hle : n ≤ 16 := by unfold okN16 at hn; omega
  have g1 : decide ((n : Int) ≥ 4294967296) = false := by simp; omega
  have g2 : decide ((n : Int) ≥ 65536) = false := by simp; omega
  have g3 : decide ((n : Int) ≥ 256) = false := by simp; omega
  have e1 : IntKind.u8.wrap (n : Int) = (n : Int) := by rw [wrapB]; omega
  simp only [runA, runB, runC, runD, runE, runF, fieldE, storeE, binE, ↓reduceIte, Nat.reduceLT, Nat.reduceLeDiff, Nat.reduceEqDiff, Nat.reduceAdd, Nat.reduceMul, Nat.reduceSub, reduceCtorEq, putAt, unE, Nat.reduceBEq, convE, buildE, List.replicate, Int.reduceLT, Int.reduceLE, Int.reduceToNat, mkE, mapSetE, hN, hF, ty_3, ty_5, ty_9, ty_143, notIf, isEq, g1, g2, g3, e1]
  have u1 : ((1 : UInt8).toNat : Int) = 1 := rfl
  have u2 : ((2 : UInt8).toNat : Int) = 2 := rfl
  have u3 : ((3 : UInt8).toNat : Int) = 3 := rfl
  have u4 : ((4 : UInt8).toNat : Int) = 4 := rfl
  have u5 : ((5 : UInt8).toNat : Int) = 5 := rfl
  have w1 : IntKind.i64.wrap 1 = 1 := rfl
  have w2 : IntKind.i64.wrap 2 = 2 := rfl
  have w3 : IntKind.i64.wrap 3 = 3 := rfl
  have w4 : IntKind.i64.wrap 4 = 4 := rfl
  have w5 : IntKind.i64.wrap 5 = 5 := rfl
  have x1 : (lenB 1 : Int) = 1 := by decide
  have x2 : (lenB 2 : Int) = 2 := by decide
  have x3 : (lenB 4 : Int) = 3 := by decide
  have x4 : (lenB 8 : Int) = 4 := by decide
  have x5 : (lenB 16 : Int) = 5 := by decide
  rcases hn with rfl | rfl | rfl | rfl | rfl
  all_goals
    simp only [runA, runB, runC, runD, runE, runF, fieldE, storeE, binE, ↓reduceIte, Nat.reduceLT, Nat.reduceLeDiff, Nat.reduceEqDiff, Nat.reduceAdd, Nat.reduceMul, Nat.reduceSub, reduceCtorEq, putAt, unE, Nat.reduceBEq, convE, buildE, List.replicate, Int.reduceLT, Int.reduceLE, Int.reduceToNat, mkE, mapSetE, hN, hF, ty_3, ty_5, ty_9, ty_143, notIf, isEq, u1, u2, u3, u4, u5, w1, w2, w3, w4, w5, Int.zero_add]
    simp only [runB, finC, finD, Option.isSome_some, Option.isSome_none, ↓reduceIte, Nat.reduceEqDiff, Nat.reduceAdd, Nat.reduceMul, forall_eq_or_imp, forall_eq, implies_true, Nat.reduceBEq, reduceCtorEq, false_implies, List.zip_cons_cons, List.zip_nil_left, List.zip_nil_right, Nat.reduceLeDiff, List.forall_mem_nil, rs_110, x1, x2, x3, x4, x5]

set_option maxHeartbeats 1000000 in
theorem len_sound (hΓ : SoundG Try.prog Γ) (h1 : Γ 110 = len64C) : SoundC Try.prog 66 len64C := by
  refine sound_fn Try.func66 (by kernel_rfl) rfl rfl ?_
  intro args objs r hr
  obtain ⟨n, hn, rfl, rfl, rfl⟩ := mkC_inv hr
  refine ⟨rfl, by show 1 ≤ _; decide, fun E hN hns hF => ?_⟩
  refine vc_sound hΓ mixed _ _ _ ?_
  have hN := hN.trans nt_66
  have h2 := len64_at n hn
  simp only [runA, runB, runC, runD, runE, runF, fieldE, storeE, binE, ↓reduceIte, Nat.reduceLT, Nat.reduceLeDiff, Nat.reduceEqDiff, Nat.reduceAdd, Nat.reduceMul, Nat.reduceSub, reduceCtorEq, putAt, unE, Nat.reduceBEq, convE, buildE, List.replicate, Int.reduceLT, Int.reduceLE, Int.reduceToNat, mkE, mapSetE, hN, hF, ty_3, ty_46, ty_143, ty_151, notIf, isEq, h1, h2]
  simp only [runB, finC, finD, Option.isSome_some, Option.isSome_none, ↓reduceIte, Nat.reduceEqDiff, Nat.reduceAdd, Nat.reduceMul, forall_eq_or_imp, forall_eq, implies_true, Nat.reduceBEq, reduceCtorEq, false_implies, List.zip_cons_cons, List.zip_nil_left, List.zip_nil_right, Nat.reduceLeDiff, List.forall_mem_nil, rs_66]

def heightS (k : Ky) : Int := if goodK k then (k.leaves.length.log2 : Int) else 0
noncomputable def heightC : Contract := mkC (α := Ky) (fun k => k.leaves.length ≤ 9223372036854775807) (fun k => [k.av]) (fun _ => []) (fun k => ⟨[.pv (.c (.int .i64 (heightS k)))], []⟩)
set_option maxRecDepth 100000 in
set_option maxHeartbeats 1000000 in
theorem height_sound (hΓ : SoundG Try.prog Γ) (h1 : Γ 19 = keyC) (h2 : Γ 66 = len64C) : SoundC Try.prog 21 heightC := by
  refine sound_fn Try.func21 (by kernel_rfl) rfl rfl ?_
  intro args objs r hr
  obtain ⟨⟨seed, leaves, next⟩, hl, rfl, rfl, rfl⟩ := mkC_inv hr
  have hl : leaves.length ≤ 9223372036854775807 := hl
  refine ⟨rfl, by show 1 ≤ _; decide, fun E hN hns hF => ?_⟩
  refine vc_sound hΓ mixed _ _ _ ?_
  have hN := hN.trans nt_21
  have q1 := key_at ⟨seed, leaves, next⟩ hl
  unfold Ky.av
  dsimp only at q1 ⊢
  by_cases hg : goodK ⟨seed, leaves, next⟩
  · have hK : keyS ⟨seed, leaves, next⟩ = 0 := if_pos hg
    have hS : heightS ⟨seed, leaves, next⟩ = (leaves.length.log2 : Int) := if_pos hg
    rw [hK] at q1
    rw [hS]
    have hn : okN16 leaves.length := hg.2.1
    have hle : leaves.length ≤ 16 := by unfold okN16 at hn; omega
    have q2 := len64_at leaves.length hn
    have hlg : leaves.length.log2 ≤ leaves.length := Nat.log2_le_self _
    have b0 : ((0 : Int) != 0) = false := rfl
    have e1 : IntKind.u64.wrap (leaves.length : Int) = (leaves.length : Int) := wrapU (by omega)
    have e2 : IntKind.i64.wrap ((lenB leaves.length : Int) - 1) = (leaves.length.log2 : Int) := by unfold lenB; rw [wrapI (by omega)]; omega
    simp only [runA, runB, runC, runD, runE, runF, fieldE, storeE, binE, ↓reduceIte, Nat.reduceLT, Nat.reduceLeDiff, Nat.reduceEqDiff, Nat.reduceAdd, Nat.reduceMul, Nat.reduceSub, reduceCtorEq, putAt, unE, Nat.reduceBEq, convE, buildE, List.replicate, Int.reduceLT, Int.reduceLE, Int.reduceToNat, mkE, mapSetE, hN, hF, ty_3, ty_9, ty_22, ty_24, ty_27, ty_46, notIf, isEq, texts_length, h1, h2, q1, q2, b0, e1, e2]
    simp only [runB, finC, finD, Option.isSome_some, Option.isSome_none, ↓reduceIte, Nat.reduceEqDiff, Nat.reduceAdd, Nat.reduceMul, forall_eq_or_imp, forall_eq, implies_true, Nat.reduceBEq, reduceCtorEq, false_implies, List.zip_cons_cons, List.zip_nil_left, List.zip_nil_right, Nat.reduceLeDiff, List.forall_mem_nil, rs_21]
  · have hK : keyS ⟨seed, leaves, next⟩ = 9 := if_neg hg
    have hS : heightS ⟨seed, leaves, next⟩ = 0 := if_neg hg
    rw [hK] at q1
    rw [hS]
    have b0 : ((9 : Int) != 0) = true := rfl
    simp only [runA, runB, runC, runD, runE, runF, fieldE, storeE, binE, ↓reduceIte, Nat.reduceLT, Nat.reduceLeDiff, Nat.reduceEqDiff, Nat.reduceAdd, Nat.reduceMul, Nat.reduceSub, reduceCtorEq, putAt, unE, Nat.reduceBEq, convE, buildE, List.replicate, Int.reduceLT, Int.reduceLE, Int.reduceToNat, mkE, mapSetE, hN, hF, ty_3, ty_9, ty_22, ty_24, ty_27, ty_46, notIf, isEq, h1, q1, b0]
    simp only [runB, finC, finD, Option.isSome_some, Option.isSome_none, ↓reduceIte, Nat.reduceEqDiff, Nat.reduceAdd, Nat.reduceMul, forall_eq_or_imp, forall_eq, implies_true, Nat.reduceBEq, reduceCtorEq, false_implies, List.zip_cons_cons, List.zip_nil_left, List.zip_nil_right, Nat.reduceLeDiff, List.forall_mem_nil, rs_21]

theorem tdiv_two2 (n : Nat) (h : n < 9223372036854775808) : IntKind.i64.wrap ((n : Int).tdiv 2) = ((n / 2 : Nat) : Int) := by
  rw [Int.tdiv_eq_ediv_of_nonneg (by omega), show (n : Int) / 2 = ((n / 2 : Nat) : Int) from by omega, wrapI (by omega)]
set_option maxRecDepth 100000 in
set_option maxHeartbeats 1000000 in
theorem refHeight_sound (hΓ : SoundG Try.prog Γ) (h1 : Γ 20 = keyC) : SoundC Try.prog 22 heightC := by
  refine sound_fn Try.func22 (by kernel_rfl) rfl rfl ?_
  intro args objs r hr
  obtain ⟨⟨seed, leaves, next⟩, hl, rfl, rfl, rfl⟩ := mkC_inv hr
  have hl : leaves.length ≤ 9223372036854775807 := hl
  refine ⟨rfl, by show 1 ≤ _; decide, fun E hN hns hF => ?_⟩
  refine vc_sound hΓ mixed _ _ _ ?_
  have hN := hN.trans nt_22
  have q1 := key_at ⟨seed, leaves, next⟩ hl
  unfold Ky.av
  dsimp only at q1 ⊢
  by_cases hg : goodK ⟨seed, leaves, next⟩
  · have hK : keyS ⟨seed, leaves, next⟩ = 0 := if_pos hg
    have hS : heightS ⟨seed, leaves, next⟩ = (leaves.length.log2 : Int) := if_pos hg
    rw [hK] at q1
    rw [hS]
    have hn : okN16 leaves.length := hg.2.1
    have b0 : ((0 : Int) != 0) = false := rfl
    simp only [runA, runB, runC, runD, runE, runF, fieldE, storeE, binE, ↓reduceIte, Nat.reduceLT, Nat.reduceLeDiff, Nat.reduceEqDiff, Nat.reduceAdd, Nat.reduceMul, Nat.reduceSub, reduceCtorEq, putAt, unE, Nat.reduceBEq, convE, buildE, List.replicate, Int.reduceLT, Int.reduceLE, Int.reduceToNat, mkE, mapSetE, hN, hF, ty_3, ty_9, ty_22, ty_24, notIf, isEq, texts_length, h1, q1, b0]
    refine AWP.loop (fun k st => ∃ i m : Nat, (m ≤ 16 ∧ 1 ≤ m ∧ i ≤ 16 ∧ m.log2 + i = leaves.length.log2) ∧ k = m ∧ st = ⟨[(3, .c (.int .i64 (i : Int))), (4, .c (.int .i64 (m : Int)))], []⟩) ⟨leaves.length, _, ?w, 0, leaves.length, ⟨by unfold okN16 at hn; omega, by unfold okN16 at hn; omega, by omega, rfl⟩, rfl, rfl⟩ ?r
    case w =>
      rw [hns]
      simp only [runB, finC, finD, AS.get, AS.mem, false_implies, implies_true, ↓reduceIte, Nat.reduceEqDiff, Option.isSome_some, Option.isSome_none, forall_eq_or_imp, forall_eq, reduceCtorEq, Nat.reduceAdd, Nat.reduceMul, List.zip_cons_cons, List.zip_nil_left, List.zip_nil_right, List.forall_mem_nil]
      first | done | simp
    case r =>
      rintro k st ⟨i, m, ⟨hm, hm1, hi, he⟩, rfl, rfl⟩
      refine vc_sound hΓ mixed _ _ _ ?_
      by_cases hlt : 1 < k
      · have k1 : decide ((k : Int) > 1) = true := by simp; omega
        have hlog : k.log2 = (k / 2).log2 + 1 := by rw [Nat.log2_def, if_pos (by omega)]
        have hb : (k / 2).log2 ≤ k / 2 := Nat.log2_le_self _
        have hll : leaves.length.log2 ≤ leaves.length := Nat.log2_le_self _
        have h16 : leaves.length.log2 ≤ 4 := by
          rcases hn with h | h | h | h | h <;> rw [h] <;> decide
        have e1 : IntKind.i64.wrap ((i : Int) + 1) = ((i + 1 : Nat) : Int) := by rw [wrapI (by omega)]; omega
        have e2 := tdiv_two2 k (by omega)
        have h20 : ((2 : Int) = 0) = False := by simp
        simp only [runA, runB, runC, runD, runE, runF, fieldE, storeE, binE, ↓reduceIte, Nat.reduceLT, Nat.reduceLeDiff, Nat.reduceEqDiff, Nat.reduceAdd, Nat.reduceMul, Nat.reduceSub, reduceCtorEq, putAt, unE, Nat.reduceBEq, convE, buildE, List.replicate, Int.reduceLT, Int.reduceLE, Int.reduceToNat, mkE, mapSetE, hN, hF, ty_3, ty_9, ty_22, ty_24, notIf, isEq, k1, e1, e2, h20]
        refine ⟨k / 2, _, by omega, ?_, i + 1, k / 2, ⟨by omega, by omega, by omega, by omega⟩, rfl, rfl⟩
        rw [hns]
        simp only [runB, finC, finD, AS.get, AS.mem, false_implies, implies_true, ↓reduceIte, Nat.reduceEqDiff, Option.isSome_some, Option.isSome_none, forall_eq_or_imp, forall_eq, reduceCtorEq, Nat.reduceAdd, Nat.reduceMul, List.zip_cons_cons, List.zip_nil_left, List.zip_nil_right, List.forall_mem_nil]
        first | done | simp
      · have k1 : decide ((k : Int) > 1) = false := by simp; omega
        obtain rfl : k = 1 := by omega
        have hl1 : Nat.log2 1 = 0 := by decide
        obtain rfl : i = leaves.length.log2 := by omega
        simp only [runA, runB, runC, runD, runE, runF, fieldE, storeE, binE, ↓reduceIte, Nat.reduceLT, Nat.reduceLeDiff, Nat.reduceEqDiff, Nat.reduceAdd, Nat.reduceMul, Nat.reduceSub, reduceCtorEq, putAt, unE, Nat.reduceBEq, convE, buildE, List.replicate, Int.reduceLT, Int.reduceLE, Int.reduceToNat, mkE, mapSetE, hN, hF, ty_3, ty_9, ty_22, ty_24, notIf, isEq, k1]
        simp only [runB, finC, finD, Option.isSome_some, Option.isSome_none, ↓reduceIte, Nat.reduceEqDiff, Nat.reduceAdd, Nat.reduceMul, forall_eq_or_imp, forall_eq, implies_true, Nat.reduceBEq, reduceCtorEq, false_implies, List.zip_cons_cons, List.zip_nil_left, List.zip_nil_right, Nat.reduceLeDiff, List.forall_mem_nil, rs_22]
  · have hK : keyS ⟨seed, leaves, next⟩ = 9 := if_neg hg
    have hS : heightS ⟨seed, leaves, next⟩ = 0 := if_neg hg
    rw [hK] at q1
    rw [hS]
    have b0 : ((9 : Int) != 0) = true := rfl
    simp only [runA, runB, runC, runD, runE, runF, fieldE, storeE, binE, ↓reduceIte, Nat.reduceLT, Nat.reduceLeDiff, Nat.reduceEqDiff, Nat.reduceAdd, Nat.reduceMul, Nat.reduceSub, reduceCtorEq, putAt, unE, Nat.reduceBEq, convE, buildE, List.replicate, Int.reduceLT, Int.reduceLE, Int.reduceToNat, mkE, mapSetE, hN, hF, ty_3, ty_9, ty_22, ty_24, notIf, isEq, h1, q1, b0]
    simp only [runB, finC, finD, Option.isSome_some, Option.isSome_none, ↓reduceIte, Nat.reduceEqDiff, Nat.reduceAdd, Nat.reduceMul, forall_eq_or_imp, forall_eq, implies_true, Nat.reduceBEq, reduceCtorEq, false_implies, List.zip_cons_cons, List.zip_nil_left, List.zip_nil_right, Nat.reduceLeDiff, List.forall_mem_nil, rs_22]

end Go.Proofs.Ytldehcnaepgamaa.AM
