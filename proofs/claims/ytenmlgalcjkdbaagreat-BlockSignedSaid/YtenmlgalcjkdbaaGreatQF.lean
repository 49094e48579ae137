/-
  QF: Sn4 Sn5 Sn6 Sn7 Sn8 SbA SbB Sn9 SbC.
-/
import Derived.Test.YtenmlgalcjkdbaaGreatQD
import Derived.Test.YtenmlgalcjkdbaaGreatQC
import Derived.Test.YtenmlgalcjkdbaaGreatQE
import Derived.Test.YtenmlgalcjkdbaaGreatQP
set_option linter.unusedVariables false
set_option linter.unusedSimpArgs false
namespace Go.Proofs.YtenmlgalcjkdbaaGreat.AM
open Go

variable {Γ : FuncId → Contract}

structure Ky where
  seed : List UInt8
  leaves : List (List UInt8)
  next : Int
  deriving DecidableEq
def Ky.av (k : Ky) : AV := .agg [.c (.str k.seed), .c (.sl (texts k.leaves)), .c (.int .i64 k.next)]
theorem Ky.av_inj {a b : Ky} (h : a.av = b.av) : a = b := by
  obtain ⟨a1, a2, a3⟩ := a
  obtain ⟨b1, b2, b3⟩ := b
  simp only [Ky.av, AV.agg.injEq, List.cons.injEq, AV.c.injEq, PC.str.injEq, PC.sl.injEq, PC.int.injEq, true_and, and_true] at h
  obtain ⟨rfl, h, rfl⟩ := h
  rw [texts_inj h]
def okN16 (n : Nat) : Prop := n = 1 ∨ n = 2 ∨ n = 4 ∨ n = 8 ∨ n = 16
instance (n : Nat) : Decidable (okN16 n) := inferInstanceAs (Decidable (_ ∨ _))
def goodK (k : Ky) : Prop := k.seed.length ≤ 64 ∧ okN16 k.leaves.length ∧ all8 k.leaves ∧ 0 ≤ k.next ∧ k.next ≤ (k.leaves.length : Int)
instance (k : Ky) : Decidable (goodK k) := inferInstanceAs (Decidable (_ ∧ _))
def keyS (k : Ky) : Int := if goodK k then 0 else 9
theorem goodK.okl {k : Ky} (h : goodK k) : Okl k.leaves := by
  obtain ⟨_, h1, h2, _⟩ := h
  refine ⟨by unfold okN16 at h1; omega, fun s hs => by rw [h2 s hs]; decide⟩

def oddC : Contract := fun args objs => match args, objs with
  | [.c (.str s)], [] => some ⟨[.pv (.c (.bool ((s.length : Int) != 8)))], []⟩
  | _, _ => none
set_option maxHeartbeats 1000000 in
theorem odd_sound : SoundC Tryz.prog 98 oddC := by
  refine sound_fn Tryz.func98 (by kernel_rfl) rfl rfl ?_
  intro args objs r hr
  unfold oddC at hr
  split at hr
  · rename_i s
    cases hr
    refine ⟨rfl, by show 1 ≤ _; decide, fun E hN hns hF => ?_⟩
    refine vc_sound none0_sound mixed _ _ _ ?_
    have hN := hN.trans nt_98
    simp only [runA, runB, runC, runD, runE, runF, fieldE, storeE, binE, ↓reduceIte, Nat.reduceLT, Nat.reduceLeDiff, Nat.reduceEqDiff, Nat.reduceAdd, Nat.reduceMul, Nat.reduceSub, reduceCtorEq, putAt, unE, Nat.reduceBEq, convE, buildE, List.replicate, Int.reduceLT, Int.reduceLE, Int.reduceToNat, mkE, mapSetE, hN, hF, ty_3, ty_4, ty_9, notIf, isEq]
    simp only [runB, finC, finD, Option.isSome_some, Option.isSome_none, ↓reduceIte, Nat.reduceEqDiff, Nat.reduceAdd, Nat.reduceMul, forall_eq_or_imp, forall_eq, implies_true, Nat.reduceBEq, reduceCtorEq, false_implies, List.zip_cons_cons, List.zip_nil_left, List.zip_nil_right, Nat.reduceLeDiff, List.forall_mem_nil, rs_98]
  · cases hr
def oddIdx (l : List (List UInt8)) : Int := match l.findIdx? (fun s => s.length != 8) with | some i => (i : Int) | none => -1
theorem oddIdx_some {l : List (List UInt8)} {i : Nat} (hi : i < l.length) (h : (l.getD i []).length ≠ 8) (hb : ∀ k, k < i → (l.getD k []).length = 8) : oddIdx l = (i : Int) := by
  have : l.findIdx? (fun s => s.length != 8) = some i := by
    rw [List.findIdx?_eq_some_iff_getElem]
    refine ⟨hi, ?_, fun j hj => ?_⟩
    · rw [List.getD, List.getElem?_eq_getElem hi] at h
      simpa using h
    · have := hb j hj
      rw [List.getD, List.getElem?_eq_getElem (by omega)] at this
      simpa using this
  unfold oddIdx
  rw [this]
theorem oddIdx_none {l : List (List UInt8)} (h : all8 l) : oddIdx l = -1 := by
  have : l.findIdx? (fun s => s.length != 8) = none := by
    rw [List.findIdx?_eq_none_iff]
    intro x hx
    simp [h x hx]
  unfold oddIdx
  rw [this]
theorem all8_of {l : List (List UInt8)} (h : ∀ k, k < l.length → (l.getD k []).length = 8) : all8 l := fun p hp => by
  obtain ⟨k, hk, rfl⟩ := List.getElem_of_mem hp
  have := h k hk
  rw [List.getD, List.getElem?_eq_getElem hk] at this
  exact this
theorem oddIdx_ge (l : List (List UInt8)) : decide (oddIdx l ≥ 0) = !decide (all8 l) := by
  by_cases h : all8 l
  · rw [oddIdx_none h, decide_eq_true h]; rfl
  · rw [decide_eq_false h]
    have : ∃ i, l.findIdx? (fun s => s.length != 8) = some i := by
      cases hf : l.findIdx? (fun s => s.length != 8) with
      | some i => exact ⟨i, rfl⟩
      | none =>
        rw [List.findIdx?_eq_none_iff] at hf
        exact absurd (fun p hp => by simpa using hf p hp) h
    obtain ⟨i, hi⟩ := this
    unfold oddIdx
    rw [hi]
    simp
noncomputable def idxFC : Contract := mkC (α := List (List UInt8)) (fun l => l.length ≤ 9223372036854775807) (fun l => [.c (.sl (texts l)), .clo 98 []]) (fun _ => []) (fun l => ⟨[.pv (.c (.int .i64 (oddIdx l)))], []⟩)
theorem idxF_at (l : List (List UInt8)) (h : l.length ≤ 9223372036854775807) : idxFC [.c (.sl (texts l)), .clo 98 []] [] = some ⟨[.pv (.c (.int .i64 (oddIdx l)))], []⟩ :=
  mkC_at (α := List (List UInt8)) l h (by
    rintro y _ h _
    simp only [List.cons.injEq, AV.c.injEq, PC.sl.injEq, true_and, and_true] at h
    rw [texts_inj h])
set_option maxHeartbeats 1000000 in
theorem idxF_sound (hΓ : SoundG Tryz.prog Γ) (h1 : Γ 98 = oddC) : SoundC Tryz.prog 148 idxFC := by
  refine sound_fn Tryz.func148 (by kernel_rfl) rfl rfl ?_
  intro args objs r hr
  obtain ⟨l, hl, rfl, rfl, rfl⟩ := mkC_inv hr
  have hl : l.length ≤ 9223372036854775807 := hl
  refine ⟨rfl, by show 2 ≤ _; decide, fun E hN hns hF => ?_⟩
  refine vc_sound hΓ mixed _ _ _ ?_
  have hN := hN.trans nt_148
  simp only [runA, runB, runC, runD, runE, runF, fieldE, storeE, binE, ↓reduceIte, Nat.reduceLT, Nat.reduceLeDiff, Nat.reduceEqDiff, Nat.reduceAdd, Nat.reduceMul, Nat.reduceSub, reduceCtorEq, putAt, unE, Nat.reduceBEq, convE, buildE, List.replicate, Int.reduceLT, Int.reduceLE, Int.reduceToNat, mkE, mapSetE, hN, hF, ty_3, ty_9, ty_24, notIf, isEq, texts_length]
  refine AWP.loop (fun k st => ∃ i : Nat, (i ≤ l.length ∧ ∀ k, k < i → (l.getD k []).length = 8) ∧ k = l.length - i ∧ st = ⟨[(0, .c (.sl (texts l))), (1, .clo 98 []), (7, .c (.int .i64 (l.length : Int))), (8, .c (.int .i64 (i : Int)))], []⟩) ⟨l.length, _, ?w, 0, ⟨Nat.zero_le _, fun k hk => absurd hk (Nat.not_lt_zero k)⟩, rfl, rfl⟩ ?r
  case w =>
    rw [hns]
    simp only [runB, finC, finD, AS.get, AS.mem, false_implies, implies_true, ↓reduceIte, Nat.reduceEqDiff, Option.isSome_some, Option.isSome_none, forall_eq_or_imp, forall_eq, reduceCtorEq, Nat.reduceAdd, Nat.reduceMul, List.zip_cons_cons, List.zip_nil_left, List.zip_nil_right, List.forall_mem_nil]
    first | done | simp
  case r =>
    rintro k st ⟨i, ⟨hi, h8⟩, rfl, rfl⟩
    refine vc_sound hΓ mixed _ _ _ ?_
    by_cases hlt : i < l.length
    · have k1 : decide ((i : Int) < (l.length : Int)) = true := by simpa using hlt
      have e1 : IntKind.i64.wrap ((i : Int) + 1) = (i : Int) + 1 := wrapI (by omega)
      have hg := textsD l i hlt
      by_cases hp8 : (l.getD i []).length = 8
      · have k2 : (((l.getD i []).length : Int) != 8) = false := ne8f hp8
        have h8' : ∀ k, k < i + 1 → (l.getD k []).length = 8 := fun k hk => by
          by_cases e : k = i
          · rw [e]; exact hp8
          · exact h8 k (by omega)
        generalize l.getD i [] = q at hg k2
        simp only [runA, runB, runC, runD, runE, runF, fieldE, storeE, binE, ↓reduceIte, Nat.reduceLT, Nat.reduceLeDiff, Nat.reduceEqDiff, Nat.reduceAdd, Nat.reduceMul, Nat.reduceSub, reduceCtorEq, putAt, unE, Nat.reduceBEq, convE, buildE, List.replicate, Int.reduceLT, Int.reduceLE, Int.reduceToNat, mkE, mapSetE, hN, hF, ty_3, ty_9, ty_24, notIf, isEq, k1, k2, e1, hg, h1, oddC]
        refine ⟨l.length - (i + 1), _, by omega, ?_, i + 1, ⟨by omega, h8'⟩, rfl, rfl⟩
        rw [hns]
        simp only [runB, finC, finD, AS.get, AS.mem, false_implies, implies_true, ↓reduceIte, Nat.reduceEqDiff, Option.isSome_some, Option.isSome_none, forall_eq_or_imp, forall_eq, reduceCtorEq, Nat.reduceAdd, Nat.reduceMul, List.zip_cons_cons, List.zip_nil_left, List.zip_nil_right, List.forall_mem_nil]
        first | done | simp
      · have k2 : (((l.getD i []).length : Int) != 8) = true := ne8t hp8
        have hS := oddIdx_some hlt hp8 h8
        generalize l.getD i [] = q at hg k2
        simp only [runA, runB, runC, runD, runE, runF, fieldE, storeE, binE, ↓reduceIte, Nat.reduceLT, Nat.reduceLeDiff, Nat.reduceEqDiff, Nat.reduceAdd, Nat.reduceMul, Nat.reduceSub, reduceCtorEq, putAt, unE, Nat.reduceBEq, convE, buildE, List.replicate, Int.reduceLT, Int.reduceLE, Int.reduceToNat, mkE, mapSetE, hN, hF, ty_3, ty_9, ty_24, notIf, isEq, k1, k2, e1, hg, h1, oddC]
        simp only [runB, finC, finD, Option.isSome_some, Option.isSome_none, ↓reduceIte, Nat.reduceEqDiff, Nat.reduceAdd, Nat.reduceMul, forall_eq_or_imp, forall_eq, implies_true, Nat.reduceBEq, reduceCtorEq, false_implies, List.zip_cons_cons, List.zip_nil_left, List.zip_nil_right, Nat.reduceLeDiff, List.forall_mem_nil, rs_148, hS]
    · have k1 : decide ((i : Int) < (l.length : Int)) = false := by simpa using hlt
      obtain rfl : i = l.length := by omega
      have hS := oddIdx_none (all8_of h8)
      simp only [runA, runB, runC, runD, runE, runF, fieldE, storeE, binE, ↓reduceIte, Nat.reduceLT, Nat.reduceLeDiff, Nat.reduceEqDiff, Nat.reduceAdd, Nat.reduceMul, Nat.reduceSub, reduceCtorEq, putAt, unE, Nat.reduceBEq, convE, buildE, List.replicate, Int.reduceLT, Int.reduceLE, Int.reduceToNat, mkE, mapSetE, hN, hF, ty_3, ty_9, ty_24, notIf, isEq, k1]
      simp only [runB, finC, finD, Option.isSome_some, Option.isSome_none, ↓reduceIte, Nat.reduceEqDiff, Nat.reduceAdd, Nat.reduceMul, forall_eq_or_imp, forall_eq, implies_true, Nat.reduceBEq, reduceCtorEq, false_implies, List.zip_cons_cons, List.zip_nil_left, List.zip_nil_right, Nat.reduceLeDiff, List.forall_mem_nil, rs_148, hS]

noncomputable def conFC : Contract := mkC (α := List (List UInt8)) (fun l => l.length ≤ 9223372036854775807) (fun l => [.c (.sl (texts l)), .clo 98 []]) (fun _ => []) (fun l => ⟨[.pv (.c (.bool (!decide (all8 l))))], []⟩)
theorem conF_at (l : List (List UInt8)) (h : l.length ≤ 9223372036854775807) : conFC [.c (.sl (texts l)), .clo 98 []] [] = some ⟨[.pv (.c (.bool (!decide (all8 l))))], []⟩ :=
  mkC_at (α := List (List UInt8)) l h (by
    rintro y _ h _
    simp only [List.cons.injEq, AV.c.injEq, PC.sl.injEq, true_and, and_true] at h
    rw [texts_inj h])
set_option maxHeartbeats 1000000 in
theorem conF_sound (hΓ : SoundG Tryz.prog Γ) (h1 : Γ 148 = idxFC) : SoundC Tryz.prog 99 conFC := by
  refine sound_fn Tryz.func99 (by kernel_rfl) rfl rfl ?_
  intro args objs r hr
  obtain ⟨l, hl, rfl, rfl, rfl⟩ := mkC_inv hr
  refine ⟨rfl, by show 2 ≤ _; decide, fun E hN hns hF => ?_⟩
  refine vc_sound hΓ mixed _ _ _ ?_
  have hN := hN.trans nt_99
  have h2 := idxF_at l hl
  have h3 := oddIdx_ge l
  simp only [runA, runB, runC, runD, runE, runF, fieldE, storeE, binE, ↓reduceIte, Nat.reduceLT, Nat.reduceLeDiff, Nat.reduceEqDiff, Nat.reduceAdd, Nat.reduceMul, Nat.reduceSub, reduceCtorEq, putAt, unE, Nat.reduceBEq, convE, buildE, List.replicate, Int.reduceLT, Int.reduceLE, Int.reduceToNat, mkE, mapSetE, hN, hF, ty_3, ty_4, ty_9, ty_24, notIf, isEq, h1, h2, h3]
  simp only [runB, finC, finD, Option.isSome_some, Option.isSome_none, ↓reduceIte, Nat.reduceEqDiff, Nat.reduceAdd, Nat.reduceMul, forall_eq_or_imp, forall_eq, implies_true, Nat.reduceBEq, reduceCtorEq, false_implies, List.zip_cons_cons, List.zip_nil_left, List.zip_nil_right, Nat.reduceLeDiff, List.forall_mem_nil, rs_99]

theorem and_p16 (n : Nat) (h1 : 1 ≤ n) (h : n ≤ 16) : (IntKind.i64.wrap (((BitVec.ofInt IntKind.i64.bits (n : Int) &&& BitVec.ofInt IntKind.i64.bits ((n - 1 : Nat) : Int)).toNat : Nat) : Int) != 0) = !decide (okN16 n) := by
  have : n = 1 ∨ n = 2 ∨ n = 3 ∨ n = 4 ∨ n = 5 ∨ n = 6 ∨ n = 7 ∨ n = 8 ∨ n = 9 ∨ n = 10 ∨ n = 11 ∨ n = 12 ∨ n = 13 ∨ n = 14 ∨ n = 15 ∨ n = 16 := by omega
  rcases this with rfl | rfl | rfl | rfl | rfl | rfl | rfl | rfl | rfl | rfl | rfl | rfl | rfl | rfl | rfl | rfl <;> rfl

noncomputable def keyC : Contract := mkC (α := Ky) (fun k => k.leaves.length ≤ 9223372036854775807) (fun k => [k.av]) (fun _ => []) (fun k => ⟨[.pv (.c (.int .i64 (keyS k)))], []⟩)
theorem key_at (k : Ky) (h : k.leaves.length ≤ 9223372036854775807) : keyC [.agg [.c (.str k.seed), .c (.sl (texts k.leaves)), .c (.int .i64 k.next)]] [] = some ⟨[.pv (.c (.int .i64 (keyS k)))], []⟩ :=
  mkC_at (α := Ky) k h (by
    rintro y _ h _
    have h' : [y.av] = [k.av] := h
    have e : y = k := Ky.av_inj (by simpa using h')
    rw [e])

set_option maxRecDepth 100000 in
set_option maxHeartbeats 4000000 in
theorem key_sound (hΓ : SoundG Tryz.prog Γ) (h1 : Γ 99 = conFC) : SoundC Tryz.prog 49 keyC := by
  refine sound_fn Tryz.func49 (by kernel_rfl) rfl rfl ?_
  intro args objs r hr
  obtain ⟨⟨seed, leaves, next⟩, hl, rfl, rfl, rfl⟩ := mkC_inv hr
  have hl : leaves.length ≤ 9223372036854775807 := hl
  refine ⟨rfl, by show 1 ≤ _; decide, fun E hN hns hF => ?_⟩
  refine vc_sound hΓ mixed _ _ _ ?_
  have hN := hN.trans nt_49
  have hc := conF_at leaves hl
  have hB : ∀ b, keyS ⟨seed, leaves, next⟩ = b → True := fun _ _ => trivial
  unfold Ky.av
  by_cases hca : seed.length ≤ 64
  case neg =>
    have ga : decide ((seed.length : Int) > 64) = true := by simp; omega
    have hS : keyS ⟨seed, leaves, next⟩ = 9 := if_neg (by rintro ⟨a1, a2, a3, a4, a5⟩; exact hca a1)
    simp only [runA, runB, runC, runD, runE, runF, fieldE, storeE, binE, ↓reduceIte, Nat.reduceLT, Nat.reduceLeDiff, Nat.reduceEqDiff, Nat.reduceAdd, Nat.reduceMul, Nat.reduceSub, reduceCtorEq, putAt, unE, Nat.reduceBEq, convE, buildE, List.replicate, Int.reduceLT, Int.reduceLE, Int.reduceToNat, mkE, mapSetE, hN, hF, ty_3, ty_9, ty_24, ty_26, ty_37, notIf, isEq, texts_length, ga]
    simp only [runB, finC, finD, Option.isSome_some, Option.isSome_none, ↓reduceIte, Nat.reduceEqDiff, Nat.reduceAdd, Nat.reduceMul, forall_eq_or_imp, forall_eq, implies_true, Nat.reduceBEq, reduceCtorEq, false_implies, List.zip_cons_cons, List.zip_nil_left, List.zip_nil_right, Nat.reduceLeDiff, List.forall_mem_nil, rs_49, hS]
  have ga : decide ((seed.length : Int) > 64) = false := by simp; omega
  by_cases hcb : leaves.length = 0
  case pos =>
    have gb : ((leaves.length : Int) == 0) = true := by rw [hcb]; rfl
    have hS : keyS ⟨seed, leaves, next⟩ = 9 := if_neg (by rintro ⟨a1, a2, a3, a4, a5⟩; rw [show leaves.length = 0 from hcb] at a2; exact absurd a2 (by decide))
    simp only [runA, runB, runC, runD, runE, runF, fieldE, storeE, binE, ↓reduceIte, Nat.reduceLT, Nat.reduceLeDiff, Nat.reduceEqDiff, Nat.reduceAdd, Nat.reduceMul, Nat.reduceSub, reduceCtorEq, putAt, unE, Nat.reduceBEq, convE, buildE, List.replicate, Int.reduceLT, Int.reduceLE, Int.reduceToNat, mkE, mapSetE, hN, hF, ty_3, ty_9, ty_24, ty_26, ty_37, notIf, isEq, texts_length, ga, gb]
    simp only [runB, finC, finD, Option.isSome_some, Option.isSome_none, ↓reduceIte, Nat.reduceEqDiff, Nat.reduceAdd, Nat.reduceMul, forall_eq_or_imp, forall_eq, implies_true, Nat.reduceBEq, reduceCtorEq, false_implies, List.zip_cons_cons, List.zip_nil_left, List.zip_nil_right, Nat.reduceLeDiff, List.forall_mem_nil, rs_49, hS]
  have gb : ((leaves.length : Int) == 0) = false := by rw [beq_eq_false_iff_ne]; omega
  by_cases hcc : leaves.length ≤ 16
  case neg =>
    have gc : decide ((leaves.length : Int) > 16) = true := by simp; omega
    have hS : keyS ⟨seed, leaves, next⟩ = 9 := if_neg (by rintro ⟨a1, a2, a3, a4, a5⟩; exact hcc (by unfold okN16 at a2; dsimp only at a2; omega))
    simp only [runA, runB, runC, runD, runE, runF, fieldE, storeE, binE, ↓reduceIte, Nat.reduceLT, Nat.reduceLeDiff, Nat.reduceEqDiff, Nat.reduceAdd, Nat.reduceMul, Nat.reduceSub, reduceCtorEq, putAt, unE, Nat.reduceBEq, convE, buildE, List.replicate, Int.reduceLT, Int.reduceLE, Int.reduceToNat, mkE, mapSetE, hN, hF, ty_3, ty_9, ty_24, ty_26, ty_37, notIf, isEq, texts_length, ga, gb, gc]
    simp only [runB, finC, finD, Option.isSome_some, Option.isSome_none, ↓reduceIte, Nat.reduceEqDiff, Nat.reduceAdd, Nat.reduceMul, forall_eq_or_imp, forall_eq, implies_true, Nat.reduceBEq, reduceCtorEq, false_implies, List.zip_cons_cons, List.zip_nil_left, List.zip_nil_right, Nat.reduceLeDiff, List.forall_mem_nil, rs_49, hS]
  have gc : decide ((leaves.length : Int) > 16) = false := by simp; omega
  have ew : IntKind.i64.wrap ((leaves.length : Int) - 1) = ((leaves.length - 1 : Nat) : Int) := by rw [wrapI (by omega)]; omega
  have hap := and_p16 leaves.length (by omega) hcc
  by_cases hcd : okN16 leaves.length
  case neg =>
    rw [decide_eq_false hcd] at hap
    have gd : (!false) = true := rfl
    rw [gd] at hap
    have hS : keyS ⟨seed, leaves, next⟩ = 9 := if_neg (by rintro ⟨a1, a2, a3, a4, a5⟩; exact hcd a2)
    simp only [runA, runB, runC, runD, runE, runF, fieldE, storeE, binE, ↓reduceIte, Nat.reduceLT, Nat.reduceLeDiff, Nat.reduceEqDiff, Nat.reduceAdd, Nat.reduceMul, Nat.reduceSub, reduceCtorEq, putAt, unE, Nat.reduceBEq, convE, buildE, List.replicate, Int.reduceLT, Int.reduceLE, Int.reduceToNat, mkE, mapSetE, hN, hF, ty_3, ty_9, ty_24, ty_26, ty_37, notIf, isEq, texts_length, ga, gb, gc, ew, hap]
    simp only [runB, finC, finD, Option.isSome_some, Option.isSome_none, ↓reduceIte, Nat.reduceEqDiff, Nat.reduceAdd, Nat.reduceMul, forall_eq_or_imp, forall_eq, implies_true, Nat.reduceBEq, reduceCtorEq, false_implies, List.zip_cons_cons, List.zip_nil_left, List.zip_nil_right, Nat.reduceLeDiff, List.forall_mem_nil, rs_49, hS]
  rw [decide_eq_true hcd] at hap
  have gd : (!true) = false := rfl
  rw [gd] at hap
  by_cases hce : all8 leaves
  case neg =>
    rw [decide_eq_false hce] at hc
    have ge : (!false) = true := rfl
    rw [ge] at hc
    have hS : keyS ⟨seed, leaves, next⟩ = 9 := if_neg (by rintro ⟨a1, a2, a3, a4, a5⟩; exact hce a3)
    simp only [runA, runB, runC, runD, runE, runF, fieldE, storeE, binE, ↓reduceIte, Nat.reduceLT, Nat.reduceLeDiff, Nat.reduceEqDiff, Nat.reduceAdd, Nat.reduceMul, Nat.reduceSub, reduceCtorEq, putAt, unE, Nat.reduceBEq, convE, buildE, List.replicate, Int.reduceLT, Int.reduceLE, Int.reduceToNat, mkE, mapSetE, hN, hF, ty_3, ty_9, ty_24, ty_26, ty_37, notIf, isEq, texts_length, ga, gb, gc, ew, hap, h1, hc]
    simp only [runB, finC, finD, Option.isSome_some, Option.isSome_none, ↓reduceIte, Nat.reduceEqDiff, Nat.reduceAdd, Nat.reduceMul, forall_eq_or_imp, forall_eq, implies_true, Nat.reduceBEq, reduceCtorEq, false_implies, List.zip_cons_cons, List.zip_nil_left, List.zip_nil_right, Nat.reduceLeDiff, List.forall_mem_nil, rs_49, hS]
  rw [decide_eq_true hce] at hc
  have ge : (!true) = false := rfl
  rw [ge] at hc
  by_cases hcf : 0 ≤ next
  case neg =>
    have gf : decide (next < 0) = true := by simp; omega
    have hS : keyS ⟨seed, leaves, next⟩ = 9 := if_neg (by rintro ⟨a1, a2, a3, a4, a5⟩; exact hcf a4)
    simp only [runA, runB, runC, runD, runE, runF, fieldE, storeE, binE, ↓reduceIte, Nat.reduceLT, Nat.reduceLeDiff, Nat.reduceEqDiff, Nat.reduceAdd, Nat.reduceMul, Nat.reduceSub, reduceCtorEq, putAt, unE, Nat.reduceBEq, convE, buildE, List.replicate, Int.reduceLT, Int.reduceLE, Int.reduceToNat, mkE, mapSetE, hN, hF, ty_3, ty_9, ty_24, ty_26, ty_37, notIf, isEq, texts_length, ga, gb, gc, ew, hap, h1, hc, gf]
    simp only [runB, finC, finD, Option.isSome_some, Option.isSome_none, ↓reduceIte, Nat.reduceEqDiff, Nat.reduceAdd, Nat.reduceMul, forall_eq_or_imp, forall_eq, implies_true, Nat.reduceBEq, reduceCtorEq, false_implies, List.zip_cons_cons, List.zip_nil_left, List.zip_nil_right, Nat.reduceLeDiff, List.forall_mem_nil, rs_49, hS]
  have gf : decide (next < 0) = false := by simp; omega
  by_cases hcg : next ≤ (leaves.length : Int)
  case neg =>
    have gg : decide (next > (leaves.length : Int)) = true := by simp; omega
    have hS : keyS ⟨seed, leaves, next⟩ = 9 := if_neg (by rintro ⟨a1, a2, a3, a4, a5⟩; exact hcg a5)
    simp only [runA, runB, runC, runD, runE, runF, fieldE, storeE, binE, ↓reduceIte, Nat.reduceLT, Nat.reduceLeDiff, Nat.reduceEqDiff, Nat.reduceAdd, Nat.reduceMul, Nat.reduceSub, reduceCtorEq, putAt, unE, Nat.reduceBEq, convE, buildE, List.replicate, Int.reduceLT, Int.reduceLE, Int.reduceToNat, mkE, mapSetE, hN, hF, ty_3, ty_9, ty_24, ty_26, ty_37, notIf, isEq, texts_length, ga, gb, gc, ew, hap, h1, hc, gf, gg]
    simp only [runB, finC, finD, Option.isSome_some, Option.isSome_none, ↓reduceIte, Nat.reduceEqDiff, Nat.reduceAdd, Nat.reduceMul, forall_eq_or_imp, forall_eq, implies_true, Nat.reduceBEq, reduceCtorEq, false_implies, List.zip_cons_cons, List.zip_nil_left, List.zip_nil_right, Nat.reduceLeDiff, List.forall_mem_nil, rs_49, hS]
  have gg : decide (next > (leaves.length : Int)) = false := by simp; omega
  have hS : keyS ⟨seed, leaves, next⟩ = 0 := if_pos ⟨hca, hcd, hce, hcf, hcg⟩
  simp only [runA, runB, runC, runD, runE, runF, fieldE, storeE, binE, ↓reduceIte, Nat.reduceLT, Nat.reduceLeDiff, Nat.reduceEqDiff, Nat.reduceAdd, Nat.reduceMul, Nat.reduceSub, reduceCtorEq, putAt, unE, Nat.reduceBEq, convE, buildE, List.replicate, Int.reduceLT, Int.reduceLE, Int.reduceToNat, mkE, mapSetE, hN, hF, ty_3, ty_9, ty_24, ty_26, ty_37, notIf, isEq, texts_length, ga, gb, gc, ew, hap, h1, hc, gf, gg]
  simp only [runB, finC, finD, Option.isSome_some, Option.isSome_none, ↓reduceIte, Nat.reduceEqDiff, Nat.reduceAdd, Nat.reduceMul, forall_eq_or_imp, forall_eq, implies_true, Nat.reduceBEq, reduceCtorEq, false_implies, List.zip_cons_cons, List.zip_nil_left, List.zip_nil_right, Nat.reduceLeDiff, List.forall_mem_nil, rs_49, hS]


variable {Γ : FuncId → Contract}

noncomputable def rootK (k : Ky) : List UInt8 × Int := if goodK k then (rootS k.leaves, 0) else ([], 9)
noncomputable def rootKC : Contract := mkC (α := Ky) (fun k => k.leaves.length ≤ 9223372036854775807) (fun k => [k.av]) (fun _ => []) (fun k => ⟨[.pv (.c (.str (rootK k).1)), .pv (.c (.int .i64 (rootK k).2))], []⟩)
theorem rootK_at (k : Ky) (h : k.leaves.length ≤ 9223372036854775807) : rootKC [.agg [.c (.str k.seed), .c (.sl (texts k.leaves)), .c (.int .i64 k.next)]] [] = some ⟨[.pv (.c (.str (rootK k).1)), .pv (.c (.int .i64 (rootK k).2))], []⟩ :=
  mkC_at (α := Ky) k h (by
    rintro y _ h _
    have h' : [y.av] = [k.av] := h
    have e : y = k := Ky.av_inj (by simpa using h')
    rw [e])
set_option maxRecDepth 100000 in
set_option maxHeartbeats 1000000 in
theorem rootK_sound (hΓ : SoundG Tryz.prog Γ) (h1 : Γ 49 = keyC) (h2 : Γ 50 = rootC) : SoundC Tryz.prog 12 rootKC := by
  refine sound_fn Tryz.func12 (by kernel_rfl) rfl rfl ?_
  intro args objs r hr
  obtain ⟨⟨seed, leaves, next⟩, hl, rfl, rfl, rfl⟩ := mkC_inv hr
  have hl : leaves.length ≤ 9223372036854775807 := hl
  refine ⟨rfl, by show 1 ≤ _; decide, fun E hN hns hF => ?_⟩
  refine vc_sound hΓ mixed _ _ _ ?_
  have hN := hN.trans nt_12
  have q1 := key_at ⟨seed, leaves, next⟩ hl
  unfold Ky.av
  dsimp only at q1 ⊢
  by_cases hg : goodK ⟨seed, leaves, next⟩
  · have hK : keyS ⟨seed, leaves, next⟩ = 0 := if_pos hg
    have hS : rootK ⟨seed, leaves, next⟩ = (rootS leaves, 0) := if_pos hg
    rw [hK] at q1
    rw [hS]
    have q2 := root_at leaves hg.okl
    have b0 : ((0 : Int) != 0) = false := rfl
    simp only [runA, runB, runC, runD, runE, runF, fieldE, storeE, binE, ↓reduceIte, Nat.reduceLT, Nat.reduceLeDiff, Nat.reduceEqDiff, Nat.reduceAdd, Nat.reduceMul, Nat.reduceSub, reduceCtorEq, putAt, unE, Nat.reduceBEq, convE, buildE, List.replicate, Int.reduceLT, Int.reduceLE, Int.reduceToNat, mkE, mapSetE, hN, hF, ty_3, ty_9, ty_24, ty_26, ty_37, notIf, isEq, h1, h2, q1, q2, b0]
    simp only [runB, finC, finD, Option.isSome_some, Option.isSome_none, ↓reduceIte, Nat.reduceEqDiff, Nat.reduceAdd, Nat.reduceMul, forall_eq_or_imp, forall_eq, implies_true, Nat.reduceBEq, reduceCtorEq, false_implies, List.zip_cons_cons, List.zip_nil_left, List.zip_nil_right, Nat.reduceLeDiff, List.forall_mem_nil, rs_12]
  · have hK : keyS ⟨seed, leaves, next⟩ = 9 := if_neg hg
    have hS : rootK ⟨seed, leaves, next⟩ = ([], 9) := if_neg hg
    rw [hK] at q1
    rw [hS]
    have b0 : ((9 : Int) != 0) = true := rfl
    simp only [runA, runB, runC, runD, runE, runF, fieldE, storeE, binE, ↓reduceIte, Nat.reduceLT, Nat.reduceLeDiff, Nat.reduceEqDiff, Nat.reduceAdd, Nat.reduceMul, Nat.reduceSub, reduceCtorEq, putAt, unE, Nat.reduceBEq, convE, buildE, List.replicate, Int.reduceLT, Int.reduceLE, Int.reduceToNat, mkE, mapSetE, hN, hF, ty_3, ty_9, ty_24, ty_26, ty_37, notIf, isEq, h1, q1, b0]
    simp only [runB, finC, finD, Option.isSome_some, Option.isSome_none, ↓reduceIte, Nat.reduceEqDiff, Nat.reduceAdd, Nat.reduceMul, forall_eq_or_imp, forall_eq, implies_true, Nat.reduceBEq, reduceCtorEq, false_implies, List.zip_cons_cons, List.zip_nil_left, List.zip_nil_right, Nat.reduceLeDiff, List.forall_mem_nil, rs_12]

def sizeS (h : Int) : Int := if h < 0 ∨ 4 < h then 0 else 90 + 8 * h
noncomputable def sizeGC : Contract := mkC (α := Int) (fun _ => True) (fun h => [.c (.int .i64 h)]) (fun _ => []) (fun h => ⟨[.pv (.c (.int .i64 (sizeS h)))], []⟩)
theorem sizeG_at (n : Int) : sizeGC [.c (.int .i64 n)] [] = some ⟨[.pv (.c (.int .i64 (sizeS n)))], []⟩ :=
  mkC_at (α := Int) n trivial (by
    rintro m _ h _
    simp only [List.cons.injEq, AV.c.injEq, PC.int.injEq, true_and, and_true] at h
    rw [h])
set_option maxHeartbeats 1000000 in
theorem sizeG_sound : SoundC Tryz.prog 164 sizeGC := by
  refine sound_fn Tryz.func164 (by kernel_rfl) rfl rfl ?_
  intro args objs r hr
  obtain ⟨n, _, rfl, rfl, rfl⟩ := mkC_inv hr
  refine ⟨rfl, by show 1 ≤ _; decide, fun E hN hns hF => ?_⟩
  refine vc_sound none0_sound mixed _ _ _ ?_
  have hN := hN.trans nt_164
  by_cases c1 : n < 0
  · have g1 : decide (n < 0) = true := by simpa using c1
    have hS : sizeS n = 0 := if_pos (.inl c1)
    simp only [runA, runB, runC, runD, runE, runF, fieldE, storeE, binE, ↓reduceIte, Nat.reduceLT, Nat.reduceLeDiff, Nat.reduceEqDiff, Nat.reduceAdd, Nat.reduceMul, Nat.reduceSub, reduceCtorEq, putAt, unE, Nat.reduceBEq, convE, buildE, List.replicate, Int.reduceLT, Int.reduceLE, Int.reduceToNat, mkE, mapSetE, hN, hF, ty_3, notIf, isEq, g1]
    simp only [runB, finC, finD, Option.isSome_some, Option.isSome_none, ↓reduceIte, Nat.reduceEqDiff, Nat.reduceAdd, Nat.reduceMul, forall_eq_or_imp, forall_eq, implies_true, Nat.reduceBEq, reduceCtorEq, false_implies, List.zip_cons_cons, List.zip_nil_left, List.zip_nil_right, Nat.reduceLeDiff, List.forall_mem_nil, rs_164, hS]
  have g1 : decide (n < 0) = false := by simpa using c1
  by_cases c2 : 4 < n
  · have g2 : decide (n > 4) = true := by simpa using c2
    have hS : sizeS n = 0 := if_pos (.inr c2)
    simp only [runA, runB, runC, runD, runE, runF, fieldE, storeE, binE, ↓reduceIte, Nat.reduceLT, Nat.reduceLeDiff, Nat.reduceEqDiff, Nat.reduceAdd, Nat.reduceMul, Nat.reduceSub, reduceCtorEq, putAt, unE, Nat.reduceBEq, convE, buildE, List.replicate, Int.reduceLT, Int.reduceLE, Int.reduceToNat, mkE, mapSetE, hN, hF, ty_3, notIf, isEq, g1, g2]
    simp only [runB, finC, finD, Option.isSome_some, Option.isSome_none, ↓reduceIte, Nat.reduceEqDiff, Nat.reduceAdd, Nat.reduceMul, forall_eq_or_imp, forall_eq, implies_true, Nat.reduceBEq, reduceCtorEq, false_implies, List.zip_cons_cons, List.zip_nil_left, List.zip_nil_right, Nat.reduceLeDiff, List.forall_mem_nil, rs_164, hS]
  have g2 : decide (n > 4) = false := by simpa using c2
  have hS : sizeS n = 90 + 8 * n := if_neg (by omega)
  have e1 : IntKind.i64.wrap (11 + n) = 11 + n := wrapI (by omega)
  have e2 : IntKind.i64.wrap (8 * (11 + n)) = 8 * (11 + n) := wrapI (by omega)
  have e3 : IntKind.i64.wrap (2 + 8 * (11 + n)) = 90 + 8 * n := by rw [wrapI (by omega)]; omega
  simp only [runA, runB, runC, runD, runE, runF, fieldE, storeE, binE, ↓reduceIte, Nat.reduceLT, Nat.reduceLeDiff, Nat.reduceEqDiff, Nat.reduceAdd, Nat.reduceMul, Nat.reduceSub, reduceCtorEq, putAt, unE, Nat.reduceBEq, convE, buildE, List.replicate, Int.reduceLT, Int.reduceLE, Int.reduceToNat, mkE, mapSetE, hN, hF, ty_3, notIf, isEq, g1, g2, e1, e2, e3]
  simp only [runB, finC, finD, Option.isSome_some, Option.isSome_none, ↓reduceIte, Nat.reduceEqDiff, Nat.reduceAdd, Nat.reduceMul, forall_eq_or_imp, forall_eq, implies_true, Nat.reduceBEq, reduceCtorEq, false_implies, List.zip_cons_cons, List.zip_nil_left, List.zip_nil_right, Nat.reduceLeDiff, List.forall_mem_nil, rs_164, hS]


variable {Γ : FuncId → Contract}


variable {Γ : FuncId → Contract}

theorem upS_all8 : ∀ (l : List (List UInt8)), all8 l → all8 (upS l)
  | [], h => by rw [upS_nil]; exact h
  | [x], h => by rw [upS_one]; exact h
  | a :: b :: l, h => by
    intro s hs
    rw [upS] at hs
    rcases List.mem_cons.1 hs with rfl | hs
    · exact shortS_length _
    · exact upS_all8 l (fun x hx => h x (by simp [hx])) s hs
theorem pathP_facts : ∀ (n : Nat) (l : List (List UInt8)) (a : Nat), l.length ≤ n → a < l.length → powN l.length = true → all8 l → all8 (pathP l a) ∧ (pathP l a).length = l.length.log2
  | 0, l, a, hn, ha, _, _ => by omega
  | n + 1, l, a, hn, ha, hp, h8 => by
    by_cases h1 : l.length ≤ 1
    · rw [pathP_le h1]
      have : l.length = 1 := by omega
      rw [this]
      exact ⟨fun p hp => (List.not_mem_nil hp).elim, by decide⟩
    · rw [pathP_gt h1]
      obtain ⟨hp1, hp2⟩ := powN_half hp (by omega)
      have hl := upS_length l
      have hu : (upS l).length = l.length / 2 := by omega
      obtain ⟨i1, i2⟩ := pathP_facts n (upS l) (a / 2) (by omega) (by omega) (by rw [hu]; exact hp2) (upS_all8 l h8)
      have hnb : nb a < l.length := by unfold nb; split <;> omega
      refine ⟨fun p hp => ?_, ?_⟩
      · rcases List.mem_cons.1 hp with rfl | hp
        · refine h8 _ ?_
          rw [List.getD, List.getElem?_eq_getElem hnb]
          exact List.getElem_mem _
        · exact i1 p hp
      · rw [List.length_cons, i2, hu, Nat.log2_def l.length, if_pos (by omega)]
theorem okN16_pow {n : Nat} (h : okN16 n) : powN n = true := by
  rcases h with rfl | rfl | rfl | rfl | rfl <;> rfl
theorem okN16_log {n : Nat} (h : okN16 n) : n.log2 ≤ 4 ∧ 2 ^ n.log2 = n := by
  rcases h with rfl | rfl | rfl | rfl | rfl <;> decide
theorem sgnT_all8 (seed : List UInt8) (leaf : Int) (text : List UInt8) (n : Nat) : all8 (sgnT seed leaf text n) := by
  intro p hp
  simp only [sgnT, List.mem_map] at hp
  obtain ⟨i, _, rfl⟩ := hp
  exact chain8 _ _ (secS_length _ _ _)
theorem all8_flat : ∀ (l : List (List UInt8)), all8 l → l.flatten.length = 8 * l.length
  | [], _ => rfl
  | x :: l, h => by
    rw [List.flatten_cons, List.length_append, List.length_cons, h x (by simp), all8_flat l fun p hp => h p (by simp [hp])]
    omega
theorem all8_app {a b : List (List UInt8)} (ha : all8 a) (hb : all8 b) : all8 (a ++ b) := fun p hp => by
  rcases List.mem_append.1 hp with h | h
  · exact ha p h
  · exact hb p h
theorem all8_take {l : List (List UInt8)} (h : all8 l) (n : Nat) : all8 (l.take n) := fun p hp => h p (List.mem_of_mem_take hp)
theorem all8_getD {l : List (List UInt8)} (h : all8 l) {i : Nat} (hi : i < l.length) : (l.getD i []).length = 8 := by
  refine h _ ?_
  rw [List.getD, List.getElem?_eq_getElem hi]
  exact List.getElem_mem _
theorem flatD_take (l : List (List UInt8)) (i : Nat) (h : i < l.length) : (l.take i).flatten ++ l.getD i [] = (l.take (i + 1)).flatten := by
  rw [List.take_add_one, List.flatten_append, List.getD, List.getElem?_eq_getElem h]
  simp

/-- The next key's parts, and the path. -/
noncomputable def sigL (k : Ky) (text : List UInt8) : List (List UInt8) := sgnS k.seed k.next text ++ (pathS k.leaves k.next).1
noncomputable def sigB (k : Ky) (text : List UInt8) : List UInt8 := putB k.next 2 ++ (sigL k text).flatten
def Ky.step (k : Ky) : Ky := ⟨k.seed, k.leaves, k.next + 1⟩
def zeroK : Ky := ⟨[], [], 0⟩
noncomputable def signS (k : Ky) (text : List UInt8) : List UInt8 × Ky × Int :=
  if goodK k then (if k.next = (k.leaves.length : Int) then ([], zeroK, 17) else (sigB k text, k.step, 0)) else ([], zeroK, 9)
theorem path_good {k : Ky} (h : goodK k) (hn : k.next ≠ (k.leaves.length : Int)) : pathS k.leaves k.next = (pathP k.leaves k.next.toNat, 0) ∧ all8 (pathS k.leaves k.next).1 ∧ (pathS k.leaves k.next).1.length = k.leaves.length.log2 := by
  obtain ⟨_, h2, h3, h4, h5⟩ := h
  have e : pathS k.leaves k.next = (pathP k.leaves k.next.toNat, 0) := by
    unfold pathS
    rw [if_neg (by omega), if_pos (okN16_pow h2)]
  rw [e]
  obtain ⟨p1, p2⟩ := pathP_facts _ k.leaves k.next.toNat (Nat.le_refl _) (by omega) (okN16_pow h2) h3
  exact ⟨rfl, p1, p2⟩

noncomputable def cloneTC : Contract := mkC (α := List (List UInt8)) (fun l => l ≠ [] ∧ l.length ≤ 1000000) (fun l => [.c (.sl (texts l))]) (fun _ => []) (fun l => ⟨[.fresh 1 (texts l)], []⟩)
theorem cloneT_at (l : List (List UInt8)) (h1 : l ≠ []) (h2 : l.length ≤ 1000000) : cloneTC [.c (.sl (texts l))] [] = some ⟨[.fresh 1 (texts l)], []⟩ :=
  mkC_at (α := List (List UInt8)) l ⟨h1, h2⟩ (by
    rintro y _ h _
    simp only [List.cons.injEq, AV.c.injEq, PC.sl.injEq, and_true] at h
    rw [h])
set_option maxHeartbeats 1000000 in
theorem cloneT_sound : SoundC Tryz.prog 97 cloneTC := by
  refine sound_fn Tryz.func97 (by kernel_rfl) rfl rfl ?_
  intro args objs r hr
  obtain ⟨l, ⟨h1, h2⟩, rfl, rfl, rfl⟩ := mkC_inv hr
  refine ⟨rfl, by show 1 ≤ _; decide, fun E hN hns hF => ?_⟩
  refine vc_sound none0_sound mixed _ _ _ ?_
  have hN := hN.trans nt_97
  have hz := rowsOK_texts l
  have hL : (0 + l.length) * 16 ≤ 140737488355328 := by omega
  have hL2 : l.length * 16 ≤ 140737488355328 := by omega
  cases l with
  | nil => exact absurd rfl h1
  | cons x l =>
    have hx : texts (x :: l) = [.str x] :: texts l := rfl
    have hxl : (texts l).length = l.length := texts_length l
    rw [List.length_cons] at hL hL2
    rw [hx] at hz ⊢
    simp only [runA, runB, runC, runD, runE, runF, fieldE, storeE, binE, ↓reduceIte, Nat.reduceLT, Nat.reduceLeDiff, Nat.reduceEqDiff, Nat.reduceAdd, Nat.reduceMul, Nat.reduceSub, reduceCtorEq, putAt, unE, Nat.reduceBEq, convE, buildE, List.replicate, Int.reduceLT, Int.reduceLE, Int.reduceToNat, mkE, mapSetE, hN, hF, ty_9, ty_24, notIf, isEq, hz, hL, hL2, hxl]
    simp only [runB, finC, finD, Option.isSome_some, Option.isSome_none, ↓reduceIte, Nat.reduceEqDiff, Nat.reduceAdd, Nat.reduceMul, forall_eq_or_imp, forall_eq, implies_true, Nat.reduceBEq, reduceCtorEq, false_implies, List.zip_cons_cons, List.zip_nil_left, List.zip_nil_right, Nat.reduceLeDiff, List.forall_mem_nil, rs_97, hxl]

structure Sk where
  k : Ky
  text : List UInt8
def skOK (p : Sk) : Prop := p.k.leaves.length ≤ 9223372036854775807 ∧ p.text.length ≤ 1099511627776
noncomputable def signC : Contract := mkC (α := Sk) skOK (fun p => [p.k.av, .c (.sl (bytes p.text))]) (fun _ => []) (fun p => ⟨[.pv (.c (.str (signS p.k p.text).1)), .pv (signS p.k p.text).2.1.av, .pv (.c (.int .i64 (signS p.k p.text).2.2))], []⟩)
theorem sign_at (k : Ky) (text : List UInt8) (h1 : k.leaves.length ≤ 9223372036854775807) (h2 : text.length ≤ 1099511627776) :
    signC [.agg [.c (.str k.seed), .c (.sl (texts k.leaves)), .c (.int .i64 k.next)], .c (.sl (bytes text))] [] = some ⟨[.pv (.c (.str (signS k text).1)), .pv (signS k text).2.1.av, .pv (.c (.int .i64 (signS k text).2.2))], []⟩ :=
  mkC_at (α := Sk) ⟨k, text⟩ ⟨h1, h2⟩ (by
    rintro ⟨k', t'⟩ _ h _
    simp only [List.cons.injEq, AV.c.injEq, PC.sl.injEq, and_true] at h
    have e : k' = k := Ky.av_inj (show k'.av = k.av from h.1)
    have e2 := bytes_inj h.2
    rw [e, e2])

set_option maxRecDepth 100000 in
set_option maxHeartbeats 4000000 in
theorem sign_sound (hΓ : SoundG Tryz.prog Γ) (h1 : Γ 49 = keyC) (h2 : Γ 94 = pathC) (h3 : Γ 95 = putC) (h4 : Γ 96 = sgnC) (h5 : Γ 97 = cloneTC) : SoundC Tryz.prog 46 signC := by
  refine sound_fn Tryz.func46 (by kernel_rfl) rfl rfl ?_
  intro args objs r hr
  obtain ⟨⟨⟨seed, leaves, next⟩, text⟩, ⟨hl1, hl2⟩, rfl, rfl, rfl⟩ := mkC_inv hr
  have hl1 : leaves.length ≤ 9223372036854775807 := hl1
  have hl2 : text.length ≤ 1099511627776 := hl2
  refine ⟨rfl, by show 2 ≤ _; decide, fun E hN hns hF => ?_⟩
  refine vc_sound hΓ mixed _ _ _ ?_
  have hN := hN.trans nt_46
  have q1 := key_at ⟨seed, leaves, next⟩ hl1
  unfold Ky.av
  dsimp only at q1 ⊢
  by_cases hg : goodK ⟨seed, leaves, next⟩
  case neg =>
    have hK : keyS ⟨seed, leaves, next⟩ = 9 := if_neg hg
    have hS : signS ⟨seed, leaves, next⟩ text = ([], zeroK, 9) := if_neg hg
    rw [hK] at q1
    rw [hS]
    have b0 : ((9 : Int) != 0) = true := rfl
    simp only [runA, runB, runC, runD, runE, runF, fieldE, storeE, binE, ↓reduceIte, Nat.reduceLT, Nat.reduceLeDiff, Nat.reduceEqDiff, Nat.reduceAdd, Nat.reduceMul, Nat.reduceSub, reduceCtorEq, putAt, unE, Nat.reduceBEq, convE, buildE, List.replicate, Int.reduceLT, Int.reduceLE, Int.reduceToNat, mkE, mapSetE, hN, hF, ty_3, ty_5, ty_9, ty_24, ty_26, ty_37, ty_47, notIf, isEq, h1, q1, b0]
    simp only [runB, finC, finD, Option.isSome_some, Option.isSome_none, ↓reduceIte, Nat.reduceEqDiff, Nat.reduceAdd, Nat.reduceMul, forall_eq_or_imp, forall_eq, implies_true, Nat.reduceBEq, reduceCtorEq, false_implies, List.zip_cons_cons, List.zip_nil_left, List.zip_nil_right, Nat.reduceLeDiff, List.forall_mem_nil, rs_46, agg_26, sz_26, zeroK, texts, List.map_nil]
  have hK : keyS ⟨seed, leaves, next⟩ = 0 := if_pos hg
  rw [hK] at q1
  have b0 : ((0 : Int) != 0) = false := rfl
  by_cases hn : next = (leaves.length : Int)
  case pos =>
    have hS : signS ⟨seed, leaves, next⟩ text = ([], zeroK, 17) := by unfold signS; rw [if_pos hg, if_pos hn]
    rw [hS]
    have g1 : (next == (leaves.length : Int)) = true := by simpa using hn
    simp only [runA, runB, runC, runD, runE, runF, fieldE, storeE, binE, ↓reduceIte, Nat.reduceLT, Nat.reduceLeDiff, Nat.reduceEqDiff, Nat.reduceAdd, Nat.reduceMul, Nat.reduceSub, reduceCtorEq, putAt, unE, Nat.reduceBEq, convE, buildE, List.replicate, Int.reduceLT, Int.reduceLE, Int.reduceToNat, mkE, mapSetE, hN, hF, ty_3, ty_5, ty_9, ty_24, ty_26, ty_37, ty_47, notIf, isEq, texts_length, h1, q1, b0, g1]
    simp only [runB, finC, finD, Option.isSome_some, Option.isSome_none, ↓reduceIte, Nat.reduceEqDiff, Nat.reduceAdd, Nat.reduceMul, forall_eq_or_imp, forall_eq, implies_true, Nat.reduceBEq, reduceCtorEq, false_implies, List.zip_cons_cons, List.zip_nil_left, List.zip_nil_right, Nat.reduceLeDiff, List.forall_mem_nil, rs_46, agg_26, sz_26, zeroK, texts, List.map_nil]
  have g1 : (next == (leaves.length : Int)) = false := by simpa using hn
  have hS : signS ⟨seed, leaves, next⟩ text = (sigB ⟨seed, leaves, next⟩ text, ⟨seed, leaves, next + 1⟩, 0) := by unfold signS; rw [if_pos hg, if_neg hn]; rfl
  rw [hS]
  obtain ⟨_, p8, pl⟩ := path_good hg hn
  have hg0 := hg
  obtain ⟨a1, a2, a3, a4, a5⟩ := hg
  dsimp only at a1 a2 a3 a4 a5 p8 pl
  have q2 := path_at leaves next hg0.okl
  have q3 := sgn_at seed next text (by omega) hl2
  have hlg := (okN16_log a2).1
  have hle : leaves.length ≤ 16 := by unfold okN16 at a2; omega
  have hne : leaves ≠ [] := fun e => by rw [e] at a2; exact absurd a2 (by decide)
  have q4 := cloneT_at leaves hne (by omega)
  have hsl : (texts (sgnS seed next text)).length = 11 := by rw [texts_length]; exact sgnT_length _ _ _ _
  have hL8 : all8 (sigL ⟨seed, leaves, next⟩ text) := all8_app (sgnT_all8 _ _ _ _) p8
  have hLl : (sigL ⟨seed, leaves, next⟩ text).length = 11 + leaves.length.log2 := by
    show (sgnS seed next text ++ (pathS leaves next).1).length = _
    rw [List.length_append, pl, show (sgnS seed next text).length = 11 from sgnT_length _ _ _ _]
  have hap : texts (sgnS seed next text) ++ texts (pathS leaves next).1 = texts (sigL ⟨seed, leaves, next⟩ text) := texts_app _ _
  have hsb : sigB ⟨seed, leaves, next⟩ text = putB next 2 ++ (sigL ⟨seed, leaves, next⟩ text).flatten := rfl
  have hpl : (texts (pathS leaves next).1).length = leaves.length.log2 := by rw [texts_length, pl]
  rw [hsb]
  generalize sigL ⟨seed, leaves, next⟩ text = L at hL8 hLl hap ⊢
  generalize (pathS leaves next).1 = pth at q2 hap hpl
  generalize (pathS leaves next).2 = pe at q2
  generalize leaves.length.log2 = h at hLl hpl hlg
  have hz := rowsOK_texts
  have hc1 : ((11 + h) * 16 ≤ 140737488355328) = True := eq_true (by omega)
  have e9 : IntKind.i64.wrap (next + 1) = next + 1 := wrapI (by omega)
  have hpb := putB2 next
  have q5 : putC [.c (.int .i64 next), .c (.int .i64 2)] [] = some ⟨[.fresh 1 (bytes (putB next 2))], []⟩ := by simp [putC]
  generalize putB next 2 = pb at hpb q5 ⊢
  simp only [runA, runB, runC, runD, runE, runF, fieldE, storeE, binE, ↓reduceIte, Nat.reduceLT, Nat.reduceLeDiff, Nat.reduceEqDiff, Nat.reduceAdd, Nat.reduceMul, Nat.reduceSub, reduceCtorEq, putAt, unE, Nat.reduceBEq, convE, buildE, List.replicate, Int.reduceLT, Int.reduceLE, Int.reduceToNat, mkE, mapSetE, hN, hF, ty_3, ty_5, ty_9, ty_24, ty_26, ty_37, ty_47, notIf, isEq, texts_length, h1, q1, b0, g1, h2, q2, h3, q5, h4, q3, hsl, hz, hpl, hc1, hap, bytes_length, hpb]
  refine AWP.loop (fun k st => ∃ i : Nat, i ≤ 11 + h ∧ k = 11 + h - i ∧ st = ⟨[(2, .ptr 128 0), (5, .ptr 320 0), (10, .own 2434 1 (bytes (pb ++ (L.take i).flatten))), (46, .own 2818 1 (texts L)), (47, .c (.int .i64 ((11 + h : Nat) : Int))), (48, .c (.int .i64 (i : Int)))],
    [(128, .obj [.c (.str seed), .c (.sl (texts leaves)), .c (.int .i64 next)] false), (320, .obj [.c (.str []), .nilsl, .c (.int .i64 0)] false), (2434, .row 1 (2 + 8 * i)), (2818, .row 1 (11 + h))]⟩) ⟨11 + h, _, ?w, 0, Nat.zero_le _, rfl, rfl⟩ ?r
  case w =>
    rw [hns]
    simp only [runB, finC, finD, AS.get, AS.mem, false_implies, implies_true, ↓reduceIte, Nat.reduceEqDiff, Option.isSome_some, Option.isSome_none, forall_eq_or_imp, forall_eq, reduceCtorEq, Nat.reduceAdd, Nat.reduceMul, List.zip_cons_cons, List.zip_nil_left, List.zip_nil_right, List.forall_mem_nil]
    first | exact ⟨by simp, by rw [hLl], rfl⟩ | simp [hLl]
  case r =>
    rintro k st ⟨i, hi, rfl, rfl⟩
    refine vc_sound hΓ mixed _ _ _ ?_
    by_cases hlt : i < 11 + h
    · have k1 : decide ((i : Int) < ((11 + h : Nat) : Int)) = true := by simp; omega
      have e1 : IntKind.i64.wrap ((i : Int) + 1) = (i : Int) + 1 := wrapI (by omega)
      have hgx := textsD L i (by omega)
      have h8 := all8_getD hL8 (i := i) (by omega)
      have hft := flatD_take L i (by omega)
      have hfl : (pb ++ (L.take i).flatten).length = 2 + 8 * i := by rw [List.length_append, hpb, all8_flat _ (all8_take hL8 i), List.length_take]; omega
      have hap2 : (pb ++ (L.take i).flatten) ++ L.getD i [] = pb ++ (L.take (i + 1)).flatten := by rw [List.append_assoc, hft]
      generalize L.getD i [] = s at hgx h8 hap2
      have hzb := rowsOK_bytes
      have hc2 : (2 + 8 * i + 8 ≤ 140737488355328) = True := eq_true (by omega)
      generalize pb ++ (L.take i).flatten = bi at hfl hap2 ⊢
      simp only [runA, runB, runC, runD, runE, runF, fieldE, storeE, binE, ↓reduceIte, Nat.reduceLT, Nat.reduceLeDiff, Nat.reduceEqDiff, Nat.reduceAdd, Nat.reduceMul, Nat.reduceSub, reduceCtorEq, putAt, unE, Nat.reduceBEq, convE, buildE, List.replicate, Int.reduceLT, Int.reduceLE, Int.reduceToNat, mkE, mapSetE, hN, hF, ty_3, ty_5, ty_9, ty_24, ty_26, ty_37, ty_47, notIf, isEq, k1, e1, hgx, h8, hzb, hc2, hfl, bytes_length, bytes_app, hap2]
      refine ⟨11 + h - (i + 1), _, by omega, ?_, i + 1, by omega, rfl, rfl⟩
      rw [hns]
      simp only [runB, finC, finD, AS.get, AS.mem, false_implies, implies_true, ↓reduceIte, Nat.reduceEqDiff, Option.isSome_some, Option.isSome_none, forall_eq_or_imp, forall_eq, reduceCtorEq, Nat.reduceAdd, Nat.reduceMul, List.zip_cons_cons, List.zip_nil_left, List.zip_nil_right, List.forall_mem_nil]
      first | done | (simp; omega)
    · have k1 : decide ((i : Int) < ((11 + h : Nat) : Int)) = false := by simp; omega
      obtain rfl : i = 11 + h := by omega
      have htk : L.take (11 + h) = L := List.take_of_length_le (by omega)
      rw [htk]
      have hfl : (pb ++ L.flatten).length = 2 + 8 * (11 + h) := by rw [List.length_append, hpb, all8_flat _ hL8, hLl]
      generalize pb ++ L.flatten = bi at hfl ⊢
      simp only [runA, runB, runC, runD, runE, runF, fieldE, storeE, binE, ↓reduceIte, Nat.reduceLT, Nat.reduceLeDiff, Nat.reduceEqDiff, Nat.reduceAdd, Nat.reduceMul, Nat.reduceSub, reduceCtorEq, putAt, unE, Nat.reduceBEq, convE, buildE, List.replicate, Int.reduceLT, Int.reduceLE, Int.reduceToNat, mkE, mapSetE, hN, hF, ty_3, ty_5, ty_9, ty_24, ty_26, ty_37, ty_47, notIf, isEq, k1, h5, q4, e9, bytesOf_bytes]
      refine drawnP_intro (by kernel_rfl) (by kernel_rfl) ?_
      simp only [runA, runB, runC, runD, runE, runF, fieldE, storeE, binE, ↓reduceIte, Nat.reduceLT, Nat.reduceLeDiff, Nat.reduceEqDiff, Nat.reduceAdd, Nat.reduceMul, Nat.reduceSub, reduceCtorEq, putAt, unE, Nat.reduceBEq, convE, buildE, List.replicate, Int.reduceLT, Int.reduceLE, Int.reduceToNat, mkE, mapSetE, hN, hF, ty_3, ty_5, ty_9, ty_24, ty_26, ty_37, ty_47, notIf, isEq, bytesOf_bytes]
      simp only [runB, finC, finD, Option.isSome_some, Option.isSome_none, ↓reduceIte, Nat.reduceEqDiff, Nat.reduceAdd, Nat.reduceMul, forall_eq_or_imp, forall_eq, implies_true, Nat.reduceBEq, reduceCtorEq, false_implies, List.zip_cons_cons, List.zip_nil_left, List.zip_nil_right, Nat.reduceLeDiff, List.forall_mem_nil, rs_46, agg_26, sz_26, keyAV]


variable {Γ : FuncId → Contract}


/-- So many texts of eight octets. -/
def chk (s : List UInt8) (m : Nat) : List (List UInt8) := (List.range m).map fun i : Nat => (s.drop (8 * i)).take 8
theorem chk_length (s : List UInt8) (m : Nat) : (chk s m).length = m := by simp [chk]
theorem chk_succ (s : List UInt8) (m : Nat) : chk s (m + 1) = chk s m ++ [(s.drop (8 * m)).take 8] := by simp [chk, List.range_succ]
theorem chk_cons (s : List UInt8) (m : Nat) : chk s (m + 1) = s.take 8 :: chk (s.drop 8) m := by
  unfold chk
  rw [List.range_succ_eq_map, List.map_cons, List.map_map]
  congr 1
  refine List.map_congr_left fun i _ => ?_
  show (s.drop (8 * (i + 1))).take 8 = ((s.drop 8).drop (8 * i)).take 8
  rw [List.drop_drop, show 8 * (i + 1) = 8 + 8 * i from by omega]
theorem chk_flat : ∀ (l : List (List UInt8)), all8 l → chk l.flatten l.length = l
  | [], _ => rfl
  | x :: l, h => by
    have hx : x.length = 8 := h x (by simp)
    rw [List.length_cons, chk_cons, List.flatten_cons, List.take_append_of_le_length (by omega), List.take_of_length_le (by omega), List.drop_append_of_le_length (by omega), List.drop_of_length_le (by omega), List.nil_append, chk_flat l fun p hp => h p (by simp [hp])]
theorem chain_add (s : List UInt8) (a : Nat) : ∀ b, chainS (chainS s a) b = chainS s (a + b)
  | 0 => rfl
  | b + 1 => by rw [chainS, chain_add s a b]; rfl
theorem opn_sgn (seed : List UInt8) (leaf : Int) (text : List UInt8) : opnS text (sgnS seed leaf text) = leafS seed leaf := by
  unfold opnS
  rw [if_pos ⟨sgnT_length _ _ _ _, sgnT_all8 _ _ _ _⟩]
  unfold leafS
  congr 2
  unfold opnT partsS
  refine List.map_congr_left fun i hi => ?_
  have hi : i < 11 := List.mem_range.1 hi
  have h : (sgnS seed leaf text).getD i [] = chainS (secS seed leaf (i : Int)) ((dS text).getD i 0) := by
    simp [sgnS, sgnT, List.getD, hi]
  rw [h, chain_add]
  have := dS_get_lt text i
  congr 1
  omega

noncomputable def verS (root : List UInt8) (h : Int) (text sig : List UInt8) : Int × Bool :=
  if sizeS h = 0 ∨ (sig.length : Int) ≠ sizeS h then (0, false)
  else if getB (sig.take 2) ≥ ((2 ^ h.toNat : Nat) : Int) ∨ climbS (opnS text ((chk (sig.drop 2) (11 + h.toNat)).take 11)) (getB (sig.take 2)).toNat ((chk (sig.drop 2) (11 + h.toNat)).drop 11) ≠ root then (0, false)
  else (getB (sig.take 2), true)
theorem leavesS_getD (seed : List UInt8) (n i : Nat) (h : i < n) : (leavesS seed n).getD i [] = leafS seed (i : Int) := by
  simp [leavesS, List.getD, h]
theorem ver_sig (seed : List UInt8) (h : Nat) (i : Nat) (text : List UInt8) (hs : seed.length ≤ 64) (h4 : h ≤ 4) (hi : i < 2 ^ h) (hg : goodK ⟨seed, leavesS seed (2 ^ h), (i : Int)⟩) :
    verS (rootS (leavesS seed (2 ^ h))) (h : Int) text (sigB ⟨seed, leavesS seed (2 ^ h), (i : Int)⟩ text) = ((i : Int), true) := by
  have hll := leavesS_length seed (2 ^ h)
  have hn : (i : Int) ≠ ((leavesS seed (2 ^ h)).length : Int) := by rw [hll]; omega
  obtain ⟨p0, p8, pl⟩ := path_good hg hn
  dsimp only at p0 p8 pl
  rw [Int.toNat_natCast] at p0
  rw [hll, Nat.log2_two_pow] at pl
  have hL8 : all8 (sigL ⟨seed, leavesS seed (2 ^ h), (i : Int)⟩ text) := all8_app (sgnT_all8 _ _ _ _) p8
  have hs11 : (sgnS seed (i : Int) text).length = 11 := sgnT_length _ _ _ _
  have hLl : (sigL ⟨seed, leavesS seed (2 ^ h), (i : Int)⟩ text).length = 11 + h := by
    show (sgnS seed (i : Int) text ++ (pathS (leavesS seed (2 ^ h)) (i : Int)).1).length = _
    rw [List.length_append, pl, hs11]
  have hfl := all8_flat _ hL8
  have hp2 := putB2 (i : Int)
  have h16 : 2 ^ h ≤ 16 := Nat.le_trans (Nat.pow_le_pow_right (by decide) h4) (by decide)
  have hsz : sizeS (h : Int) = 90 + 8 * (h : Int) := if_neg (by omega)
  have hsl : (sigB ⟨seed, leavesS seed (2 ^ h), (i : Int)⟩ text).length = 90 + 8 * h := by
    show (putB (i : Int) 2 ++ (sigL ⟨seed, leavesS seed (2 ^ h), (i : Int)⟩ text).flatten).length = _
    rw [List.length_append, hp2, hfl, hLl]; omega
  have ht : (sigB ⟨seed, leavesS seed (2 ^ h), (i : Int)⟩ text).take 2 = putB (i : Int) 2 := by
    show (putB (i : Int) 2 ++ (sigL ⟨seed, leavesS seed (2 ^ h), (i : Int)⟩ text).flatten).take 2 = _
    rw [List.take_append_of_le_length (by omega), List.take_of_length_le (by omega)]
  have hd : (sigB ⟨seed, leavesS seed (2 ^ h), (i : Int)⟩ text).drop 2 = (sigL ⟨seed, leavesS seed (2 ^ h), (i : Int)⟩ text).flatten := by
    show (putB (i : Int) 2 ++ (sigL ⟨seed, leavesS seed (2 ^ h), (i : Int)⟩ text).flatten).drop 2 = _
    rw [List.drop_append_of_le_length (by omega), List.drop_of_length_le (by omega), List.nil_append]
  have hck : chk (sigL ⟨seed, leavesS seed (2 ^ h), (i : Int)⟩ text).flatten (11 + h) = sigL ⟨seed, leavesS seed (2 ^ h), (i : Int)⟩ text := by
    rw [← hLl]; exact chk_flat _ hL8
  have hgb : getB (putB (i : Int) 2) = (i : Int) := getB_putB2 i (by omega)
  have hLd : sigL ⟨seed, leavesS seed (2 ^ h), (i : Int)⟩ text = sgnS seed (i : Int) text ++ pathP (leavesS seed (2 ^ h)) i := by
    show sgnS seed (i : Int) text ++ (pathS (leavesS seed (2 ^ h)) (i : Int)).1 = _
    rw [p0]
  have hcl := climb_path _ (leavesS seed (2 ^ h)) i (by rw [hll]; exact hi) (Nat.le_refl _) (by rw [hll]; exact powN_of h)
  rw [leavesS_getD seed _ i hi] at hcl
  unfold verS
  rw [if_neg (by rw [hsz, hsl]; omega), ht, hd, Int.toNat_natCast, hck, hgb, hLd]
  rw [List.take_append_of_le_length (by omega), List.take_of_length_le (by omega), List.drop_append_of_le_length (by omega), List.drop_of_length_le (l := sgnS seed (i : Int) text) (by omega), List.nil_append, opn_sgn, Int.toNat_natCast, hcl]
  rw [if_neg]
  rintro (h | h)
  · omega
  · exact h rfl
theorem good_new (seed : List UInt8) (h : Nat) (i : Nat) (hs : seed.length ≤ 64) (h4 : h ≤ 4) (hi : i ≤ 2 ^ h) : goodK ⟨seed, leavesS seed (2 ^ h), (i : Int)⟩ := by
  have hll := leavesS_length seed (2 ^ h)
  refine ⟨hs, ?_, ?_, by show (0 : Int) ≤ (i : Int); omega, ?_⟩
  · show okN16 (leavesS seed (2 ^ h)).length
    rw [hll]
    have : h = 0 ∨ h = 1 ∨ h = 2 ∨ h = 3 ∨ h = 4 := by omega
    rcases this with rfl | rfl | rfl | rfl | rfl <;> decide
  · intro p hp
    have hp : p ∈ leavesS seed (2 ^ h) := hp
    simp only [leavesS, List.mem_map] at hp
    obtain ⟨k, _, rfl⟩ := hp
    exact shortS_length _
  · show (i : Int) ≤ ((leavesS seed (2 ^ h)).length : Int)
    rw [hll]; omega


variable {Γ : FuncId → Contract}

noncomputable def chkC : Contract := mkC (α := List UInt8) (fun s => s.length ≤ 1000000) (fun s => [.c (.str s)]) (fun _ => []) (fun s => ⟨[.fresh 1 (texts (chk s (s.length / 8)))], []⟩)
theorem chk_at (s : List UInt8) (h : s.length ≤ 1000000) : chkC [.c (.str s)] [] = some ⟨[.fresh 1 (texts (chk s (s.length / 8)))], []⟩ :=
  mkC_at (α := List UInt8) s h (by
    rintro y _ h _
    simp only [List.cons.injEq, AV.c.injEq, PC.str.injEq, and_true] at h
    rw [h])

set_option maxRecDepth 100000 in
set_option maxHeartbeats 1000000 in
theorem chk_sound : SoundC Tryz.prog 165 chkC := by
  refine sound_fn Tryz.func165 (by kernel_rfl) rfl rfl ?_
  intro args objs r hr
  obtain ⟨s, hl, rfl, rfl, rfl⟩ := mkC_inv hr
  have hl : s.length ≤ 1000000 := hl
  refine ⟨rfl, by show 1 ≤ _; decide, fun E hN hns hF => ?_⟩
  refine vc_sound none0_sound mixed _ _ _ ?_
  have hN := hN.trans nt_165
  simp only [runA, runB, runC, runD, runE, runF, fieldE, storeE, binE, ↓reduceIte, Nat.reduceLT, Nat.reduceLeDiff, Nat.reduceEqDiff, Nat.reduceAdd, Nat.reduceMul, Nat.reduceSub, reduceCtorEq, putAt, unE, Nat.reduceBEq, convE, buildE, List.replicate, Int.reduceLT, Int.reduceLE, Int.reduceToNat, mkE, mapSetE, hN, hF, ty_3, ty_9, ty_24, notIf, isEq]
  refine AWP.loop (fun k st => ∃ i : Nat, i ≤ s.length / 8 ∧ k = s.length / 8 - i ∧ st = ⟨[(0, .c (.str (s.drop (8 * i)))), (3, .own 833 1 (texts (chk s i)))], [(833, .row 1 i)]⟩) ⟨s.length / 8, _, ?w, 0, Nat.zero_le _, rfl, rfl⟩ ?r
  case w =>
    rw [hns]
    simp only [runB, finC, finD, AS.get, AS.mem, false_implies, implies_true, ↓reduceIte, Nat.reduceEqDiff, Option.isSome_some, Option.isSome_none, forall_eq_or_imp, forall_eq, reduceCtorEq, Nat.reduceAdd, Nat.reduceMul, List.zip_cons_cons, List.zip_nil_left, List.zip_nil_right, List.forall_mem_nil]
    first | done | simp [chk, texts]
  case r =>
    rintro k st ⟨i, hi, rfl, rfl⟩
    refine vc_sound none0_sound mixed _ _ _ ?_
    have hul : (s.drop (8 * i)).length = s.length - 8 * i := List.length_drop
    by_cases hlt : i < s.length / 8
    · have k1 : decide (((s.drop (8 * i)).length : Int) ≥ 8) = true := by simp only [hul, decide_eq_true_eq, ge_iff_le]; omega
      have hdd : (s.drop (8 * i)).drop 8 = s.drop (8 * (i + 1)) := by rw [List.drop_drop, show 8 * i + 8 = 8 * (i + 1) from by omega]
      have hsucc := chk_succ s i
      have hcl := chk_length s i
      have hz := rowsOK_texts
      have hL : ((i + 1) * 16 ≤ 140737488355328) = True := eq_true (by omega)
      have c1 : (((0 : Nat) : Int) ≤ 8) = True := eq_true (by decide)
      have c3 : ((0 : Int) ≤ 8) = True := eq_true (by decide)
      have c2 : ((8 : Int) ≤ ((s.drop (8 * i)).length : Int)) = True := eq_true (by omega)
      have ht : (s.drop (8 * i)).take (s.drop (8 * i)).length = s.drop (8 * i) := List.take_length
      generalize s.drop (8 * i) = u at k1 hdd hsucc c2 ht ⊢
      simp only [runA, runB, runC, runD, runE, runF, fieldE, storeE, binE, ↓reduceIte, Nat.reduceLT, Nat.reduceLeDiff, Nat.reduceEqDiff, Nat.reduceAdd, Nat.reduceMul, Nat.reduceSub, reduceCtorEq, putAt, unE, Nat.reduceBEq, convE, buildE, List.replicate, Int.reduceLT, Int.reduceLE, Int.reduceToNat, mkE, mapSetE, hN, hF, ty_3, ty_9, ty_24, notIf, isEq, sliceE, boundE, k1, c1, c2, c3, Int.le_refl, List.drop_zero, ht, hdd, texts1, texts_app, ← hsucc, hz, hL, texts_length, hcl]
      refine ⟨s.length / 8 - (i + 1), _, by omega, ?_, i + 1, by omega, rfl, rfl⟩
      rw [hns]
      simp only [runB, finC, finD, AS.get, AS.mem, false_implies, implies_true, ↓reduceIte, Nat.reduceEqDiff, Option.isSome_some, Option.isSome_none, forall_eq_or_imp, forall_eq, reduceCtorEq, Nat.reduceAdd, Nat.reduceMul, List.zip_cons_cons, List.zip_nil_left, List.zip_nil_right, List.forall_mem_nil]
      first | done | simp
    · have k1 : decide (((s.drop (8 * i)).length : Int) ≥ 8) = false := by simp only [hul, decide_eq_false_iff_not, ge_iff_le]; omega
      obtain rfl : i = s.length / 8 := by omega
      have hcl := chk_length s (s.length / 8)
      simp only [runA, runB, runC, runD, runE, runF, fieldE, storeE, binE, ↓reduceIte, Nat.reduceLT, Nat.reduceLeDiff, Nat.reduceEqDiff, Nat.reduceAdd, Nat.reduceMul, Nat.reduceSub, reduceCtorEq, putAt, unE, Nat.reduceBEq, convE, buildE, List.replicate, Int.reduceLT, Int.reduceLE, Int.reduceToNat, mkE, mapSetE, hN, hF, ty_3, ty_9, ty_24, notIf, isEq, k1]
      simp only [runB, finC, finD, Option.isSome_some, Option.isSome_none, ↓reduceIte, Nat.reduceEqDiff, Nat.reduceAdd, Nat.reduceMul, forall_eq_or_imp, forall_eq, implies_true, Nat.reduceBEq, reduceCtorEq, false_implies, List.zip_cons_cons, List.zip_nil_left, List.zip_nil_right, Nat.reduceLeDiff, List.forall_mem_nil, rs_165, texts_length, hcl]

structure Sv where
  root : List UInt8
  h : Int
  text : List UInt8
  sig : List UInt8
noncomputable def sverC : Contract := mkC (α := Sv) (fun p => p.text.length ≤ 1099511627776) (fun p => [.c (.str p.root), .c (.int .i64 p.h), .c (.sl (bytes p.text)), .c (.str p.sig)]) (fun _ => []) (fun p => ⟨[.pv (.c (.int .i64 (verS p.root p.h p.text p.sig).1)), .pv (.c (.bool (verS p.root p.h p.text p.sig).2))], []⟩)
theorem sver_at (root : List UInt8) (h : Int) (text sig : List UInt8) (ht : text.length ≤ 1099511627776) : sverC [.c (.str root), .c (.int .i64 h), .c (.sl (bytes text)), .c (.str sig)] [] = some ⟨[.pv (.c (.int .i64 (verS root h text sig).1)), .pv (.c (.bool (verS root h text sig).2))], []⟩ :=
  mkC_at (α := Sv) ⟨root, h, text, sig⟩ ht (by
    rintro ⟨a, b, c, d⟩ _ h _
    simp only [List.cons.injEq, AV.c.injEq, PC.int.injEq, PC.str.injEq, PC.sl.injEq, true_and, and_true] at h
    obtain ⟨rfl, rfl, h, rfl⟩ := h
    rw [bytes_inj h])
theorem texts_takeS (l : List (List UInt8)) (n : Nat) : (texts l).take n = texts (l.take n) := by simp [texts, List.map_take]
theorem texts_dropS (l : List (List UInt8)) (n : Nat) : (texts l).drop n = texts (l.drop n) := by simp [texts, List.map_drop]
theorem getB_lt (l : List UInt8) : getB l < 4611686018427387904 := by
  have : ∀ (l : List UInt8) (u : Nat), u < 4611686018427387904 → l.foldl (fun (u : Nat) c => (u * 256 + c.toNat) % 4611686018427387904) u < 4611686018427387904 := by
    intro l
    induction l with
    | nil => intro u h; exact h
    | cons c l ih => intro u h; exact ih _ (Nat.mod_lt _ (by decide))
  have h := this l 0 (by decide)
  unfold getB
  omega
theorem opnS_le (text : List UInt8) (l : List (List UInt8)) : (opnS text l).length ≤ 8 := by
  unfold opnS
  split
  · rw [shortS_length]; decide
  · simp
theorem chk_ok (s : List UInt8) (n : Nat) (hn : n ≤ 1000) : Okl ((chk s n).drop 11) := by
  refine ⟨by rw [List.length_drop, chk_length]; omega, fun x hx => ?_⟩
  have hx := List.mem_of_mem_drop hx
  simp only [chk, List.mem_map] at hx
  obtain ⟨i, _, rfl⟩ := hx
  rw [List.length_take]; omega

set_option maxRecDepth 100000 in
set_option maxHeartbeats 4000000 in
theorem sver_sound (hΓ : SoundG Tryz.prog Γ) (h1 : Γ 164 = sizeGC) (h2 : Γ 113 = getC) (h3 : Γ 165 = chkC) (h4 : Γ 167 = opnC) (h5 : Γ 166 = climbC) : SoundC Tryz.prog 119 sverC := by
  refine sound_fn Tryz.func119 (by kernel_rfl) rfl rfl ?_
  intro args objs r hr
  obtain ⟨⟨root, h, text, sig⟩, hl, rfl, rfl, rfl⟩ := mkC_inv hr
  have hl : text.length ≤ 1099511627776 := hl
  refine ⟨rfl, by show 4 ≤ _; decide, fun E hN hns hF => ?_⟩
  refine vc_sound hΓ mixed _ _ _ ?_
  have hN := hN.trans nt_119
  have q1 := sizeG_at h
  dsimp only
  by_cases c1 : (sig.length : Int) = sizeS h
  case neg =>
    have g1 : ((sig.length : Int) != sizeS h) = true := by rw [bne_iff_ne]; exact c1
    have hS : verS root h text sig = (0, false) := if_pos (.inr c1)
    rw [hS]
    simp only [runA, runB, runC, runD, runE, runF, fieldE, storeE, binE, ↓reduceIte, Nat.reduceLT, Nat.reduceLeDiff, Nat.reduceEqDiff, Nat.reduceAdd, Nat.reduceMul, Nat.reduceSub, reduceCtorEq, putAt, unE, Nat.reduceBEq, convE, buildE, List.replicate, Int.reduceLT, Int.reduceLE, Int.reduceToNat, mkE, mapSetE, hN, hF, ty_3, ty_4, ty_5, ty_9, ty_24, ty_47, notIf, isEq, h1, q1, g1]
    simp only [runB, finC, finD, Option.isSome_some, Option.isSome_none, ↓reduceIte, Nat.reduceEqDiff, Nat.reduceAdd, Nat.reduceMul, forall_eq_or_imp, forall_eq, implies_true, Nat.reduceBEq, reduceCtorEq, false_implies, List.zip_cons_cons, List.zip_nil_left, List.zip_nil_right, Nat.reduceLeDiff, List.forall_mem_nil, rs_119]
  have g1 : ((sig.length : Int) != sizeS h) = false := by rw [c1, bne_self_eq_false]
  by_cases c2 : sizeS h = 0
  case pos =>
    have hs0 : sig = [] := by
      rw [c2] at c1
      exact List.length_eq_zero_iff.1 (by omega)
    have hS : verS root h text sig = (0, false) := if_pos (.inl c2)
    rw [hS]
    subst hs0
    have g0 : (((0 : Nat) : Int) != sizeS h) = false := g1
    simp only [runA, runB, runC, runD, runE, runF, fieldE, storeE, binE, ↓reduceIte, Nat.reduceLT, Nat.reduceLeDiff, Nat.reduceEqDiff, Nat.reduceAdd, Nat.reduceMul, Nat.reduceSub, reduceCtorEq, putAt, unE, Nat.reduceBEq, convE, buildE, List.replicate, Int.reduceLT, Int.reduceLE, Int.reduceToNat, mkE, mapSetE, hN, hF, ty_3, ty_4, ty_5, ty_9, ty_24, ty_47, notIf, isEq, h1, q1, g0]
    simp only [runB, finC, finD, Option.isSome_some, Option.isSome_none, ↓reduceIte, Nat.reduceEqDiff, Nat.reduceAdd, Nat.reduceMul, forall_eq_or_imp, forall_eq, implies_true, Nat.reduceBEq, reduceCtorEq, false_implies, List.zip_cons_cons, List.zip_nil_left, List.zip_nil_right, Nat.reduceLeDiff, List.forall_mem_nil, rs_119]
  have hh : 0 ≤ h ∧ h ≤ 4 ∧ sizeS h = 90 + 8 * h := by
    unfold sizeS at c2 ⊢
    split at c2
    · exact absurd rfl c2
    · rename_i hc
      rw [if_neg hc]
      omega
  obtain ⟨hh0, hh4, hhs⟩ := hh
  obtain ⟨H, rfl⟩ : ∃ H : Nat, h = (H : Int) := ⟨h.toNat, by omega⟩
  have hH : H ≤ 4 := by omega
  have hsl : sig.length = 90 + 8 * H := by omega
  have hne : (sig == []) = false := by
    rw [beq_eq_false_iff_ne]
    intro e
    rw [e] at hsl
    simp at hsl
    omega
  have d1 : ((0 : Int) ≤ 2) = True := eq_true (by decide)
  have d2 : ((2 : Int) ≤ (sig.length : Int)) = True := eq_true (by omega)
  have ht2 : (sig.take 2).length = 2 := by rw [List.length_take]; omega
  have hdl : (sig.drop 2).length = 88 + 8 * H := by rw [List.length_drop]; omega
  have q2 : getC [.c (.sl (bytes (sig.take 2)))] [] = some ⟨[.pv (.c (.int .i64 (getB (sig.take 2))))], []⟩ := by
    have : (sig.take 2).length ≤ 9223372036854775807 := by omega
    simp only [getC, asB_bytes, this, if_true]
  have q3 := chk_at (sig.drop 2) (by omega)
  rw [hdl, show (88 + 8 * H) / 8 = 11 + H from by omega] at q3
  have hcl := chk_length (sig.drop 2) (11 + H)
  have hok := chk_ok (sig.drop 2) (11 + H) (by omega)
  have hgl := getB_lt (sig.take 2)
  have hg0 := getB_nonneg (sig.take 2)
  have e1 := shl_pow H hH
  have hV : verS root (H : Int) text sig = if getB (sig.take 2) ≥ ((2 ^ H : Nat) : Int) ∨ climbS (opnS text ((chk (sig.drop 2) (11 + H)).take 11)) (getB (sig.take 2)).toNat ((chk (sig.drop 2) (11 + H)).drop 11) ≠ root then (0, false) else (getB (sig.take 2), true) := by
    unfold verS
    rw [if_neg (by rw [hhs]; omega), Int.toNat_natCast]
  rw [hV]
  have htl : sig.take sig.length = sig := List.take_length
  generalize chk (sig.drop 2) (11 + H) = L at q3 hcl hok ⊢
  generalize hsd : sig.drop 2 = sd at q3 hdl ⊢
  generalize hs2 : sig.take 2 = s2 at q2 ht2 hgl hg0 ⊢
  generalize getB s2 = lf at q2 hgl hg0 ⊢
  have hz := rowsOK_texts
  have d3 : ((0 : Int) ≤ 11) = True := eq_true (by decide)
  have d4 : ((11 : Int) ≤ ((11 + H : Nat) : Int)) = True := eq_true (by omega)
  have htk : (texts L).take (11 + H) = texts L := by rw [← hcl, ← texts_length L, List.take_length]
  have htt := texts_takeS L 11
  have htd := texts_dropS L 11
  have q4 := opn_at text (L.take 11) hl
  have q5 := climb_at (opnS text (L.take 11)) lf (L.drop 11) ⟨Nat.le_trans (opnS_le _ _) (by decide), by show lf < _; omega, hok⟩
  rw [show (max lf 0) = lf from by omega] at q5
  have d1' : (((0 : Nat) : Int) ≤ 2) = True := eq_true (by decide)
  have d3' : (((0 : Nat) : Int) ≤ 11) = True := eq_true (by decide)
  by_cases c3 : lf ≥ ((2 ^ H : Nat) : Int)
  · have g3 : decide (lf ≥ ((2 ^ H : Nat) : Int)) = true := by simpa using c3
    rw [if_pos (.inl c3)]
    simp only [runA, runB, runC, runD, runE, runF, fieldE, storeE, binE, ↓reduceIte, Nat.reduceLT, Nat.reduceLeDiff, Nat.reduceEqDiff, Nat.reduceAdd, Nat.reduceMul, Nat.reduceSub, reduceCtorEq, putAt, unE, Nat.reduceBEq, convE, buildE, List.replicate, Int.reduceLT, Int.reduceLE, Int.reduceToNat, mkE, mapSetE, hN, hF, ty_3, ty_4, ty_5, ty_9, ty_24, ty_47, notIf, isEq, sliceE, boundE, Int.le_refl, List.drop_zero, h1, q1, g1, hne, d1, d1', d2, hs2, hsd, htl, h2, q2, h3, q3, e1, g3]
    refine drawnP_intro (by kernel_rfl) (by kernel_rfl) ?_
    simp only [runA, runB, runC, runD, runE, runF, fieldE, storeE, binE, ↓reduceIte, Nat.reduceLT, Nat.reduceLeDiff, Nat.reduceEqDiff, Nat.reduceAdd, Nat.reduceMul, Nat.reduceSub, reduceCtorEq, putAt, unE, Nat.reduceBEq, convE, buildE, List.replicate, Int.reduceLT, Int.reduceLE, Int.reduceToNat, mkE, mapSetE, hN, hF, ty_3, ty_4, ty_5, ty_9, ty_24, ty_47, notIf, isEq]
    simp only [runB, finC, finD, Option.isSome_some, Option.isSome_none, ↓reduceIte, Nat.reduceEqDiff, Nat.reduceAdd, Nat.reduceMul, forall_eq_or_imp, forall_eq, implies_true, Nat.reduceBEq, reduceCtorEq, false_implies, List.zip_cons_cons, List.zip_nil_left, List.zip_nil_right, Nat.reduceLeDiff, List.forall_mem_nil, rs_119]
  have g3 : decide (lf ≥ ((2 ^ H : Nat) : Int)) = false := by simpa using c3
  generalize climbS (opnS text (L.take 11)) lf.toNat (L.drop 11) = rt at q5 ⊢
  generalize opnS text (L.take 11) = op at q4 q5
  by_cases c4 : rt = root
  · have g4 : (rt == root) = true := by simpa using c4
    rw [if_neg (by rintro (h | h); exact c3 h; exact h c4)]
    simp only [runA, runB, runC, runD, runE, runF, fieldE, storeE, binE, ↓reduceIte, Nat.reduceLT, Nat.reduceLeDiff, Nat.reduceEqDiff, Nat.reduceAdd, Nat.reduceMul, Nat.reduceSub, reduceCtorEq, putAt, unE, Nat.reduceBEq, convE, buildE, List.replicate, Int.reduceLT, Int.reduceLE, Int.reduceToNat, mkE, mapSetE, hN, hF, ty_3, ty_4, ty_5, ty_9, ty_24, ty_47, notIf, isEq, sliceE, boundE, Int.le_refl, List.drop_zero, h1, q1, g1, hne, d1, d1', d2, d3, d3', d4, hs2, hsd, htl, h2, q2, h3, q3, e1, g3, hz, texts_length, hcl, htt, htd, htk, h4, q4, h5, q5, g4]
    refine drawnP_intro (by kernel_rfl) (by kernel_rfl) ?_
    simp only [runA, runB, runC, runD, runE, runF, fieldE, storeE, binE, ↓reduceIte, Nat.reduceLT, Nat.reduceLeDiff, Nat.reduceEqDiff, Nat.reduceAdd, Nat.reduceMul, Nat.reduceSub, reduceCtorEq, putAt, unE, Nat.reduceBEq, convE, buildE, List.replicate, Int.reduceLT, Int.reduceLE, Int.reduceToNat, mkE, mapSetE, hN, hF, ty_3, ty_4, ty_5, ty_9, ty_24, ty_47, notIf, isEq]
    simp only [runB, finC, finD, Option.isSome_some, Option.isSome_none, ↓reduceIte, Nat.reduceEqDiff, Nat.reduceAdd, Nat.reduceMul, forall_eq_or_imp, forall_eq, implies_true, Nat.reduceBEq, reduceCtorEq, false_implies, List.zip_cons_cons, List.zip_nil_left, List.zip_nil_right, Nat.reduceLeDiff, List.forall_mem_nil, rs_119]
  · have g4 : (rt == root) = false := by simpa using c4
    rw [if_pos (.inr c4)]
    simp only [runA, runB, runC, runD, runE, runF, fieldE, storeE, binE, ↓reduceIte, Nat.reduceLT, Nat.reduceLeDiff, Nat.reduceEqDiff, Nat.reduceAdd, Nat.reduceMul, Nat.reduceSub, reduceCtorEq, putAt, unE, Nat.reduceBEq, convE, buildE, List.replicate, Int.reduceLT, Int.reduceLE, Int.reduceToNat, mkE, mapSetE, hN, hF, ty_3, ty_4, ty_5, ty_9, ty_24, ty_47, notIf, isEq, sliceE, boundE, Int.le_refl, List.drop_zero, h1, q1, g1, hne, d1, d1', d2, d3, d3', d4, hs2, hsd, htl, h2, q2, h3, q3, e1, g3, hz, texts_length, hcl, htt, htd, htk, h4, q4, h5, q5, g4]
    refine drawnP_intro (by kernel_rfl) (by kernel_rfl) ?_
    simp only [runA, runB, runC, runD, runE, runF, fieldE, storeE, binE, ↓reduceIte, Nat.reduceLT, Nat.reduceLeDiff, Nat.reduceEqDiff, Nat.reduceAdd, Nat.reduceMul, Nat.reduceSub, reduceCtorEq, putAt, unE, Nat.reduceBEq, convE, buildE, List.replicate, Int.reduceLT, Int.reduceLE, Int.reduceToNat, mkE, mapSetE, hN, hF, ty_3, ty_4, ty_5, ty_9, ty_24, ty_47, notIf, isEq]
    simp only [runB, finC, finD, Option.isSome_some, Option.isSome_none, ↓reduceIte, Nat.reduceEqDiff, Nat.reduceAdd, Nat.reduceMul, forall_eq_or_imp, forall_eq, implies_true, Nat.reduceBEq, reduceCtorEq, false_implies, List.zip_cons_cons, List.zip_nil_left, List.zip_nil_right, Nat.reduceLeDiff, List.forall_mem_nil, rs_119]


variable {Γ : FuncId → Contract}

structure Tl where
  k : Ky
  text : List UInt8
  h : Int

variable {Γ : FuncId → Contract}

/-- Two contracts of one function, the first before the second. -/
def orC (a b : Contract) : Contract := fun x o => match a x o with | some r => some r | none => b x o
theorem orC_sound {f : FuncId} {a b : Contract} (ha : SoundC Tryz.prog f a) (hb : SoundC Tryz.prog f b) : SoundC Tryz.prog f (orC a b) := by
  refine ⟨ha.1, fun args objs r hr => ?_⟩
  unfold orC at hr
  split at hr
  · rename_i r' h
    cases hr
    exact ha.2 args objs _ h
  · exact hb.2 args objs _ hr

def zeroKA : AV := .agg [.c (.str []), .c (.sl []), .c (.int .i64 0)]
def newErrC : Contract := fun args objs => match args, objs with
  | [.c (.str s), .c (.int .i64 n)], [] => if n < 0 ∨ 4 < n then some ⟨[.pv zeroKA, .pv (.c (.int .i64 4))], []⟩ else if 64 < s.length then some ⟨[.pv zeroKA, .pv (.c (.int .i64 5))], []⟩ else none
  | _, _ => none
set_option maxRecDepth 100000 in
set_option maxHeartbeats 1000000 in
theorem newErr_sound : SoundC Tryz.prog 44 newErrC := by
  refine sound_fn Tryz.func44 (by kernel_rfl) rfl rfl ?_
  intro args objs r hr
  unfold newErrC at hr
  split at hr
  · rename_i s n
    split at hr
    · rename_i hc
      cases hr
      refine ⟨rfl, by show 2 ≤ _; decide, fun E hN hns hF => ?_⟩
      refine vc_sound none0_sound mixed _ _ _ ?_
      have hN := hN.trans nt_44
      by_cases h0 : n < 0
      · have g1 : decide (n < 0) = true := by simpa using h0
        simp only [runA, runB, runC, runD, runE, runF, fieldE, storeE, binE, ↓reduceIte, Nat.reduceLT, Nat.reduceLeDiff, Nat.reduceEqDiff, Nat.reduceAdd, Nat.reduceMul, Nat.reduceSub, reduceCtorEq, putAt, unE, Nat.reduceBEq, convE, buildE, List.replicate, Int.reduceLT, Int.reduceLE, Int.reduceToNat, mkE, mapSetE, hN, hF, ty_3, ty_9, ty_24, ty_26, ty_37, notIf, isEq, g1]
        simp only [runB, finC, finD, Option.isSome_some, Option.isSome_none, ↓reduceIte, Nat.reduceEqDiff, Nat.reduceAdd, Nat.reduceMul, forall_eq_or_imp, forall_eq, implies_true, Nat.reduceBEq, reduceCtorEq, false_implies, List.zip_cons_cons, List.zip_nil_left, List.zip_nil_right, Nat.reduceLeDiff, List.forall_mem_nil, rs_44, agg_26, sz_26, zeroKA]
      · have g1 : decide (n < 0) = false := by simpa using h0
        have g2 : decide (n > 4) = true := by simp; omega
        simp only [runA, runB, runC, runD, runE, runF, fieldE, storeE, binE, ↓reduceIte, Nat.reduceLT, Nat.reduceLeDiff, Nat.reduceEqDiff, Nat.reduceAdd, Nat.reduceMul, Nat.reduceSub, reduceCtorEq, putAt, unE, Nat.reduceBEq, convE, buildE, List.replicate, Int.reduceLT, Int.reduceLE, Int.reduceToNat, mkE, mapSetE, hN, hF, ty_3, ty_9, ty_24, ty_26, ty_37, notIf, isEq, g1, g2]
        simp only [runB, finC, finD, Option.isSome_some, Option.isSome_none, ↓reduceIte, Nat.reduceEqDiff, Nat.reduceAdd, Nat.reduceMul, forall_eq_or_imp, forall_eq, implies_true, Nat.reduceBEq, reduceCtorEq, false_implies, List.zip_cons_cons, List.zip_nil_left, List.zip_nil_right, Nat.reduceLeDiff, List.forall_mem_nil, rs_44, agg_26, sz_26, zeroKA]
    · rename_i hc
      split at hr
      · rename_i hl
        cases hr
        refine ⟨rfl, by show 2 ≤ _; decide, fun E hN hns hF => ?_⟩
        refine vc_sound none0_sound mixed _ _ _ ?_
        have hN := hN.trans nt_44
        have g1 : decide (n < 0) = false := by simp; omega
        have g2 : decide (n > 4) = false := by simp; omega
        have g3 : decide ((s.length : Int) > 64) = true := by simp; omega
        simp only [runA, runB, runC, runD, runE, runF, fieldE, storeE, binE, ↓reduceIte, Nat.reduceLT, Nat.reduceLeDiff, Nat.reduceEqDiff, Nat.reduceAdd, Nat.reduceMul, Nat.reduceSub, reduceCtorEq, putAt, unE, Nat.reduceBEq, convE, buildE, List.replicate, Int.reduceLT, Int.reduceLE, Int.reduceToNat, mkE, mapSetE, hN, hF, ty_3, ty_9, ty_24, ty_26, ty_37, notIf, isEq, g1, g2, g3]
        simp only [runB, finC, finD, Option.isSome_some, Option.isSome_none, ↓reduceIte, Nat.reduceEqDiff, Nat.reduceAdd, Nat.reduceMul, forall_eq_or_imp, forall_eq, implies_true, Nat.reduceBEq, reduceCtorEq, false_implies, List.zip_cons_cons, List.zip_nil_left, List.zip_nil_right, Nat.reduceLeDiff, List.forall_mem_nil, rs_44, agg_26, sz_26, zeroKA]
      · cases hr
  · cases hr
noncomputable def newGC : Contract := orC newErrC newKeyC
theorem newG_sound (hΓ : SoundG Tryz.prog Γ) (h1 : Γ 91 = leafC) : SoundC Tryz.prog 44 newGC := orC_sound newErr_sound (newKey_sound hΓ h1)
theorem newG_at (s : List UInt8) (n : Nat) (h4 : n ≤ 4) (hl : s.length ≤ 64) : newGC [.c (.str s), .c (.int .i64 (n : Int))] [] = some ⟨[.pv (keyAV s (leavesS s (2 ^ n)) 0), .pv (.c (.int .i64 0))], []⟩ := by
  have h1 : ¬ ((n : Int) < 0 ∨ 4 < (n : Int)) := by omega
  have h2 : ¬ (64 < s.length) := by omega
  simp only [newGC, orC, newErrC, if_neg h1, if_neg h2, newKey_at s n hl h4]

structure Bk where
  seed : List UInt8
  h : Int
  l : List (List UInt8)
end Go.Proofs.YtenmlgalcjkdbaaGreat.AM
