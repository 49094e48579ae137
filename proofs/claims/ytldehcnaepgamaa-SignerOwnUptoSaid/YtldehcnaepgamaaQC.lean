/-
  QC: Sn4 Sn5 Sn6 Sn7 Lo Ln.
-/
import Derived.Test.YtldehcnaepgamaaQA
import Derived.Test.YtldehcnaepgamaaQB
import Derived.Test.YtldehcnaepgamaaQ6
import Derived.Test.YtldehcnaepgamaaQ8
set_option linter.unusedVariables false
set_option linter.unusedSimpArgs false
namespace Go.Proofs.Ytldehcnaepgamaa.AM
open Go

variable {Γ : FuncId → Contract}

structure Ky where
  seed : List UInt8
  leaves : List (List UInt8)
  next : Int
  deriving DecidableEq
def Ky.av (k : Ky) : AV := .agg [.c (.str k.seed), .c (.sl (texts k.leaves)), .c (.int .i64 k.next)]
theorem Ky.av_inj {a b : Ky} (h : a.av = b.av) : a = b := by
  obtain ⟨a1, a2, a3⟩ := a
  obtain ⟨b1, b2, b3⟩ := b
  simp only [Ky.av, AV.agg.injEq, List.cons.injEq, AV.c.injEq, PC.str.injEq, PC.sl.injEq, PC.int.injEq, true_and, and_true] at h
  obtain ⟨rfl, h, rfl⟩ := h
  rw [texts_inj h]
def okN16 (n : Nat) : Prop := n = 1 ∨ n = 2 ∨ n = 4 ∨ n = 8 ∨ n = 16
instance (n : Nat) : Decidable (okN16 n) := inferInstanceAs (Decidable (_ ∨ _))
def goodK (k : Ky) : Prop := k.seed.length ≤ 64 ∧ okN16 k.leaves.length ∧ all8 k.leaves ∧ 0 ≤ k.next ∧ k.next ≤ (k.leaves.length : Int)
instance (k : Ky) : Decidable (goodK k) := inferInstanceAs (Decidable (_ ∧ _))
def keyS (k : Ky) : Int := if goodK k then 0 else 9
theorem goodK.okl {k : Ky} (h : goodK k) : Okl k.leaves := by
  obtain ⟨_, h1, h2, _⟩ := h
  refine ⟨by unfold okN16 at h1; omega, fun s hs => by rw [h2 s hs]; decide⟩

def oddC : Contract := fun args objs => match args, objs with
  | [.c (.str s)], [] => some ⟨[.pv (.c (.bool ((s.length : Int) != 8)))], []⟩
  | _, _ => none
set_option maxHeartbeats 1000000 in
theorem odd_sound : SoundC Try.prog 64 oddC := by
  refine sound_fn Try.func64 (by kernel_rfl) rfl rfl ?_
  intro args objs r hr
  unfold oddC at hr
  split at hr
  · rename_i s
    cases hr
    refine ⟨rfl, by show 1 ≤ _; decide, fun E hN hns hF => ?_⟩
    refine vc_sound none0_sound mixed _ _ _ ?_
    have hN := hN.trans nt_64
    simp only [runA, runB, runC, runD, runE, runF, fieldE, storeE, binE, ↓reduceIte, Nat.reduceLT, Nat.reduceLeDiff, Nat.reduceEqDiff, Nat.reduceAdd, Nat.reduceMul, Nat.reduceSub, reduceCtorEq, putAt, unE, Nat.reduceBEq, convE, buildE, List.replicate, Int.reduceLT, Int.reduceLE, Int.reduceToNat, mkE, mapSetE, hN, hF, ty_3, ty_4, ty_9, notIf, isEq]
    simp only [runB, finC, finD, Option.isSome_some, Option.isSome_none, ↓reduceIte, Nat.reduceEqDiff, Nat.reduceAdd, Nat.reduceMul, forall_eq_or_imp, forall_eq, implies_true, Nat.reduceBEq, reduceCtorEq, false_implies, List.zip_cons_cons, List.zip_nil_left, List.zip_nil_right, Nat.reduceLeDiff, List.forall_mem_nil, rs_64]
  · cases hr
def oddIdx (l : List (List UInt8)) : Int := match l.findIdx? (fun s => s.length != 8) with | some i => (i : Int) | none => -1
theorem oddIdx_some {l : List (List UInt8)} {i : Nat} (hi : i < l.length) (h : (l.getD i []).length ≠ 8) (hb : ∀ k, k < i → (l.getD k []).length = 8) : oddIdx l = (i : Int) := by
  have : l.findIdx? (fun s => s.length != 8) = some i := by
    rw [List.findIdx?_eq_some_iff_getElem]
    refine ⟨hi, ?_, fun j hj => ?_⟩
    · rw [List.getD, List.getElem?_eq_getElem hi] at h
      simpa using h
    · have := hb j hj
      rw [List.getD, List.getElem?_eq_getElem (by omega)] at this
      simpa using this
  unfold oddIdx
  rw [this]
theorem oddIdx_none {l : List (List UInt8)} (h : all8 l) : oddIdx l = -1 := by
  have : l.findIdx? (fun s => s.length != 8) = none := by
    rw [List.findIdx?_eq_none_iff]
    intro x hx
    simp [h x hx]
  unfold oddIdx
  rw [this]
theorem all8_of {l : List (List UInt8)} (h : ∀ k, k < l.length → (l.getD k []).length = 8) : all8 l := fun p hp => by
  obtain ⟨k, hk, rfl⟩ := List.getElem_of_mem hp
  have := h k hk
  rw [List.getD, List.getElem?_eq_getElem hk] at this
  exact this
theorem oddIdx_ge (l : List (List UInt8)) : decide (oddIdx l ≥ 0) = !decide (all8 l) := by
  by_cases h : all8 l
  · rw [oddIdx_none h, decide_eq_true h]; rfl
  · rw [decide_eq_false h]
    have : ∃ i, l.findIdx? (fun s => s.length != 8) = some i := by
      cases hf : l.findIdx? (fun s => s.length != 8) with
      | some i => exact ⟨i, rfl⟩
      | none =>
        rw [List.findIdx?_eq_none_iff] at hf
        exact absurd (fun p hp => by simpa using hf p hp) h
    obtain ⟨i, hi⟩ := this
    unfold oddIdx
    rw [hi]
    simp
noncomputable def idxFC : Contract := mkC (α := List (List UInt8)) (fun l => l.length ≤ 9223372036854775807) (fun l => [.c (.sl (texts l)), .clo 64 []]) (fun _ => []) (fun l => ⟨[.pv (.c (.int .i64 (oddIdx l)))], []⟩)
theorem idxF_at (l : List (List UInt8)) (h : l.length ≤ 9223372036854775807) : idxFC [.c (.sl (texts l)), .clo 64 []] [] = some ⟨[.pv (.c (.int .i64 (oddIdx l)))], []⟩ :=
  mkC_at (α := List (List UInt8)) l h (by
    rintro y _ h _
    simp only [List.cons.injEq, AV.c.injEq, PC.sl.injEq, true_and, and_true] at h
    rw [texts_inj h])
set_option maxHeartbeats 1000000 in
theorem idxF_sound (hΓ : SoundG Try.prog Γ) (h1 : Γ 64 = oddC) : SoundC Try.prog 108 idxFC := by
  refine sound_fn Try.func108 (by kernel_rfl) rfl rfl ?_
  intro args objs r hr
  obtain ⟨l, hl, rfl, rfl, rfl⟩ := mkC_inv hr
  have hl : l.length ≤ 9223372036854775807 := hl
  refine ⟨rfl, by show 2 ≤ _; decide, fun E hN hns hF => ?_⟩
  refine vc_sound hΓ mixed _ _ _ ?_
  have hN := hN.trans nt_108
  simp only [runA, runB, runC, runD, runE, runF, fieldE, storeE, binE, ↓reduceIte, Nat.reduceLT, Nat.reduceLeDiff, Nat.reduceEqDiff, Nat.reduceAdd, Nat.reduceMul, Nat.reduceSub, reduceCtorEq, putAt, unE, Nat.reduceBEq, convE, buildE, List.replicate, Int.reduceLT, Int.reduceLE, Int.reduceToNat, mkE, mapSetE, hN, hF, ty_3, ty_9, ty_22, notIf, isEq, texts_length]
  refine AWP.loop (fun k st => ∃ i : Nat, (i ≤ l.length ∧ ∀ k, k < i → (l.getD k []).length = 8) ∧ k = l.length - i ∧ st = ⟨[(0, .c (.sl (texts l))), (1, .clo 64 []), (7, .c (.int .i64 (l.length : Int))), (8, .c (.int .i64 (i : Int)))], []⟩) ⟨l.length, _, ?w, 0, ⟨Nat.zero_le _, fun k hk => absurd hk (Nat.not_lt_zero k)⟩, rfl, rfl⟩ ?r
  case w =>
    rw [hns]
    simp only [runB, finC, finD, AS.get, AS.mem, false_implies, implies_true, ↓reduceIte, Nat.reduceEqDiff, Option.isSome_some, Option.isSome_none, forall_eq_or_imp, forall_eq, reduceCtorEq, Nat.reduceAdd, Nat.reduceMul, List.zip_cons_cons, List.zip_nil_left, List.zip_nil_right, List.forall_mem_nil]
    first | done | simp
  case r =>
    rintro k st ⟨i, ⟨hi, h8⟩, rfl, rfl⟩
    refine vc_sound hΓ mixed _ _ _ ?_
    by_cases hlt : i < l.length
    · have k1 : decide ((i : Int) < (l.length : Int)) = true := by simpa using hlt
      have e1 : IntKind.i64.wrap ((i : Int) + 1) = (i : Int) + 1 := wrapI (by omega)
      have hg := textsD l i hlt
      by_cases hp8 : (l.getD i []).length = 8
      · have k2 : (((l.getD i []).length : Int) != 8) = false := ne8f hp8
        have h8' : ∀ k, k < i + 1 → (l.getD k []).length = 8 := fun k hk => by
          by_cases e : k = i
          · rw [e]; exact hp8
          · exact h8 k (by omega)
        generalize l.getD i [] = q at hg k2
        simp only [runA, runB, runC, runD, runE, runF, fieldE, storeE, binE, ↓reduceIte, Nat.reduceLT, Nat.reduceLeDiff, Nat.reduceEqDiff, Nat.reduceAdd, Nat.reduceMul, Nat.reduceSub, reduceCtorEq, putAt, unE, Nat.reduceBEq, convE, buildE, List.replicate, Int.reduceLT, Int.reduceLE, Int.reduceToNat, mkE, mapSetE, hN, hF, ty_3, ty_9, ty_22, notIf, isEq, k1, k2, e1, hg, h1, oddC]
        refine ⟨l.length - (i + 1), _, by omega, ?_, i + 1, ⟨by omega, h8'⟩, rfl, rfl⟩
        rw [hns]
        simp only [runB, finC, finD, AS.get, AS.mem, false_implies, implies_true, ↓reduceIte, Nat.reduceEqDiff, Option.isSome_some, Option.isSome_none, forall_eq_or_imp, forall_eq, reduceCtorEq, Nat.reduceAdd, Nat.reduceMul, List.zip_cons_cons, List.zip_nil_left, List.zip_nil_right, List.forall_mem_nil]
        first | done | simp
      · have k2 : (((l.getD i []).length : Int) != 8) = true := ne8t hp8
        have hS := oddIdx_some hlt hp8 h8
        generalize l.getD i [] = q at hg k2
        simp only [runA, runB, runC, runD, runE, runF, fieldE, storeE, binE, ↓reduceIte, Nat.reduceLT, Nat.reduceLeDiff, Nat.reduceEqDiff, Nat.reduceAdd, Nat.reduceMul, Nat.reduceSub, reduceCtorEq, putAt, unE, Nat.reduceBEq, convE, buildE, List.replicate, Int.reduceLT, Int.reduceLE, Int.reduceToNat, mkE, mapSetE, hN, hF, ty_3, ty_9, ty_22, notIf, isEq, k1, k2, e1, hg, h1, oddC]
        simp only [runB, finC, finD, Option.isSome_some, Option.isSome_none, ↓reduceIte, Nat.reduceEqDiff, Nat.reduceAdd, Nat.reduceMul, forall_eq_or_imp, forall_eq, implies_true, Nat.reduceBEq, reduceCtorEq, false_implies, List.zip_cons_cons, List.zip_nil_left, List.zip_nil_right, Nat.reduceLeDiff, List.forall_mem_nil, rs_108, hS]
    · have k1 : decide ((i : Int) < (l.length : Int)) = false := by simpa using hlt
      obtain rfl : i = l.length := by omega
      have hS := oddIdx_none (all8_of h8)
      simp only [runA, runB, runC, runD, runE, runF, fieldE, storeE, binE, ↓reduceIte, Nat.reduceLT, Nat.reduceLeDiff, Nat.reduceEqDiff, Nat.reduceAdd, Nat.reduceMul, Nat.reduceSub, reduceCtorEq, putAt, unE, Nat.reduceBEq, convE, buildE, List.replicate, Int.reduceLT, Int.reduceLE, Int.reduceToNat, mkE, mapSetE, hN, hF, ty_3, ty_9, ty_22, notIf, isEq, k1]
      simp only [runB, finC, finD, Option.isSome_some, Option.isSome_none, ↓reduceIte, Nat.reduceEqDiff, Nat.reduceAdd, Nat.reduceMul, forall_eq_or_imp, forall_eq, implies_true, Nat.reduceBEq, reduceCtorEq, false_implies, List.zip_cons_cons, List.zip_nil_left, List.zip_nil_right, Nat.reduceLeDiff, List.forall_mem_nil, rs_108, hS]

noncomputable def conFC : Contract := mkC (α := List (List UInt8)) (fun l => l.length ≤ 9223372036854775807) (fun l => [.c (.sl (texts l)), .clo 64 []]) (fun _ => []) (fun l => ⟨[.pv (.c (.bool (!decide (all8 l))))], []⟩)
theorem conF_at (l : List (List UInt8)) (h : l.length ≤ 9223372036854775807) : conFC [.c (.sl (texts l)), .clo 64 []] [] = some ⟨[.pv (.c (.bool (!decide (all8 l))))], []⟩ :=
  mkC_at (α := List (List UInt8)) l h (by
    rintro y _ h _
    simp only [List.cons.injEq, AV.c.injEq, PC.sl.injEq, true_and, and_true] at h
    rw [texts_inj h])
set_option maxHeartbeats 1000000 in
theorem conF_sound (hΓ : SoundG Try.prog Γ) (h1 : Γ 108 = idxFC) : SoundC Try.prog 65 conFC := by
  refine sound_fn Try.func65 (by kernel_rfl) rfl rfl ?_
  intro args objs r hr
  obtain ⟨l, hl, rfl, rfl, rfl⟩ := mkC_inv hr
  refine ⟨rfl, by show 2 ≤ _; decide, fun E hN hns hF => ?_⟩
  refine vc_sound hΓ mixed _ _ _ ?_
  have hN := hN.trans nt_65
  have h2 := idxF_at l hl
  have h3 := oddIdx_ge l
  simp only [runA, runB, runC, runD, runE, runF, fieldE, storeE, binE, ↓reduceIte, Nat.reduceLT, Nat.reduceLeDiff, Nat.reduceEqDiff, Nat.reduceAdd, Nat.reduceMul, Nat.reduceSub, reduceCtorEq, putAt, unE, Nat.reduceBEq, convE, buildE, List.replicate, Int.reduceLT, Int.reduceLE, Int.reduceToNat, mkE, mapSetE, hN, hF, ty_3, ty_4, ty_9, ty_22, notIf, isEq, h1, h2, h3]
  simp only [runB, finC, finD, Option.isSome_some, Option.isSome_none, ↓reduceIte, Nat.reduceEqDiff, Nat.reduceAdd, Nat.reduceMul, forall_eq_or_imp, forall_eq, implies_true, Nat.reduceBEq, reduceCtorEq, false_implies, List.zip_cons_cons, List.zip_nil_left, List.zip_nil_right, Nat.reduceLeDiff, List.forall_mem_nil, rs_65]

theorem and_p16 (n : Nat) (h1 : 1 ≤ n) (h : n ≤ 16) : (IntKind.i64.wrap (((BitVec.ofInt IntKind.i64.bits (n : Int) &&& BitVec.ofInt IntKind.i64.bits ((n - 1 : Nat) : Int)).toNat : Nat) : Int) != 0) = !decide (okN16 n) := by
  have : n = 1 ∨ n = 2 ∨ n = 3 ∨ n = 4 ∨ n = 5 ∨ n = 6 ∨ n = 7 ∨ n = 8 ∨ n = 9 ∨ n = 10 ∨ n = 11 ∨ n = 12 ∨ n = 13 ∨ n = 14 ∨ n = 15 ∨ n = 16 := by omega
  rcases this with rfl | rfl | rfl | rfl | rfl | rfl | rfl | rfl | rfl | rfl | rfl | rfl | rfl | rfl | rfl | rfl <;> rfl

noncomputable def keyC : Contract := mkC (α := Ky) (fun k => k.leaves.length ≤ 9223372036854775807) (fun k => [k.av]) (fun _ => []) (fun k => ⟨[.pv (.c (.int .i64 (keyS k)))], []⟩)
theorem key_at (k : Ky) (h : k.leaves.length ≤ 9223372036854775807) : keyC [.agg [.c (.str k.seed), .c (.sl (texts k.leaves)), .c (.int .i64 k.next)]] [] = some ⟨[.pv (.c (.int .i64 (keyS k)))], []⟩ :=
  mkC_at (α := Ky) k h (by
    rintro y _ h _
    have h' : [y.av] = [k.av] := h
    have e : y = k := Ky.av_inj (by simpa using h')
    rw [e])

set_option maxRecDepth 100000 in
set_option maxHeartbeats 4000000 in
theorem key_sound (hΓ : SoundG Try.prog Γ) (h1 : Γ 65 = conFC) : SoundC Try.prog 19 keyC := by
  refine sound_fn Try.func19 (by kernel_rfl) rfl rfl ?_
  intro args objs r hr
  obtain ⟨⟨seed, leaves, next⟩, hl, rfl, rfl, rfl⟩ := mkC_inv hr
  have hl : leaves.length ≤ 9223372036854775807 := hl
  refine ⟨rfl, by show 1 ≤ _; decide, fun E hN hns hF => ?_⟩
  refine vc_sound hΓ mixed _ _ _ ?_
  have hN := hN.trans nt_19
  have hc := conF_at leaves hl
  have hB : ∀ b, keyS ⟨seed, leaves, next⟩ = b → True := fun _ _ => trivial
  unfold Ky.av
  by_cases hca : seed.length ≤ 64
  case neg =>
    have ga : decide ((seed.length : Int) > 64) = true := by simp; omega
    have hS : keyS ⟨seed, leaves, next⟩ = 9 := if_neg (by rintro ⟨a1, a2, a3, a4, a5⟩; exact hca a1)
    simp only [runA, runB, runC, runD, runE, runF, fieldE, storeE, binE, ↓reduceIte, Nat.reduceLT, Nat.reduceLeDiff, Nat.reduceEqDiff, Nat.reduceAdd, Nat.reduceMul, Nat.reduceSub, reduceCtorEq, putAt, unE, Nat.reduceBEq, convE, buildE, List.replicate, Int.reduceLT, Int.reduceLE, Int.reduceToNat, mkE, mapSetE, hN, hF, ty_3, ty_9, ty_22, ty_24, ty_27, notIf, isEq, texts_length, ga]
    simp only [runB, finC, finD, Option.isSome_some, Option.isSome_none, ↓reduceIte, Nat.reduceEqDiff, Nat.reduceAdd, Nat.reduceMul, forall_eq_or_imp, forall_eq, implies_true, Nat.reduceBEq, reduceCtorEq, false_implies, List.zip_cons_cons, List.zip_nil_left, List.zip_nil_right, Nat.reduceLeDiff, List.forall_mem_nil, rs_19, hS]
  have ga : decide ((seed.length : Int) > 64) = false := by simp; omega
  by_cases hcb : leaves.length = 0
  case pos =>
    have gb : ((leaves.length : Int) == 0) = true := by rw [hcb]; rfl
    have hS : keyS ⟨seed, leaves, next⟩ = 9 := if_neg (by rintro ⟨a1, a2, a3, a4, a5⟩; rw [show leaves.length = 0 from hcb] at a2; exact absurd a2 (by decide))
    simp only [runA, runB, runC, runD, runE, runF, fieldE, storeE, binE, ↓reduceIte, Nat.reduceLT, Nat.reduceLeDiff, Nat.reduceEqDiff, Nat.reduceAdd, Nat.reduceMul, Nat.reduceSub, reduceCtorEq, putAt, unE, Nat.reduceBEq, convE, buildE, List.replicate, Int.reduceLT, Int.reduceLE, Int.reduceToNat, mkE, mapSetE, hN, hF, ty_3, ty_9, ty_22, ty_24, ty_27, notIf, isEq, texts_length, ga, gb]
    simp only [runB, finC, finD, Option.isSome_some, Option.isSome_none, ↓reduceIte, Nat.reduceEqDiff, Nat.reduceAdd, Nat.reduceMul, forall_eq_or_imp, forall_eq, implies_true, Nat.reduceBEq, reduceCtorEq, false_implies, List.zip_cons_cons, List.zip_nil_left, List.zip_nil_right, Nat.reduceLeDiff, List.forall_mem_nil, rs_19, hS]
  have gb : ((leaves.length : Int) == 0) = false := by rw [beq_eq_false_iff_ne]; omega
  by_cases hcc : leaves.length ≤ 16
  case neg =>
    have gc : decide ((leaves.length : Int) > 16) = true := by simp; omega
    have hS : keyS ⟨seed, leaves, next⟩ = 9 := if_neg (by rintro ⟨a1, a2, a3, a4, a5⟩; exact hcc (by unfold okN16 at a2; dsimp only at a2; omega))
    simp only [runA, runB, runC, runD, runE, runF, fieldE, storeE, binE, ↓reduceIte, Nat.reduceLT, Nat.reduceLeDiff, Nat.reduceEqDiff, Nat.reduceAdd, Nat.reduceMul, Nat.reduceSub, reduceCtorEq, putAt, unE, Nat.reduceBEq, convE, buildE, List.replicate, Int.reduceLT, Int.reduceLE, Int.reduceToNat, mkE, mapSetE, hN, hF, ty_3, ty_9, ty_22, ty_24, ty_27, notIf, isEq, texts_length, ga, gb, gc]
    simp only [runB, finC, finD, Option.isSome_some, Option.isSome_none, ↓reduceIte, Nat.reduceEqDiff, Nat.reduceAdd, Nat.reduceMul, forall_eq_or_imp, forall_eq, implies_true, Nat.reduceBEq, reduceCtorEq, false_implies, List.zip_cons_cons, List.zip_nil_left, List.zip_nil_right, Nat.reduceLeDiff, List.forall_mem_nil, rs_19, hS]
  have gc : decide ((leaves.length : Int) > 16) = false := by simp; omega
  have ew : IntKind.i64.wrap ((leaves.length : Int) - 1) = ((leaves.length - 1 : Nat) : Int) := by rw [wrapI (by omega)]; omega
  have hap := and_p16 leaves.length (by omega) hcc
  by_cases hcd : okN16 leaves.length
  case neg =>
    rw [decide_eq_false hcd] at hap
    have gd : (!false) = true := rfl
    rw [gd] at hap
    have hS : keyS ⟨seed, leaves, next⟩ = 9 := if_neg (by rintro ⟨a1, a2, a3, a4, a5⟩; exact hcd a2)
    simp only [runA, runB, runC, runD, runE, runF, fieldE, storeE, binE, ↓reduceIte, Nat.reduceLT, Nat.reduceLeDiff, Nat.reduceEqDiff, Nat.reduceAdd, Nat.reduceMul, Nat.reduceSub, reduceCtorEq, putAt, unE, Nat.reduceBEq, convE, buildE, List.replicate, Int.reduceLT, Int.reduceLE, Int.reduceToNat, mkE, mapSetE, hN, hF, ty_3, ty_9, ty_22, ty_24, ty_27, notIf, isEq, texts_length, ga, gb, gc, ew, hap]
    simp only [runB, finC, finD, Option.isSome_some, Option.isSome_none, ↓reduceIte, Nat.reduceEqDiff, Nat.reduceAdd, Nat.reduceMul, forall_eq_or_imp, forall_eq, implies_true, Nat.reduceBEq, reduceCtorEq, false_implies, List.zip_cons_cons, List.zip_nil_left, List.zip_nil_right, Nat.reduceLeDiff, List.forall_mem_nil, rs_19, hS]
  rw [decide_eq_true hcd] at hap
  have gd : (!true) = false := rfl
  rw [gd] at hap
  by_cases hce : all8 leaves
  case neg =>
    rw [decide_eq_false hce] at hc
    have ge : (!false) = true := rfl
    rw [ge] at hc
    have hS : keyS ⟨seed, leaves, next⟩ = 9 := if_neg (by rintro ⟨a1, a2, a3, a4, a5⟩; exact hce a3)
    simp only [runA, runB, runC, runD, runE, runF, fieldE, storeE, binE, ↓reduceIte, Nat.reduceLT, Nat.reduceLeDiff, Nat.reduceEqDiff, Nat.reduceAdd, Nat.reduceMul, Nat.reduceSub, reduceCtorEq, putAt, unE, Nat.reduceBEq, convE, buildE, List.replicate, Int.reduceLT, Int.reduceLE, Int.reduceToNat, mkE, mapSetE, hN, hF, ty_3, ty_9, ty_22, ty_24, ty_27, notIf, isEq, texts_length, ga, gb, gc, ew, hap, h1, hc]
    simp only [runB, finC, finD, Option.isSome_some, Option.isSome_none, ↓reduceIte, Nat.reduceEqDiff, Nat.reduceAdd, Nat.reduceMul, forall_eq_or_imp, forall_eq, implies_true, Nat.reduceBEq, reduceCtorEq, false_implies, List.zip_cons_cons, List.zip_nil_left, List.zip_nil_right, Nat.reduceLeDiff, List.forall_mem_nil, rs_19, hS]
  rw [decide_eq_true hce] at hc
  have ge : (!true) = false := rfl
  rw [ge] at hc
  by_cases hcf : 0 ≤ next
  case neg =>
    have gf : decide (next < 0) = true := by simp; omega
    have hS : keyS ⟨seed, leaves, next⟩ = 9 := if_neg (by rintro ⟨a1, a2, a3, a4, a5⟩; exact hcf a4)
    simp only [runA, runB, runC, runD, runE, runF, fieldE, storeE, binE, ↓reduceIte, Nat.reduceLT, Nat.reduceLeDiff, Nat.reduceEqDiff, Nat.reduceAdd, Nat.reduceMul, Nat.reduceSub, reduceCtorEq, putAt, unE, Nat.reduceBEq, convE, buildE, List.replicate, Int.reduceLT, Int.reduceLE, Int.reduceToNat, mkE, mapSetE, hN, hF, ty_3, ty_9, ty_22, ty_24, ty_27, notIf, isEq, texts_length, ga, gb, gc, ew, hap, h1, hc, gf]
    simp only [runB, finC, finD, Option.isSome_some, Option.isSome_none, ↓reduceIte, Nat.reduceEqDiff, Nat.reduceAdd, Nat.reduceMul, forall_eq_or_imp, forall_eq, implies_true, Nat.reduceBEq, reduceCtorEq, false_implies, List.zip_cons_cons, List.zip_nil_left, List.zip_nil_right, Nat.reduceLeDiff, List.forall_mem_nil, rs_19, hS]
  have gf : decide (next < 0) = false := by simp; omega
  by_cases hcg : next ≤ (leaves.length : Int)
  case neg =>
    have gg : decide (next > (leaves.length : Int)) = true := by simp; omega
    have hS : keyS ⟨seed, leaves, next⟩ = 9 := if_neg (by rintro ⟨a1, a2, a3, a4, a5⟩; exact hcg a5)
    simp only [runA, runB, runC, runD, runE, runF, fieldE, storeE, binE, ↓reduceIte, Nat.reduceLT, Nat.reduceLeDiff, Nat.reduceEqDiff, Nat.reduceAdd, Nat.reduceMul, Nat.reduceSub, reduceCtorEq, putAt, unE, Nat.reduceBEq, convE, buildE, List.replicate, Int.reduceLT, Int.reduceLE, Int.reduceToNat, mkE, mapSetE, hN, hF, ty_3, ty_9, ty_22, ty_24, ty_27, notIf, isEq, texts_length, ga, gb, gc, ew, hap, h1, hc, gf, gg]
    simp only [runB, finC, finD, Option.isSome_some, Option.isSome_none, ↓reduceIte, Nat.reduceEqDiff, Nat.reduceAdd, Nat.reduceMul, forall_eq_or_imp, forall_eq, implies_true, Nat.reduceBEq, reduceCtorEq, false_implies, List.zip_cons_cons, List.zip_nil_left, List.zip_nil_right, Nat.reduceLeDiff, List.forall_mem_nil, rs_19, hS]
  have gg : decide (next > (leaves.length : Int)) = false := by simp; omega
  have hS : keyS ⟨seed, leaves, next⟩ = 0 := if_pos ⟨hca, hcd, hce, hcf, hcg⟩
  simp only [runA, runB, runC, runD, runE, runF, fieldE, storeE, binE, ↓reduceIte, Nat.reduceLT, Nat.reduceLeDiff, Nat.reduceEqDiff, Nat.reduceAdd, Nat.reduceMul, Nat.reduceSub, reduceCtorEq, putAt, unE, Nat.reduceBEq, convE, buildE, List.replicate, Int.reduceLT, Int.reduceLE, Int.reduceToNat, mkE, mapSetE, hN, hF, ty_3, ty_9, ty_22, ty_24, ty_27, notIf, isEq, texts_length, ga, gb, gc, ew, hap, h1, hc, gf, gg]
  simp only [runB, finC, finD, Option.isSome_some, Option.isSome_none, ↓reduceIte, Nat.reduceEqDiff, Nat.reduceAdd, Nat.reduceMul, forall_eq_or_imp, forall_eq, implies_true, Nat.reduceBEq, reduceCtorEq, false_implies, List.zip_cons_cons, List.zip_nil_left, List.zip_nil_right, Nat.reduceLeDiff, List.forall_mem_nil, rs_19, hS]


variable {Γ : FuncId → Contract}

set_option maxRecDepth 100000 in
set_option maxHeartbeats 4000000 in
theorem refKey_sound (hΓ : SoundG Try.prog Γ) : SoundC Try.prog 20 keyC := by
  refine sound_fn Try.func20 (by kernel_rfl) rfl rfl ?_
  intro args objs r hr
  obtain ⟨⟨seed, leaves, next⟩, hl, rfl, rfl, rfl⟩ := mkC_inv hr
  have hl : leaves.length ≤ 9223372036854775807 := hl
  refine ⟨rfl, by show 1 ≤ _; decide, fun E hN hns hF => ?_⟩
  refine vc_sound hΓ mixed _ _ _ ?_
  have hN := hN.trans nt_20
  unfold Ky.av
  by_cases hca : seed.length ≤ 64
  case neg =>
    have ga : decide ((seed.length : Int) > 64) = true := by simp; omega
    have hS : keyS ⟨seed, leaves, next⟩ = 9 := if_neg (by rintro ⟨a1, a2, a3, a4, a5⟩; exact hca a1)
    simp only [runA, runB, runC, runD, runE, runF, fieldE, storeE, binE, ↓reduceIte, Nat.reduceLT, Nat.reduceLeDiff, Nat.reduceEqDiff, Nat.reduceAdd, Nat.reduceMul, Nat.reduceSub, reduceCtorEq, putAt, unE, Nat.reduceBEq, convE, buildE, List.replicate, Int.reduceLT, Int.reduceLE, Int.reduceToNat, mkE, mapSetE, hN, hF, ty_3, ty_9, ty_22, ty_24, notIf, isEq, texts_length, ga]
    simp only [runB, finC, finD, Option.isSome_some, Option.isSome_none, ↓reduceIte, Nat.reduceEqDiff, Nat.reduceAdd, Nat.reduceMul, forall_eq_or_imp, forall_eq, implies_true, Nat.reduceBEq, reduceCtorEq, false_implies, List.zip_cons_cons, List.zip_nil_left, List.zip_nil_right, Nat.reduceLeDiff, List.forall_mem_nil, rs_20, hS]
  have ga : decide ((seed.length : Int) > 64) = false := by simp; omega
  by_cases hcd : okN16 leaves.length
  case neg =>
    have n1 : ((leaves.length : Int) != 1) = true := by rw [bne_iff_ne]; unfold okN16 at hcd; omega
    have n2 : ((leaves.length : Int) != 2) = true := by rw [bne_iff_ne]; unfold okN16 at hcd; omega
    have n3 : ((leaves.length : Int) != 4) = true := by rw [bne_iff_ne]; unfold okN16 at hcd; omega
    have n4 : ((leaves.length : Int) != 8) = true := by rw [bne_iff_ne]; unfold okN16 at hcd; omega
    have n5 : ((leaves.length : Int) != 16) = true := by rw [bne_iff_ne]; unfold okN16 at hcd; omega
    have hS : keyS ⟨seed, leaves, next⟩ = 9 := if_neg (by rintro ⟨a1, a2, a3, a4, a5⟩; exact hcd a2)
    simp only [runA, runB, runC, runD, runE, runF, fieldE, storeE, binE, ↓reduceIte, Nat.reduceLT, Nat.reduceLeDiff, Nat.reduceEqDiff, Nat.reduceAdd, Nat.reduceMul, Nat.reduceSub, reduceCtorEq, putAt, unE, Nat.reduceBEq, convE, buildE, List.replicate, Int.reduceLT, Int.reduceLE, Int.reduceToNat, mkE, mapSetE, hN, hF, ty_3, ty_9, ty_22, ty_24, notIf, isEq, texts_length, ga, n1, n2, n3, n4, n5]
    simp only [runB, finC, finD, Option.isSome_some, Option.isSome_none, ↓reduceIte, Nat.reduceEqDiff, Nat.reduceAdd, Nat.reduceMul, forall_eq_or_imp, forall_eq, implies_true, Nat.reduceBEq, reduceCtorEq, false_implies, List.zip_cons_cons, List.zip_nil_left, List.zip_nil_right, Nat.reduceLeDiff, List.forall_mem_nil, rs_20, hS]
  have hle : leaves.length ≤ 16 := by unfold okN16 at hcd; omega
  have hcd0 := hcd
  by_cases hcf : 0 ≤ next
  case neg =>
    have gf : decide (next < 0) = true := by simp; omega
    have hS : keyS ⟨seed, leaves, next⟩ = 9 := if_neg (by rintro ⟨a1, a2, a3, a4, a5⟩; exact hcf a4)
    rcases hcd with h | h | h | h | h
    · have n1 : ((leaves.length : Int) != 1) = false := by rw [h]; rfl
      have n2 : ((leaves.length : Int) != 2) = true := by rw [h]; rfl
      have n3 : ((leaves.length : Int) != 4) = true := by rw [h]; rfl
      have n4 : ((leaves.length : Int) != 8) = true := by rw [h]; rfl
      have n5 : ((leaves.length : Int) != 16) = true := by rw [h]; rfl
      simp only [runA, runB, runC, runD, runE, runF, fieldE, storeE, binE, ↓reduceIte, Nat.reduceLT, Nat.reduceLeDiff, Nat.reduceEqDiff, Nat.reduceAdd, Nat.reduceMul, Nat.reduceSub, reduceCtorEq, putAt, unE, Nat.reduceBEq, convE, buildE, List.replicate, Int.reduceLT, Int.reduceLE, Int.reduceToNat, mkE, mapSetE, hN, hF, ty_3, ty_9, ty_22, ty_24, notIf, isEq, texts_length, ga, n1, n2, n3, n4, n5, gf]
      simp only [runB, finC, finD, Option.isSome_some, Option.isSome_none, ↓reduceIte, Nat.reduceEqDiff, Nat.reduceAdd, Nat.reduceMul, forall_eq_or_imp, forall_eq, implies_true, Nat.reduceBEq, reduceCtorEq, false_implies, List.zip_cons_cons, List.zip_nil_left, List.zip_nil_right, Nat.reduceLeDiff, List.forall_mem_nil, rs_20, hS]
    · have n1 : ((leaves.length : Int) != 1) = true := by rw [h]; rfl
      have n2 : ((leaves.length : Int) != 2) = false := by rw [h]; rfl
      have n3 : ((leaves.length : Int) != 4) = true := by rw [h]; rfl
      have n4 : ((leaves.length : Int) != 8) = true := by rw [h]; rfl
      have n5 : ((leaves.length : Int) != 16) = true := by rw [h]; rfl
      simp only [runA, runB, runC, runD, runE, runF, fieldE, storeE, binE, ↓reduceIte, Nat.reduceLT, Nat.reduceLeDiff, Nat.reduceEqDiff, Nat.reduceAdd, Nat.reduceMul, Nat.reduceSub, reduceCtorEq, putAt, unE, Nat.reduceBEq, convE, buildE, List.replicate, Int.reduceLT, Int.reduceLE, Int.reduceToNat, mkE, mapSetE, hN, hF, ty_3, ty_9, ty_22, ty_24, notIf, isEq, texts_length, ga, n1, n2, n3, n4, n5, gf]
      simp only [runB, finC, finD, Option.isSome_some, Option.isSome_none, ↓reduceIte, Nat.reduceEqDiff, Nat.reduceAdd, Nat.reduceMul, forall_eq_or_imp, forall_eq, implies_true, Nat.reduceBEq, reduceCtorEq, false_implies, List.zip_cons_cons, List.zip_nil_left, List.zip_nil_right, Nat.reduceLeDiff, List.forall_mem_nil, rs_20, hS]
    · have n1 : ((leaves.length : Int) != 1) = true := by rw [h]; rfl
      have n2 : ((leaves.length : Int) != 2) = true := by rw [h]; rfl
      have n3 : ((leaves.length : Int) != 4) = false := by rw [h]; rfl
      have n4 : ((leaves.length : Int) != 8) = true := by rw [h]; rfl
      have n5 : ((leaves.length : Int) != 16) = true := by rw [h]; rfl
      simp only [runA, runB, runC, runD, runE, runF, fieldE, storeE, binE, ↓reduceIte, Nat.reduceLT, Nat.reduceLeDiff, Nat.reduceEqDiff, Nat.reduceAdd, Nat.reduceMul, Nat.reduceSub, reduceCtorEq, putAt, unE, Nat.reduceBEq, convE, buildE, List.replicate, Int.reduceLT, Int.reduceLE, Int.reduceToNat, mkE, mapSetE, hN, hF, ty_3, ty_9, ty_22, ty_24, notIf, isEq, texts_length, ga, n1, n2, n3, n4, n5, gf]
      simp only [runB, finC, finD, Option.isSome_some, Option.isSome_none, ↓reduceIte, Nat.reduceEqDiff, Nat.reduceAdd, Nat.reduceMul, forall_eq_or_imp, forall_eq, implies_true, Nat.reduceBEq, reduceCtorEq, false_implies, List.zip_cons_cons, List.zip_nil_left, List.zip_nil_right, Nat.reduceLeDiff, List.forall_mem_nil, rs_20, hS]
    · have n1 : ((leaves.length : Int) != 1) = true := by rw [h]; rfl
      have n2 : ((leaves.length : Int) != 2) = true := by rw [h]; rfl
      have n3 : ((leaves.length : Int) != 4) = true := by rw [h]; rfl
      have n4 : ((leaves.length : Int) != 8) = false := by rw [h]; rfl
      have n5 : ((leaves.length : Int) != 16) = true := by rw [h]; rfl
      simp only [runA, runB, runC, runD, runE, runF, fieldE, storeE, binE, ↓reduceIte, Nat.reduceLT, Nat.reduceLeDiff, Nat.reduceEqDiff, Nat.reduceAdd, Nat.reduceMul, Nat.reduceSub, reduceCtorEq, putAt, unE, Nat.reduceBEq, convE, buildE, List.replicate, Int.reduceLT, Int.reduceLE, Int.reduceToNat, mkE, mapSetE, hN, hF, ty_3, ty_9, ty_22, ty_24, notIf, isEq, texts_length, ga, n1, n2, n3, n4, n5, gf]
      simp only [runB, finC, finD, Option.isSome_some, Option.isSome_none, ↓reduceIte, Nat.reduceEqDiff, Nat.reduceAdd, Nat.reduceMul, forall_eq_or_imp, forall_eq, implies_true, Nat.reduceBEq, reduceCtorEq, false_implies, List.zip_cons_cons, List.zip_nil_left, List.zip_nil_right, Nat.reduceLeDiff, List.forall_mem_nil, rs_20, hS]
    · have n1 : ((leaves.length : Int) != 1) = true := by rw [h]; rfl
      have n2 : ((leaves.length : Int) != 2) = true := by rw [h]; rfl
      have n3 : ((leaves.length : Int) != 4) = true := by rw [h]; rfl
      have n4 : ((leaves.length : Int) != 8) = true := by rw [h]; rfl
      have n5 : ((leaves.length : Int) != 16) = false := by rw [h]; rfl
      simp only [runA, runB, runC, runD, runE, runF, fieldE, storeE, binE, ↓reduceIte, Nat.reduceLT, Nat.reduceLeDiff, Nat.reduceEqDiff, Nat.reduceAdd, Nat.reduceMul, Nat.reduceSub, reduceCtorEq, putAt, unE, Nat.reduceBEq, convE, buildE, List.replicate, Int.reduceLT, Int.reduceLE, Int.reduceToNat, mkE, mapSetE, hN, hF, ty_3, ty_9, ty_22, ty_24, notIf, isEq, texts_length, ga, n1, n2, n3, n4, n5, gf]
      simp only [runB, finC, finD, Option.isSome_some, Option.isSome_none, ↓reduceIte, Nat.reduceEqDiff, Nat.reduceAdd, Nat.reduceMul, forall_eq_or_imp, forall_eq, implies_true, Nat.reduceBEq, reduceCtorEq, false_implies, List.zip_cons_cons, List.zip_nil_left, List.zip_nil_right, Nat.reduceLeDiff, List.forall_mem_nil, rs_20, hS]
  have gf : decide (next < 0) = false := by simp; omega
  by_cases hcg : next ≤ (leaves.length : Int)
  case neg =>
    have gg : decide (next > (leaves.length : Int)) = true := by simp; omega
    have hS : keyS ⟨seed, leaves, next⟩ = 9 := if_neg (by rintro ⟨a1, a2, a3, a4, a5⟩; exact hcg a5)
    rcases hcd with h | h | h | h | h
    · have n1 : ((leaves.length : Int) != 1) = false := by rw [h]; rfl
      have n2 : ((leaves.length : Int) != 2) = true := by rw [h]; rfl
      have n3 : ((leaves.length : Int) != 4) = true := by rw [h]; rfl
      have n4 : ((leaves.length : Int) != 8) = true := by rw [h]; rfl
      have n5 : ((leaves.length : Int) != 16) = true := by rw [h]; rfl
      simp only [runA, runB, runC, runD, runE, runF, fieldE, storeE, binE, ↓reduceIte, Nat.reduceLT, Nat.reduceLeDiff, Nat.reduceEqDiff, Nat.reduceAdd, Nat.reduceMul, Nat.reduceSub, reduceCtorEq, putAt, unE, Nat.reduceBEq, convE, buildE, List.replicate, Int.reduceLT, Int.reduceLE, Int.reduceToNat, mkE, mapSetE, hN, hF, ty_3, ty_9, ty_22, ty_24, notIf, isEq, texts_length, ga, n1, n2, n3, n4, n5, gf, gg]
      simp only [runB, finC, finD, Option.isSome_some, Option.isSome_none, ↓reduceIte, Nat.reduceEqDiff, Nat.reduceAdd, Nat.reduceMul, forall_eq_or_imp, forall_eq, implies_true, Nat.reduceBEq, reduceCtorEq, false_implies, List.zip_cons_cons, List.zip_nil_left, List.zip_nil_right, Nat.reduceLeDiff, List.forall_mem_nil, rs_20, hS]
    · have n1 : ((leaves.length : Int) != 1) = true := by rw [h]; rfl
      have n2 : ((leaves.length : Int) != 2) = false := by rw [h]; rfl
      have n3 : ((leaves.length : Int) != 4) = true := by rw [h]; rfl
      have n4 : ((leaves.length : Int) != 8) = true := by rw [h]; rfl
      have n5 : ((leaves.length : Int) != 16) = true := by rw [h]; rfl
      simp only [runA, runB, runC, runD, runE, runF, fieldE, storeE, binE, ↓reduceIte, Nat.reduceLT, Nat.reduceLeDiff, Nat.reduceEqDiff, Nat.reduceAdd, Nat.reduceMul, Nat.reduceSub, reduceCtorEq, putAt, unE, Nat.reduceBEq, convE, buildE, List.replicate, Int.reduceLT, Int.reduceLE, Int.reduceToNat, mkE, mapSetE, hN, hF, ty_3, ty_9, ty_22, ty_24, notIf, isEq, texts_length, ga, n1, n2, n3, n4, n5, gf, gg]
      simp only [runB, finC, finD, Option.isSome_some, Option.isSome_none, ↓reduceIte, Nat.reduceEqDiff, Nat.reduceAdd, Nat.reduceMul, forall_eq_or_imp, forall_eq, implies_true, Nat.reduceBEq, reduceCtorEq, false_implies, List.zip_cons_cons, List.zip_nil_left, List.zip_nil_right, Nat.reduceLeDiff, List.forall_mem_nil, rs_20, hS]
    · have n1 : ((leaves.length : Int) != 1) = true := by rw [h]; rfl
      have n2 : ((leaves.length : Int) != 2) = true := by rw [h]; rfl
      have n3 : ((leaves.length : Int) != 4) = false := by rw [h]; rfl
      have n4 : ((leaves.length : Int) != 8) = true := by rw [h]; rfl
      have n5 : ((leaves.length : Int) != 16) = true := by rw [h]; rfl
      simp only [runA, runB, runC, runD, runE, runF, fieldE, storeE, binE, ↓reduceIte, Nat.reduceLT, Nat.reduceLeDiff, Nat.reduceEqDiff, Nat.reduceAdd, Nat.reduceMul, Nat.reduceSub, reduceCtorEq, putAt, unE, Nat.reduceBEq, convE, buildE, List.replicate, Int.reduceLT, Int.reduceLE, Int.reduceToNat, mkE, mapSetE, hN, hF, ty_3, ty_9, ty_22, ty_24, notIf, isEq, texts_length, ga, n1, n2, n3, n4, n5, gf, gg]
      simp only [runB, finC, finD, Option.isSome_some, Option.isSome_none, ↓reduceIte, Nat.reduceEqDiff, Nat.reduceAdd, Nat.reduceMul, forall_eq_or_imp, forall_eq, implies_true, Nat.reduceBEq, reduceCtorEq, false_implies, List.zip_cons_cons, List.zip_nil_left, List.zip_nil_right, Nat.reduceLeDiff, List.forall_mem_nil, rs_20, hS]
    · have n1 : ((leaves.length : Int) != 1) = true := by rw [h]; rfl
      have n2 : ((leaves.length : Int) != 2) = true := by rw [h]; rfl
      have n3 : ((leaves.length : Int) != 4) = true := by rw [h]; rfl
      have n4 : ((leaves.length : Int) != 8) = false := by rw [h]; rfl
      have n5 : ((leaves.length : Int) != 16) = true := by rw [h]; rfl
      simp only [runA, runB, runC, runD, runE, runF, fieldE, storeE, binE, ↓reduceIte, Nat.reduceLT, Nat.reduceLeDiff, Nat.reduceEqDiff, Nat.reduceAdd, Nat.reduceMul, Nat.reduceSub, reduceCtorEq, putAt, unE, Nat.reduceBEq, convE, buildE, List.replicate, Int.reduceLT, Int.reduceLE, Int.reduceToNat, mkE, mapSetE, hN, hF, ty_3, ty_9, ty_22, ty_24, notIf, isEq, texts_length, ga, n1, n2, n3, n4, n5, gf, gg]
      simp only [runB, finC, finD, Option.isSome_some, Option.isSome_none, ↓reduceIte, Nat.reduceEqDiff, Nat.reduceAdd, Nat.reduceMul, forall_eq_or_imp, forall_eq, implies_true, Nat.reduceBEq, reduceCtorEq, false_implies, List.zip_cons_cons, List.zip_nil_left, List.zip_nil_right, Nat.reduceLeDiff, List.forall_mem_nil, rs_20, hS]
    · have n1 : ((leaves.length : Int) != 1) = true := by rw [h]; rfl
      have n2 : ((leaves.length : Int) != 2) = true := by rw [h]; rfl
      have n3 : ((leaves.length : Int) != 4) = true := by rw [h]; rfl
      have n4 : ((leaves.length : Int) != 8) = true := by rw [h]; rfl
      have n5 : ((leaves.length : Int) != 16) = false := by rw [h]; rfl
      simp only [runA, runB, runC, runD, runE, runF, fieldE, storeE, binE, ↓reduceIte, Nat.reduceLT, Nat.reduceLeDiff, Nat.reduceEqDiff, Nat.reduceAdd, Nat.reduceMul, Nat.reduceSub, reduceCtorEq, putAt, unE, Nat.reduceBEq, convE, buildE, List.replicate, Int.reduceLT, Int.reduceLE, Int.reduceToNat, mkE, mapSetE, hN, hF, ty_3, ty_9, ty_22, ty_24, notIf, isEq, texts_length, ga, n1, n2, n3, n4, n5, gf, gg]
      simp only [runB, finC, finD, Option.isSome_some, Option.isSome_none, ↓reduceIte, Nat.reduceEqDiff, Nat.reduceAdd, Nat.reduceMul, forall_eq_or_imp, forall_eq, implies_true, Nat.reduceBEq, reduceCtorEq, false_implies, List.zip_cons_cons, List.zip_nil_left, List.zip_nil_right, Nat.reduceLeDiff, List.forall_mem_nil, rs_20, hS]
  have gg : decide (next > (leaves.length : Int)) = false := by simp; omega
  rcases hcd with h | h | h | h | h
  · have n1 : ((leaves.length : Int) != 1) = false := by rw [h]; rfl
    have n2 : ((leaves.length : Int) != 2) = true := by rw [h]; rfl
    have n3 : ((leaves.length : Int) != 4) = true := by rw [h]; rfl
    have n4 : ((leaves.length : Int) != 8) = true := by rw [h]; rfl
    have n5 : ((leaves.length : Int) != 16) = true := by rw [h]; rfl
    simp only [runA, runB, runC, runD, runE, runF, fieldE, storeE, binE, ↓reduceIte, Nat.reduceLT, Nat.reduceLeDiff, Nat.reduceEqDiff, Nat.reduceAdd, Nat.reduceMul, Nat.reduceSub, reduceCtorEq, putAt, unE, Nat.reduceBEq, convE, buildE, List.replicate, Int.reduceLT, Int.reduceLE, Int.reduceToNat, mkE, mapSetE, hN, hF, ty_3, ty_9, ty_22, ty_24, notIf, isEq, texts_length, ga, gf, gg, n1, n2, n3, n4, n5]
    clear n1 n2 n3 n4 n5
    refine AWP.loop (fun k st => ∃ i : Nat, (i ≤ leaves.length ∧ ∀ k, k < i → (leaves.getD k []).length = 8) ∧ k = leaves.length - i ∧ st = ⟨[(1, .ptr 64 0), (3, .c (.int .i64 (leaves.length : Int))), (4, .c (.int .i64 (i : Int)))], [(64, .obj [.c (.str seed), .c (.sl (texts leaves)), .c (.int .i64 next)] false)]⟩) ⟨leaves.length, _, ?w, 0, ⟨Nat.zero_le _, fun k hk => absurd hk (Nat.not_lt_zero k)⟩, rfl, rfl⟩ ?r
    case w =>
      rw [hns]
      simp only [runB, finC, finD, AS.get, AS.mem, false_implies, implies_true, ↓reduceIte, Nat.reduceEqDiff, Option.isSome_some, Option.isSome_none, forall_eq_or_imp, forall_eq, reduceCtorEq, Nat.reduceAdd, Nat.reduceMul, List.zip_cons_cons, List.zip_nil_left, List.zip_nil_right, List.forall_mem_nil]
      first | done | simp
    case r =>
      rintro k st ⟨i, ⟨hi, h8⟩, rfl, rfl⟩
      refine vc_sound hΓ mixed _ _ _ ?_
      by_cases hlt : i < leaves.length
      · have k1 : decide ((i : Int) < (leaves.length : Int)) = true := by simpa using hlt
        have e1 : IntKind.i64.wrap ((i : Int) + 1) = (i : Int) + 1 := wrapI (by omega)
        have hg := textsD leaves i hlt
        by_cases hp8 : (leaves.getD i []).length = 8
        · have k2 : (((leaves.getD i []).length : Int) != 8) = false := ne8f hp8
          have h8' : ∀ k, k < i + 1 → (leaves.getD k []).length = 8 := fun k hk => by
            by_cases e : k = i
            · rw [e]; exact hp8
            · exact h8 k (by omega)
          generalize leaves.getD i [] = q at hg k2
          simp only [runA, runB, runC, runD, runE, runF, fieldE, storeE, binE, ↓reduceIte, Nat.reduceLT, Nat.reduceLeDiff, Nat.reduceEqDiff, Nat.reduceAdd, Nat.reduceMul, Nat.reduceSub, reduceCtorEq, putAt, unE, Nat.reduceBEq, convE, buildE, List.replicate, Int.reduceLT, Int.reduceLE, Int.reduceToNat, mkE, mapSetE, hN, hF, ty_3, ty_9, ty_22, ty_24, notIf, isEq, k1, k2, e1, hg]
          refine ⟨leaves.length - (i + 1), _, by omega, ?_, i + 1, ⟨by omega, h8'⟩, rfl, rfl⟩
          rw [hns]
          simp only [runB, finC, finD, AS.get, AS.mem, false_implies, implies_true, ↓reduceIte, Nat.reduceEqDiff, Option.isSome_some, Option.isSome_none, forall_eq_or_imp, forall_eq, reduceCtorEq, Nat.reduceAdd, Nat.reduceMul, List.zip_cons_cons, List.zip_nil_left, List.zip_nil_right, List.forall_mem_nil]
          first | done | simp
        · have k2 : (((leaves.getD i []).length : Int) != 8) = true := ne8t hp8
          have hS : keyS ⟨seed, leaves, next⟩ = 9 := if_neg (by
            rintro ⟨a1, a2, a3, a4, a5⟩
            refine hp8 (a3 _ ?_)
            show leaves.getD i [] ∈ leaves
            rw [List.getD, List.getElem?_eq_getElem hlt]
            exact List.getElem_mem _)
          generalize leaves.getD i [] = q at hg k2
          simp only [runA, runB, runC, runD, runE, runF, fieldE, storeE, binE, ↓reduceIte, Nat.reduceLT, Nat.reduceLeDiff, Nat.reduceEqDiff, Nat.reduceAdd, Nat.reduceMul, Nat.reduceSub, reduceCtorEq, putAt, unE, Nat.reduceBEq, convE, buildE, List.replicate, Int.reduceLT, Int.reduceLE, Int.reduceToNat, mkE, mapSetE, hN, hF, ty_3, ty_9, ty_22, ty_24, notIf, isEq, k1, k2, e1, hg]
          simp only [runB, finC, finD, Option.isSome_some, Option.isSome_none, ↓reduceIte, Nat.reduceEqDiff, Nat.reduceAdd, Nat.reduceMul, forall_eq_or_imp, forall_eq, implies_true, Nat.reduceBEq, reduceCtorEq, false_implies, List.zip_cons_cons, List.zip_nil_left, List.zip_nil_right, Nat.reduceLeDiff, List.forall_mem_nil, rs_20, hS]
      · have k1 : decide ((i : Int) < (leaves.length : Int)) = false := by simpa using hlt
        have hil : i = leaves.length := by omega
        have hS : keyS ⟨seed, leaves, next⟩ = 0 := if_pos ⟨hca, hcd0, all8_of (fun k (hk : k < leaves.length) => h8 k (by omega)), hcf, hcg⟩
        simp only [runA, runB, runC, runD, runE, runF, fieldE, storeE, binE, ↓reduceIte, Nat.reduceLT, Nat.reduceLeDiff, Nat.reduceEqDiff, Nat.reduceAdd, Nat.reduceMul, Nat.reduceSub, reduceCtorEq, putAt, unE, Nat.reduceBEq, convE, buildE, List.replicate, Int.reduceLT, Int.reduceLE, Int.reduceToNat, mkE, mapSetE, hN, hF, ty_3, ty_9, ty_22, ty_24, notIf, isEq, k1]
        simp only [runB, finC, finD, Option.isSome_some, Option.isSome_none, ↓reduceIte, Nat.reduceEqDiff, Nat.reduceAdd, Nat.reduceMul, forall_eq_or_imp, forall_eq, implies_true, Nat.reduceBEq, reduceCtorEq, false_implies, List.zip_cons_cons, List.zip_nil_left, List.zip_nil_right, Nat.reduceLeDiff, List.forall_mem_nil, rs_20, hS]
  · have n1 : ((leaves.length : Int) != 1) = true := by rw [h]; rfl
    have n2 : ((leaves.length : Int) != 2) = false := by rw [h]; rfl
    have n3 : ((leaves.length : Int) != 4) = true := by rw [h]; rfl
    have n4 : ((leaves.length : Int) != 8) = true := by rw [h]; rfl
    have n5 : ((leaves.length : Int) != 16) = true := by rw [h]; rfl
    simp only [runA, runB, runC, runD, runE, runF, fieldE, storeE, binE, ↓reduceIte, Nat.reduceLT, Nat.reduceLeDiff, Nat.reduceEqDiff, Nat.reduceAdd, Nat.reduceMul, Nat.reduceSub, reduceCtorEq, putAt, unE, Nat.reduceBEq, convE, buildE, List.replicate, Int.reduceLT, Int.reduceLE, Int.reduceToNat, mkE, mapSetE, hN, hF, ty_3, ty_9, ty_22, ty_24, notIf, isEq, texts_length, ga, gf, gg, n1, n2, n3, n4, n5]
    clear n1 n2 n3 n4 n5
    refine AWP.loop (fun k st => ∃ i : Nat, (i ≤ leaves.length ∧ ∀ k, k < i → (leaves.getD k []).length = 8) ∧ k = leaves.length - i ∧ st = ⟨[(1, .ptr 64 0), (3, .c (.int .i64 (leaves.length : Int))), (4, .c (.int .i64 (i : Int)))], [(64, .obj [.c (.str seed), .c (.sl (texts leaves)), .c (.int .i64 next)] false)]⟩) ⟨leaves.length, _, ?w, 0, ⟨Nat.zero_le _, fun k hk => absurd hk (Nat.not_lt_zero k)⟩, rfl, rfl⟩ ?r
    case w =>
      rw [hns]
      simp only [runB, finC, finD, AS.get, AS.mem, false_implies, implies_true, ↓reduceIte, Nat.reduceEqDiff, Option.isSome_some, Option.isSome_none, forall_eq_or_imp, forall_eq, reduceCtorEq, Nat.reduceAdd, Nat.reduceMul, List.zip_cons_cons, List.zip_nil_left, List.zip_nil_right, List.forall_mem_nil]
      first | done | simp
    case r =>
      rintro k st ⟨i, ⟨hi, h8⟩, rfl, rfl⟩
      refine vc_sound hΓ mixed _ _ _ ?_
      by_cases hlt : i < leaves.length
      · have k1 : decide ((i : Int) < (leaves.length : Int)) = true := by simpa using hlt
        have e1 : IntKind.i64.wrap ((i : Int) + 1) = (i : Int) + 1 := wrapI (by omega)
        have hg := textsD leaves i hlt
        by_cases hp8 : (leaves.getD i []).length = 8
        · have k2 : (((leaves.getD i []).length : Int) != 8) = false := ne8f hp8
          have h8' : ∀ k, k < i + 1 → (leaves.getD k []).length = 8 := fun k hk => by
            by_cases e : k = i
            · rw [e]; exact hp8
            · exact h8 k (by omega)
          generalize leaves.getD i [] = q at hg k2
          simp only [runA, runB, runC, runD, runE, runF, fieldE, storeE, binE, ↓reduceIte, Nat.reduceLT, Nat.reduceLeDiff, Nat.reduceEqDiff, Nat.reduceAdd, Nat.reduceMul, Nat.reduceSub, reduceCtorEq, putAt, unE, Nat.reduceBEq, convE, buildE, List.replicate, Int.reduceLT, Int.reduceLE, Int.reduceToNat, mkE, mapSetE, hN, hF, ty_3, ty_9, ty_22, ty_24, notIf, isEq, k1, k2, e1, hg]
          refine ⟨leaves.length - (i + 1), _, by omega, ?_, i + 1, ⟨by omega, h8'⟩, rfl, rfl⟩
          rw [hns]
          simp only [runB, finC, finD, AS.get, AS.mem, false_implies, implies_true, ↓reduceIte, Nat.reduceEqDiff, Option.isSome_some, Option.isSome_none, forall_eq_or_imp, forall_eq, reduceCtorEq, Nat.reduceAdd, Nat.reduceMul, List.zip_cons_cons, List.zip_nil_left, List.zip_nil_right, List.forall_mem_nil]
          first | done | simp
        · have k2 : (((leaves.getD i []).length : Int) != 8) = true := ne8t hp8
          have hS : keyS ⟨seed, leaves, next⟩ = 9 := if_neg (by
            rintro ⟨a1, a2, a3, a4, a5⟩
            refine hp8 (a3 _ ?_)
            show leaves.getD i [] ∈ leaves
            rw [List.getD, List.getElem?_eq_getElem hlt]
            exact List.getElem_mem _)
          generalize leaves.getD i [] = q at hg k2
          simp only [runA, runB, runC, runD, runE, runF, fieldE, storeE, binE, ↓reduceIte, Nat.reduceLT, Nat.reduceLeDiff, Nat.reduceEqDiff, Nat.reduceAdd, Nat.reduceMul, Nat.reduceSub, reduceCtorEq, putAt, unE, Nat.reduceBEq, convE, buildE, List.replicate, Int.reduceLT, Int.reduceLE, Int.reduceToNat, mkE, mapSetE, hN, hF, ty_3, ty_9, ty_22, ty_24, notIf, isEq, k1, k2, e1, hg]
          simp only [runB, finC, finD, Option.isSome_some, Option.isSome_none, ↓reduceIte, Nat.reduceEqDiff, Nat.reduceAdd, Nat.reduceMul, forall_eq_or_imp, forall_eq, implies_true, Nat.reduceBEq, reduceCtorEq, false_implies, List.zip_cons_cons, List.zip_nil_left, List.zip_nil_right, Nat.reduceLeDiff, List.forall_mem_nil, rs_20, hS]
      · have k1 : decide ((i : Int) < (leaves.length : Int)) = false := by simpa using hlt
        have hil : i = leaves.length := by omega
        have hS : keyS ⟨seed, leaves, next⟩ = 0 := if_pos ⟨hca, hcd0, all8_of (fun k (hk : k < leaves.length) => h8 k (by omega)), hcf, hcg⟩
        simp only [runA, runB, runC, runD, runE, runF, fieldE, storeE, binE, ↓reduceIte, Nat.reduceLT, Nat.reduceLeDiff, Nat.reduceEqDiff, Nat.reduceAdd, Nat.reduceMul, Nat.reduceSub, reduceCtorEq, putAt, unE, Nat.reduceBEq, convE, buildE, List.replicate, Int.reduceLT, Int.reduceLE, Int.reduceToNat, mkE, mapSetE, hN, hF, ty_3, ty_9, ty_22, ty_24, notIf, isEq, k1]
        simp only [runB, finC, finD, Option.isSome_some, Option.isSome_none, ↓reduceIte, Nat.reduceEqDiff, Nat.reduceAdd, Nat.reduceMul, forall_eq_or_imp, forall_eq, implies_true, Nat.reduceBEq, reduceCtorEq, false_implies, List.zip_cons_cons, List.zip_nil_left, List.zip_nil_right, Nat.reduceLeDiff, List.forall_mem_nil, rs_20, hS]
  · have n1 : ((leaves.length : Int) != 1) = true := by rw [h]; rfl
    have n2 : ((leaves.length : Int) != 2) = true := by rw [h]; rfl
    have n3 : ((leaves.length : Int) != 4) = false := by rw [h]; rfl
    have n4 : ((leaves.length : Int) != 8) = true := by rw [h]; rfl
    have n5 : ((leaves.length : Int) != 16) = true := by rw [h]; rfl
    simp only [runA, runB, runC, runD, runE, runF, fieldE, storeE, binE, ↓reduceIte, Nat.reduceLT, Nat.reduceLeDiff, Nat.reduceEqDiff, Nat.reduceAdd, Nat.reduceMul, Nat.reduceSub, reduceCtorEq, putAt, unE, Nat.reduceBEq, convE, buildE, List.replicate, Int.reduceLT, Int.reduceLE, Int.reduceToNat, mkE, mapSetE, hN, hF, ty_3, ty_9, ty_22, ty_24, notIf, isEq, texts_length, ga, gf, gg, n1, n2, n3, n4, n5]
    clear n1 n2 n3 n4 n5
    refine AWP.loop (fun k st => ∃ i : Nat, (i ≤ leaves.length ∧ ∀ k, k < i → (leaves.getD k []).length = 8) ∧ k = leaves.length - i ∧ st = ⟨[(1, .ptr 64 0), (3, .c (.int .i64 (leaves.length : Int))), (4, .c (.int .i64 (i : Int)))], [(64, .obj [.c (.str seed), .c (.sl (texts leaves)), .c (.int .i64 next)] false)]⟩) ⟨leaves.length, _, ?w, 0, ⟨Nat.zero_le _, fun k hk => absurd hk (Nat.not_lt_zero k)⟩, rfl, rfl⟩ ?r
    case w =>
      rw [hns]
      simp only [runB, finC, finD, AS.get, AS.mem, false_implies, implies_true, ↓reduceIte, Nat.reduceEqDiff, Option.isSome_some, Option.isSome_none, forall_eq_or_imp, forall_eq, reduceCtorEq, Nat.reduceAdd, Nat.reduceMul, List.zip_cons_cons, List.zip_nil_left, List.zip_nil_right, List.forall_mem_nil]
      first | done | simp
    case r =>
      rintro k st ⟨i, ⟨hi, h8⟩, rfl, rfl⟩
      refine vc_sound hΓ mixed _ _ _ ?_
      by_cases hlt : i < leaves.length
      · have k1 : decide ((i : Int) < (leaves.length : Int)) = true := by simpa using hlt
        have e1 : IntKind.i64.wrap ((i : Int) + 1) = (i : Int) + 1 := wrapI (by omega)
        have hg := textsD leaves i hlt
        by_cases hp8 : (leaves.getD i []).length = 8
        · have k2 : (((leaves.getD i []).length : Int) != 8) = false := ne8f hp8
          have h8' : ∀ k, k < i + 1 → (leaves.getD k []).length = 8 := fun k hk => by
            by_cases e : k = i
            · rw [e]; exact hp8
            · exact h8 k (by omega)
          generalize leaves.getD i [] = q at hg k2
          simp only [runA, runB, runC, runD, runE, runF, fieldE, storeE, binE, ↓reduceIte, Nat.reduceLT, Nat.reduceLeDiff, Nat.reduceEqDiff, Nat.reduceAdd, Nat.reduceMul, Nat.reduceSub, reduceCtorEq, putAt, unE, Nat.reduceBEq, convE, buildE, List.replicate, Int.reduceLT, Int.reduceLE, Int.reduceToNat, mkE, mapSetE, hN, hF, ty_3, ty_9, ty_22, ty_24, notIf, isEq, k1, k2, e1, hg]
          refine ⟨leaves.length - (i + 1), _, by omega, ?_, i + 1, ⟨by omega, h8'⟩, rfl, rfl⟩
          rw [hns]
          simp only [runB, finC, finD, AS.get, AS.mem, false_implies, implies_true, ↓reduceIte, Nat.reduceEqDiff, Option.isSome_some, Option.isSome_none, forall_eq_or_imp, forall_eq, reduceCtorEq, Nat.reduceAdd, Nat.reduceMul, List.zip_cons_cons, List.zip_nil_left, List.zip_nil_right, List.forall_mem_nil]
          first | done | simp
        · have k2 : (((leaves.getD i []).length : Int) != 8) = true := ne8t hp8
          have hS : keyS ⟨seed, leaves, next⟩ = 9 := if_neg (by
            rintro ⟨a1, a2, a3, a4, a5⟩
            refine hp8 (a3 _ ?_)
            show leaves.getD i [] ∈ leaves
            rw [List.getD, List.getElem?_eq_getElem hlt]
            exact List.getElem_mem _)
          generalize leaves.getD i [] = q at hg k2
          simp only [runA, runB, runC, runD, runE, runF, fieldE, storeE, binE, ↓reduceIte, Nat.reduceLT, Nat.reduceLeDiff, Nat.reduceEqDiff, Nat.reduceAdd, Nat.reduceMul, Nat.reduceSub, reduceCtorEq, putAt, unE, Nat.reduceBEq, convE, buildE, List.replicate, Int.reduceLT, Int.reduceLE, Int.reduceToNat, mkE, mapSetE, hN, hF, ty_3, ty_9, ty_22, ty_24, notIf, isEq, k1, k2, e1, hg]
          simp only [runB, finC, finD, Option.isSome_some, Option.isSome_none, ↓reduceIte, Nat.reduceEqDiff, Nat.reduceAdd, Nat.reduceMul, forall_eq_or_imp, forall_eq, implies_true, Nat.reduceBEq, reduceCtorEq, false_implies, List.zip_cons_cons, List.zip_nil_left, List.zip_nil_right, Nat.reduceLeDiff, List.forall_mem_nil, rs_20, hS]
      · have k1 : decide ((i : Int) < (leaves.length : Int)) = false := by simpa using hlt
        have hil : i = leaves.length := by omega
        have hS : keyS ⟨seed, leaves, next⟩ = 0 := if_pos ⟨hca, hcd0, all8_of (fun k (hk : k < leaves.length) => h8 k (by omega)), hcf, hcg⟩
        simp only [runA, runB, runC, runD, runE, runF, fieldE, storeE, binE, ↓reduceIte, Nat.reduceLT, Nat.reduceLeDiff, Nat.reduceEqDiff, Nat.reduceAdd, Nat.reduceMul, Nat.reduceSub, reduceCtorEq, putAt, unE, Nat.reduceBEq, convE, buildE, List.replicate, Int.reduceLT, Int.reduceLE, Int.reduceToNat, mkE, mapSetE, hN, hF, ty_3, ty_9, ty_22, ty_24, notIf, isEq, k1]
        simp only [runB, finC, finD, Option.isSome_some, Option.isSome_none, ↓reduceIte, Nat.reduceEqDiff, Nat.reduceAdd, Nat.reduceMul, forall_eq_or_imp, forall_eq, implies_true, Nat.reduceBEq, reduceCtorEq, false_implies, List.zip_cons_cons, List.zip_nil_left, List.zip_nil_right, Nat.reduceLeDiff, List.forall_mem_nil, rs_20, hS]
  · have n1 : ((leaves.length : Int) != 1) = true := by rw [h]; rfl
    have n2 : ((leaves.length : Int) != 2) = true := by rw [h]; rfl
    have n3 : ((leaves.length : Int) != 4) = true := by rw [h]; rfl
    have n4 : ((leaves.length : Int) != 8) = false := by rw [h]; rfl
    have n5 : ((leaves.length : Int) != 16) = true := by rw [h]; rfl
    simp only [runA, runB, runC, runD, runE, runF, fieldE, storeE, binE, ↓reduceIte, Nat.reduceLT, Nat.reduceLeDiff, Nat.reduceEqDiff, Nat.reduceAdd, Nat.reduceMul, Nat.reduceSub, reduceCtorEq, putAt, unE, Nat.reduceBEq, convE, buildE, List.replicate, Int.reduceLT, Int.reduceLE, Int.reduceToNat, mkE, mapSetE, hN, hF, ty_3, ty_9, ty_22, ty_24, notIf, isEq, texts_length, ga, gf, gg, n1, n2, n3, n4, n5]
    clear n1 n2 n3 n4 n5
    refine AWP.loop (fun k st => ∃ i : Nat, (i ≤ leaves.length ∧ ∀ k, k < i → (leaves.getD k []).length = 8) ∧ k = leaves.length - i ∧ st = ⟨[(1, .ptr 64 0), (3, .c (.int .i64 (leaves.length : Int))), (4, .c (.int .i64 (i : Int)))], [(64, .obj [.c (.str seed), .c (.sl (texts leaves)), .c (.int .i64 next)] false)]⟩) ⟨leaves.length, _, ?w, 0, ⟨Nat.zero_le _, fun k hk => absurd hk (Nat.not_lt_zero k)⟩, rfl, rfl⟩ ?r
    case w =>
      rw [hns]
      simp only [runB, finC, finD, AS.get, AS.mem, false_implies, implies_true, ↓reduceIte, Nat.reduceEqDiff, Option.isSome_some, Option.isSome_none, forall_eq_or_imp, forall_eq, reduceCtorEq, Nat.reduceAdd, Nat.reduceMul, List.zip_cons_cons, List.zip_nil_left, List.zip_nil_right, List.forall_mem_nil]
      first | done | simp
    case r =>
      rintro k st ⟨i, ⟨hi, h8⟩, rfl, rfl⟩
      refine vc_sound hΓ mixed _ _ _ ?_
      by_cases hlt : i < leaves.length
      · have k1 : decide ((i : Int) < (leaves.length : Int)) = true := by simpa using hlt
        have e1 : IntKind.i64.wrap ((i : Int) + 1) = (i : Int) + 1 := wrapI (by omega)
        have hg := textsD leaves i hlt
        by_cases hp8 : (leaves.getD i []).length = 8
        · have k2 : (((leaves.getD i []).length : Int) != 8) = false := ne8f hp8
          have h8' : ∀ k, k < i + 1 → (leaves.getD k []).length = 8 := fun k hk => by
            by_cases e : k = i
            · rw [e]; exact hp8
            · exact h8 k (by omega)
          generalize leaves.getD i [] = q at hg k2
          simp only [runA, runB, runC, runD, runE, runF, fieldE, storeE, binE, ↓reduceIte, Nat.reduceLT, Nat.reduceLeDiff, Nat.reduceEqDiff, Nat.reduceAdd, Nat.reduceMul, Nat.reduceSub, reduceCtorEq, putAt, unE, Nat.reduceBEq, convE, buildE, List.replicate, Int.reduceLT, Int.reduceLE, Int.reduceToNat, mkE, mapSetE, hN, hF, ty_3, ty_9, ty_22, ty_24, notIf, isEq, k1, k2, e1, hg]
          refine ⟨leaves.length - (i + 1), _, by omega, ?_, i + 1, ⟨by omega, h8'⟩, rfl, rfl⟩
          rw [hns]
          simp only [runB, finC, finD, AS.get, AS.mem, false_implies, implies_true, ↓reduceIte, Nat.reduceEqDiff, Option.isSome_some, Option.isSome_none, forall_eq_or_imp, forall_eq, reduceCtorEq, Nat.reduceAdd, Nat.reduceMul, List.zip_cons_cons, List.zip_nil_left, List.zip_nil_right, List.forall_mem_nil]
          first | done | simp
        · have k2 : (((leaves.getD i []).length : Int) != 8) = true := ne8t hp8
          have hS : keyS ⟨seed, leaves, next⟩ = 9 := if_neg (by
            rintro ⟨a1, a2, a3, a4, a5⟩
            refine hp8 (a3 _ ?_)
            show leaves.getD i [] ∈ leaves
            rw [List.getD, List.getElem?_eq_getElem hlt]
            exact List.getElem_mem _)
          generalize leaves.getD i [] = q at hg k2
          simp only [runA, runB, runC, runD, runE, runF, fieldE, storeE, binE, ↓reduceIte, Nat.reduceLT, Nat.reduceLeDiff, Nat.reduceEqDiff, Nat.reduceAdd, Nat.reduceMul, Nat.reduceSub, reduceCtorEq, putAt, unE, Nat.reduceBEq, convE, buildE, List.replicate, Int.reduceLT, Int.reduceLE, Int.reduceToNat, mkE, mapSetE, hN, hF, ty_3, ty_9, ty_22, ty_24, notIf, isEq, k1, k2, e1, hg]
          simp only [runB, finC, finD, Option.isSome_some, Option.isSome_none, ↓reduceIte, Nat.reduceEqDiff, Nat.reduceAdd, Nat.reduceMul, forall_eq_or_imp, forall_eq, implies_true, Nat.reduceBEq, reduceCtorEq, false_implies, List.zip_cons_cons, List.zip_nil_left, List.zip_nil_right, Nat.reduceLeDiff, List.forall_mem_nil, rs_20, hS]
      · have k1 : decide ((i : Int) < (leaves.length : Int)) = false := by simpa using hlt
        have hil : i = leaves.length := by omega
        have hS : keyS ⟨seed, leaves, next⟩ = 0 := if_pos ⟨hca, hcd0, all8_of (fun k (hk : k < leaves.length) => h8 k (by omega)), hcf, hcg⟩
        simp only [runA, runB, runC, runD, runE, runF, fieldE, storeE, binE, ↓reduceIte, Nat.reduceLT, Nat.reduceLeDiff, Nat.reduceEqDiff, Nat.reduceAdd, Nat.reduceMul, Nat.reduceSub, reduceCtorEq, putAt, unE, Nat.reduceBEq, convE, buildE, List.replicate, Int.reduceLT, Int.reduceLE, Int.reduceToNat, mkE, mapSetE, hN, hF, ty_3, ty_9, ty_22, ty_24, notIf, isEq, k1]
        simp only [runB, finC, finD, Option.isSome_some, Option.isSome_none, ↓reduceIte, Nat.reduceEqDiff, Nat.reduceAdd, Nat.reduceMul, forall_eq_or_imp, forall_eq, implies_true, Nat.reduceBEq, reduceCtorEq, false_implies, List.zip_cons_cons, List.zip_nil_left, List.zip_nil_right, Nat.reduceLeDiff, List.forall_mem_nil, rs_20, hS]
  · have n1 : ((leaves.length : Int) != 1) = true := by rw [h]; rfl
    have n2 : ((leaves.length : Int) != 2) = true := by rw [h]; rfl
    have n3 : ((leaves.length : Int) != 4) = true := by rw [h]; rfl
    have n4 : ((leaves.length : Int) != 8) = true := by rw [h]; rfl
    have n5 : ((leaves.length : Int) != 16) = false := by rw [h]; rfl
    simp only [runA, runB, runC, runD, runE, runF, fieldE, storeE, binE, ↓reduceIte, Nat.reduceLT, Nat.reduceLeDiff, Nat.reduceEqDiff, Nat.reduceAdd, Nat.reduceMul, Nat.reduceSub, reduceCtorEq, putAt, unE, Nat.reduceBEq, convE, buildE, List.replicate, Int.reduceLT, Int.reduceLE, Int.reduceToNat, mkE, mapSetE, hN, hF, ty_3, ty_9, ty_22, ty_24, notIf, isEq, texts_length, ga, gf, gg, n1, n2, n3, n4, n5]
    clear n1 n2 n3 n4 n5
    refine AWP.loop (fun k st => ∃ i : Nat, (i ≤ leaves.length ∧ ∀ k, k < i → (leaves.getD k []).length = 8) ∧ k = leaves.length - i ∧ st = ⟨[(1, .ptr 64 0), (3, .c (.int .i64 (leaves.length : Int))), (4, .c (.int .i64 (i : Int)))], [(64, .obj [.c (.str seed), .c (.sl (texts leaves)), .c (.int .i64 next)] false)]⟩) ⟨leaves.length, _, ?w, 0, ⟨Nat.zero_le _, fun k hk => absurd hk (Nat.not_lt_zero k)⟩, rfl, rfl⟩ ?r
    case w =>
      rw [hns]
      simp only [runB, finC, finD, AS.get, AS.mem, false_implies, implies_true, ↓reduceIte, Nat.reduceEqDiff, Option.isSome_some, Option.isSome_none, forall_eq_or_imp, forall_eq, reduceCtorEq, Nat.reduceAdd, Nat.reduceMul, List.zip_cons_cons, List.zip_nil_left, List.zip_nil_right, List.forall_mem_nil]
      first | done | simp
    case r =>
      rintro k st ⟨i, ⟨hi, h8⟩, rfl, rfl⟩
      refine vc_sound hΓ mixed _ _ _ ?_
      by_cases hlt : i < leaves.length
      · have k1 : decide ((i : Int) < (leaves.length : Int)) = true := by simpa using hlt
        have e1 : IntKind.i64.wrap ((i : Int) + 1) = (i : Int) + 1 := wrapI (by omega)
        have hg := textsD leaves i hlt
        by_cases hp8 : (leaves.getD i []).length = 8
        · have k2 : (((leaves.getD i []).length : Int) != 8) = false := ne8f hp8
          have h8' : ∀ k, k < i + 1 → (leaves.getD k []).length = 8 := fun k hk => by
            by_cases e : k = i
            · rw [e]; exact hp8
            · exact h8 k (by omega)
          generalize leaves.getD i [] = q at hg k2
          simp only [runA, runB, runC, runD, runE, runF, fieldE, storeE, binE, ↓reduceIte, Nat.reduceLT, Nat.reduceLeDiff, Nat.reduceEqDiff, Nat.reduceAdd, Nat.reduceMul, Nat.reduceSub, reduceCtorEq, putAt, unE, Nat.reduceBEq, convE, buildE, List.replicate, Int.reduceLT, Int.reduceLE, Int.reduceToNat, mkE, mapSetE, hN, hF, ty_3, ty_9, ty_22, ty_24, notIf, isEq, k1, k2, e1, hg]
          refine ⟨leaves.length - (i + 1), _, by omega, ?_, i + 1, ⟨by omega, h8'⟩, rfl, rfl⟩
          rw [hns]
          simp only [runB, finC, finD, AS.get, AS.mem, false_implies, implies_true, ↓reduceIte, Nat.reduceEqDiff, Option.isSome_some, Option.isSome_none, forall_eq_or_imp, forall_eq, reduceCtorEq, Nat.reduceAdd, Nat.reduceMul, List.zip_cons_cons, List.zip_nil_left, List.zip_nil_right, List.forall_mem_nil]
          first | done | simp
        · have k2 : (((leaves.getD i []).length : Int) != 8) = true := ne8t hp8
          have hS : keyS ⟨seed, leaves, next⟩ = 9 := if_neg (by
            rintro ⟨a1, a2, a3, a4, a5⟩
            refine hp8 (a3 _ ?_)
            show leaves.getD i [] ∈ leaves
            rw [List.getD, List.getElem?_eq_getElem hlt]
            exact List.getElem_mem _)
          generalize leaves.getD i [] = q at hg k2
          simp only [runA, runB, runC, runD, runE, runF, fieldE, storeE, binE, ↓reduceIte, Nat.reduceLT, Nat.reduceLeDiff, Nat.reduceEqDiff, Nat.reduceAdd, Nat.reduceMul, Nat.reduceSub, reduceCtorEq, putAt, unE, Nat.reduceBEq, convE, buildE, List.replicate, Int.reduceLT, Int.reduceLE, Int.reduceToNat, mkE, mapSetE, hN, hF, ty_3, ty_9, ty_22, ty_24, notIf, isEq, k1, k2, e1, hg]
          simp only [runB, finC, finD, Option.isSome_some, Option.isSome_none, ↓reduceIte, Nat.reduceEqDiff, Nat.reduceAdd, Nat.reduceMul, forall_eq_or_imp, forall_eq, implies_true, Nat.reduceBEq, reduceCtorEq, false_implies, List.zip_cons_cons, List.zip_nil_left, List.zip_nil_right, Nat.reduceLeDiff, List.forall_mem_nil, rs_20, hS]
      · have k1 : decide ((i : Int) < (leaves.length : Int)) = false := by simpa using hlt
        have hil : i = leaves.length := by omega
        have hS : keyS ⟨seed, leaves, next⟩ = 0 := if_pos ⟨hca, hcd0, all8_of (fun k (hk : k < leaves.length) => h8 k (by omega)), hcf, hcg⟩
        simp only [runA, runB, runC, runD, runE, runF, fieldE, storeE, binE, ↓reduceIte, Nat.reduceLT, Nat.reduceLeDiff, Nat.reduceEqDiff, Nat.reduceAdd, Nat.reduceMul, Nat.reduceSub, reduceCtorEq, putAt, unE, Nat.reduceBEq, convE, buildE, List.replicate, Int.reduceLT, Int.reduceLE, Int.reduceToNat, mkE, mapSetE, hN, hF, ty_3, ty_9, ty_22, ty_24, notIf, isEq, k1]
        simp only [runB, finC, finD, Option.isSome_some, Option.isSome_none, ↓reduceIte, Nat.reduceEqDiff, Nat.reduceAdd, Nat.reduceMul, forall_eq_or_imp, forall_eq, implies_true, Nat.reduceBEq, reduceCtorEq, false_implies, List.zip_cons_cons, List.zip_nil_left, List.zip_nil_right, Nat.reduceLeDiff, List.forall_mem_nil, rs_20, hS]


variable {Γ : FuncId → Contract}


variable {Γ : FuncId → Contract}

theorem upS_all8 : ∀ (l : List (List UInt8)), all8 l → all8 (upS l)
  | [], h => by rw [upS_nil]; exact h
  | [x], h => by rw [upS_one]; exact h
  | a :: b :: l, h => by
    intro s hs
    rw [upS] at hs
    rcases List.mem_cons.1 hs with rfl | hs
    · exact shortS_length _
    · exact upS_all8 l (fun x hx => h x (by simp [hx])) s hs
theorem pathP_facts : ∀ (n : Nat) (l : List (List UInt8)) (a : Nat), l.length ≤ n → a < l.length → powN l.length = true → all8 l → all8 (pathP l a) ∧ (pathP l a).length = l.length.log2
  | 0, l, a, hn, ha, _, _ => by omega
  | n + 1, l, a, hn, ha, hp, h8 => by
    by_cases h1 : l.length ≤ 1
    · rw [pathP_le h1]
      have : l.length = 1 := by omega
      rw [this]
      exact ⟨fun p hp => (List.not_mem_nil hp).elim, by decide⟩
    · rw [pathP_gt h1]
      obtain ⟨hp1, hp2⟩ := powN_half hp (by omega)
      have hl := upS_length l
      have hu : (upS l).length = l.length / 2 := by omega
      obtain ⟨i1, i2⟩ := pathP_facts n (upS l) (a / 2) (by omega) (by omega) (by rw [hu]; exact hp2) (upS_all8 l h8)
      have hnb : nb a < l.length := by unfold nb; split <;> omega
      refine ⟨fun p hp => ?_, ?_⟩
      · rcases List.mem_cons.1 hp with rfl | hp
        · refine h8 _ ?_
          rw [List.getD, List.getElem?_eq_getElem hnb]
          exact List.getElem_mem _
        · exact i1 p hp
      · rw [List.length_cons, i2, hu, Nat.log2_def l.length, if_pos (by omega)]
theorem okN16_pow {n : Nat} (h : okN16 n) : powN n = true := by
  rcases h with rfl | rfl | rfl | rfl | rfl <;> rfl
theorem okN16_log {n : Nat} (h : okN16 n) : n.log2 ≤ 4 ∧ 2 ^ n.log2 = n := by
  rcases h with rfl | rfl | rfl | rfl | rfl <;> decide
theorem sgnT_all8 (seed : List UInt8) (leaf : Int) (text : List UInt8) (n : Nat) : all8 (sgnT seed leaf text n) := by
  intro p hp
  simp only [sgnT, List.mem_map] at hp
  obtain ⟨i, _, rfl⟩ := hp
  exact chain8 _ _ (secS_length _ _ _)
theorem all8_flat : ∀ (l : List (List UInt8)), all8 l → l.flatten.length = 8 * l.length
  | [], _ => rfl
  | x :: l, h => by
    rw [List.flatten_cons, List.length_append, List.length_cons, h x (by simp), all8_flat l fun p hp => h p (by simp [hp])]
    omega
theorem all8_app {a b : List (List UInt8)} (ha : all8 a) (hb : all8 b) : all8 (a ++ b) := fun p hp => by
  rcases List.mem_append.1 hp with h | h
  · exact ha p h
  · exact hb p h
theorem all8_take {l : List (List UInt8)} (h : all8 l) (n : Nat) : all8 (l.take n) := fun p hp => h p (List.mem_of_mem_take hp)
theorem all8_getD {l : List (List UInt8)} (h : all8 l) {i : Nat} (hi : i < l.length) : (l.getD i []).length = 8 := by
  refine h _ ?_
  rw [List.getD, List.getElem?_eq_getElem hi]
  exact List.getElem_mem _
theorem flatD_take (l : List (List UInt8)) (i : Nat) (h : i < l.length) : (l.take i).flatten ++ l.getD i [] = (l.take (i + 1)).flatten := by
  rw [List.take_add_one, List.flatten_append, List.getD, List.getElem?_eq_getElem h]
  simp

/-- The next key's parts, and the path. -/
noncomputable def sigL (k : Ky) (text : List UInt8) : List (List UInt8) := sgnS k.seed k.next text ++ (pathS k.leaves k.next).1
noncomputable def sigB (k : Ky) (text : List UInt8) : List UInt8 := putB k.next 2 ++ (sigL k text).flatten
def Ky.step (k : Ky) : Ky := ⟨k.seed, k.leaves, k.next + 1⟩
def zeroK : Ky := ⟨[], [], 0⟩
noncomputable def signS (k : Ky) (text : List UInt8) : List UInt8 × Ky × Int :=
  if goodK k then (if k.next = (k.leaves.length : Int) then ([], zeroK, 17) else (sigB k text, k.step, 0)) else ([], zeroK, 9)
theorem path_good {k : Ky} (h : goodK k) (hn : k.next ≠ (k.leaves.length : Int)) : pathS k.leaves k.next = (pathP k.leaves k.next.toNat, 0) ∧ all8 (pathS k.leaves k.next).1 ∧ (pathS k.leaves k.next).1.length = k.leaves.length.log2 := by
  obtain ⟨_, h2, h3, h4, h5⟩ := h
  have e : pathS k.leaves k.next = (pathP k.leaves k.next.toNat, 0) := by
    unfold pathS
    rw [if_neg (by omega), if_pos (okN16_pow h2)]
  rw [e]
  obtain ⟨p1, p2⟩ := pathP_facts _ k.leaves k.next.toNat (Nat.le_refl _) (by omega) (okN16_pow h2) h3
  exact ⟨rfl, p1, p2⟩

noncomputable def cloneTC : Contract := mkC (α := List (List UInt8)) (fun l => l ≠ [] ∧ l.length ≤ 1000000) (fun l => [.c (.sl (texts l))]) (fun _ => []) (fun l => ⟨[.fresh 1 (texts l)], []⟩)
theorem cloneT_at (l : List (List UInt8)) (h1 : l ≠ []) (h2 : l.length ≤ 1000000) : cloneTC [.c (.sl (texts l))] [] = some ⟨[.fresh 1 (texts l)], []⟩ :=
  mkC_at (α := List (List UInt8)) l ⟨h1, h2⟩ (by
    rintro y _ h _
    simp only [List.cons.injEq, AV.c.injEq, PC.sl.injEq, and_true] at h
    rw [h])
set_option maxHeartbeats 1000000 in
theorem cloneT_sound : SoundC Try.prog 59 cloneTC := by
  refine sound_fn Try.func59 (by kernel_rfl) rfl rfl ?_
  intro args objs r hr
  obtain ⟨l, ⟨h1, h2⟩, rfl, rfl, rfl⟩ := mkC_inv hr
  refine ⟨rfl, by show 1 ≤ _; decide, fun E hN hns hF => ?_⟩
  refine vc_sound none0_sound mixed _ _ _ ?_
  have hN := hN.trans nt_59
  have hz := rowsOK_texts l
  have hL : (0 + l.length) * 16 ≤ 140737488355328 := by omega
  have hL2 : l.length * 16 ≤ 140737488355328 := by omega
  cases l with
  | nil => exact absurd rfl h1
  | cons x l =>
    have hx : texts (x :: l) = [.str x] :: texts l := rfl
    have hxl : (texts l).length = l.length := texts_length l
    rw [List.length_cons] at hL hL2
    rw [hx] at hz ⊢
    simp only [runA, runB, runC, runD, runE, runF, fieldE, storeE, binE, ↓reduceIte, Nat.reduceLT, Nat.reduceLeDiff, Nat.reduceEqDiff, Nat.reduceAdd, Nat.reduceMul, Nat.reduceSub, reduceCtorEq, putAt, unE, Nat.reduceBEq, convE, buildE, List.replicate, Int.reduceLT, Int.reduceLE, Int.reduceToNat, mkE, mapSetE, hN, hF, ty_9, ty_22, notIf, isEq, hz, hL, hL2, hxl]
    simp only [runB, finC, finD, Option.isSome_some, Option.isSome_none, ↓reduceIte, Nat.reduceEqDiff, Nat.reduceAdd, Nat.reduceMul, forall_eq_or_imp, forall_eq, implies_true, Nat.reduceBEq, reduceCtorEq, false_implies, List.zip_cons_cons, List.zip_nil_left, List.zip_nil_right, Nat.reduceLeDiff, List.forall_mem_nil, rs_59, hxl]

structure Sk where
  k : Ky
  text : List UInt8
def skOK (p : Sk) : Prop := p.k.leaves.length ≤ 9223372036854775807 ∧ p.text.length ≤ 1099511627776
noncomputable def signC : Contract := mkC (α := Sk) skOK (fun p => [p.k.av, .c (.sl (bytes p.text))]) (fun _ => []) (fun p => ⟨[.pv (.c (.str (signS p.k p.text).1)), .pv (signS p.k p.text).2.1.av, .pv (.c (.int .i64 (signS p.k p.text).2.2))], []⟩)
theorem sign_at (k : Ky) (text : List UInt8) (h1 : k.leaves.length ≤ 9223372036854775807) (h2 : text.length ≤ 1099511627776) :
    signC [.agg [.c (.str k.seed), .c (.sl (texts k.leaves)), .c (.int .i64 k.next)], .c (.sl (bytes text))] [] = some ⟨[.pv (.c (.str (signS k text).1)), .pv (signS k text).2.1.av, .pv (.c (.int .i64 (signS k text).2.2))], []⟩ :=
  mkC_at (α := Sk) ⟨k, text⟩ ⟨h1, h2⟩ (by
    rintro ⟨k', t'⟩ _ h _
    simp only [List.cons.injEq, AV.c.injEq, PC.sl.injEq, and_true] at h
    have e : k' = k := Ky.av_inj (show k'.av = k.av from h.1)
    have e2 := bytes_inj h.2
    rw [e, e2])

set_option maxRecDepth 100000 in
set_option maxHeartbeats 4000000 in
theorem sign_sound (hΓ : SoundG Try.prog Γ) (h1 : Γ 19 = keyC) (h2 : Γ 56 = pathC) (h3 : Γ 57 = putC) (h4 : Γ 58 = sgnC) (h5 : Γ 59 = cloneTC) : SoundC Try.prog 13 signC := by
  refine sound_fn Try.func13 (by kernel_rfl) rfl rfl ?_
  intro args objs r hr
  obtain ⟨⟨⟨seed, leaves, next⟩, text⟩, ⟨hl1, hl2⟩, rfl, rfl, rfl⟩ := mkC_inv hr
  have hl1 : leaves.length ≤ 9223372036854775807 := hl1
  have hl2 : text.length ≤ 1099511627776 := hl2
  refine ⟨rfl, by show 2 ≤ _; decide, fun E hN hns hF => ?_⟩
  refine vc_sound hΓ mixed _ _ _ ?_
  have hN := hN.trans nt_13
  have q1 := key_at ⟨seed, leaves, next⟩ hl1
  unfold Ky.av
  dsimp only at q1 ⊢
  by_cases hg : goodK ⟨seed, leaves, next⟩
  case neg =>
    have hK : keyS ⟨seed, leaves, next⟩ = 9 := if_neg hg
    have hS : signS ⟨seed, leaves, next⟩ text = ([], zeroK, 9) := if_neg hg
    rw [hK] at q1
    rw [hS]
    have b0 : ((9 : Int) != 0) = true := rfl
    simp only [runA, runB, runC, runD, runE, runF, fieldE, storeE, binE, ↓reduceIte, Nat.reduceLT, Nat.reduceLeDiff, Nat.reduceEqDiff, Nat.reduceAdd, Nat.reduceMul, Nat.reduceSub, reduceCtorEq, putAt, unE, Nat.reduceBEq, convE, buildE, List.replicate, Int.reduceLT, Int.reduceLE, Int.reduceToNat, mkE, mapSetE, hN, hF, ty_3, ty_5, ty_9, ty_22, ty_24, ty_25, ty_27, notIf, isEq, h1, q1, b0]
    simp only [runB, finC, finD, Option.isSome_some, Option.isSome_none, ↓reduceIte, Nat.reduceEqDiff, Nat.reduceAdd, Nat.reduceMul, forall_eq_or_imp, forall_eq, implies_true, Nat.reduceBEq, reduceCtorEq, false_implies, List.zip_cons_cons, List.zip_nil_left, List.zip_nil_right, Nat.reduceLeDiff, List.forall_mem_nil, rs_13, agg_24, sz_24, zeroK, texts, List.map_nil]
  have hK : keyS ⟨seed, leaves, next⟩ = 0 := if_pos hg
  rw [hK] at q1
  have b0 : ((0 : Int) != 0) = false := rfl
  by_cases hn : next = (leaves.length : Int)
  case pos =>
    have hS : signS ⟨seed, leaves, next⟩ text = ([], zeroK, 17) := by unfold signS; rw [if_pos hg, if_pos hn]
    rw [hS]
    have g1 : (next == (leaves.length : Int)) = true := by simpa using hn
    simp only [runA, runB, runC, runD, runE, runF, fieldE, storeE, binE, ↓reduceIte, Nat.reduceLT, Nat.reduceLeDiff, Nat.reduceEqDiff, Nat.reduceAdd, Nat.reduceMul, Nat.reduceSub, reduceCtorEq, putAt, unE, Nat.reduceBEq, convE, buildE, List.replicate, Int.reduceLT, Int.reduceLE, Int.reduceToNat, mkE, mapSetE, hN, hF, ty_3, ty_5, ty_9, ty_22, ty_24, ty_25, ty_27, notIf, isEq, texts_length, h1, q1, b0, g1]
    simp only [runB, finC, finD, Option.isSome_some, Option.isSome_none, ↓reduceIte, Nat.reduceEqDiff, Nat.reduceAdd, Nat.reduceMul, forall_eq_or_imp, forall_eq, implies_true, Nat.reduceBEq, reduceCtorEq, false_implies, List.zip_cons_cons, List.zip_nil_left, List.zip_nil_right, Nat.reduceLeDiff, List.forall_mem_nil, rs_13, agg_24, sz_24, zeroK, texts, List.map_nil]
  have g1 : (next == (leaves.length : Int)) = false := by simpa using hn
  have hS : signS ⟨seed, leaves, next⟩ text = (sigB ⟨seed, leaves, next⟩ text, ⟨seed, leaves, next + 1⟩, 0) := by unfold signS; rw [if_pos hg, if_neg hn]; rfl
  rw [hS]
  obtain ⟨_, p8, pl⟩ := path_good hg hn
  have hg0 := hg
  obtain ⟨a1, a2, a3, a4, a5⟩ := hg
  dsimp only at a1 a2 a3 a4 a5 p8 pl
  have q2 := path_at leaves next hg0.okl
  have q3 := sgn_at seed next text (by omega) hl2
  have hlg := (okN16_log a2).1
  have hle : leaves.length ≤ 16 := by unfold okN16 at a2; omega
  have hne : leaves ≠ [] := fun e => by rw [e] at a2; exact absurd a2 (by decide)
  have q4 := cloneT_at leaves hne (by omega)
  have hsl : (texts (sgnS seed next text)).length = 11 := by rw [texts_length]; exact sgnT_length _ _ _ _
  have hL8 : all8 (sigL ⟨seed, leaves, next⟩ text) := all8_app (sgnT_all8 _ _ _ _) p8
  have hLl : (sigL ⟨seed, leaves, next⟩ text).length = 11 + leaves.length.log2 := by
    show (sgnS seed next text ++ (pathS leaves next).1).length = _
    rw [List.length_append, pl, show (sgnS seed next text).length = 11 from sgnT_length _ _ _ _]
  have hap : texts (sgnS seed next text) ++ texts (pathS leaves next).1 = texts (sigL ⟨seed, leaves, next⟩ text) := texts_app _ _
  have hsb : sigB ⟨seed, leaves, next⟩ text = putB next 2 ++ (sigL ⟨seed, leaves, next⟩ text).flatten := rfl
  have hpl : (texts (pathS leaves next).1).length = leaves.length.log2 := by rw [texts_length, pl]
  rw [hsb]
  generalize sigL ⟨seed, leaves, next⟩ text = L at hL8 hLl hap ⊢
  generalize (pathS leaves next).1 = pth at q2 hap hpl
  generalize (pathS leaves next).2 = pe at q2
  generalize leaves.length.log2 = h at hLl hpl hlg
  have hz := rowsOK_texts
  have hc1 : ((11 + h) * 16 ≤ 140737488355328) = True := eq_true (by omega)
  have e9 : IntKind.i64.wrap (next + 1) = next + 1 := wrapI (by omega)
  have hpb := putB2 next
  have q5 : putC [.c (.int .i64 next), .c (.int .i64 2)] [] = some ⟨[.fresh 1 (bytes (putB next 2))], []⟩ := by simp [putC]
  generalize putB next 2 = pb at hpb q5 ⊢
  simp only [runA, runB, runC, runD, runE, runF, fieldE, storeE, binE, ↓reduceIte, Nat.reduceLT, Nat.reduceLeDiff, Nat.reduceEqDiff, Nat.reduceAdd, Nat.reduceMul, Nat.reduceSub, reduceCtorEq, putAt, unE, Nat.reduceBEq, convE, buildE, List.replicate, Int.reduceLT, Int.reduceLE, Int.reduceToNat, mkE, mapSetE, hN, hF, ty_3, ty_5, ty_9, ty_22, ty_24, ty_25, ty_27, notIf, isEq, texts_length, h1, q1, b0, g1, h2, q2, h3, q5, h4, q3, hsl, hz, hpl, hc1, hap, bytes_length, hpb]
  refine AWP.loop (fun k st => ∃ i : Nat, i ≤ 11 + h ∧ k = 11 + h - i ∧ st = ⟨[(2, .ptr 128 0), (5, .ptr 320 0), (10, .own 2434 1 (bytes (pb ++ (L.take i).flatten))), (46, .own 2818 1 (texts L)), (47, .c (.int .i64 ((11 + h : Nat) : Int))), (48, .c (.int .i64 (i : Int)))],
    [(128, .obj [.c (.str seed), .c (.sl (texts leaves)), .c (.int .i64 next)] false), (320, .obj [.c (.str []), .nilsl, .c (.int .i64 0)] false), (2434, .row 1 (2 + 8 * i)), (2818, .row 1 (11 + h))]⟩) ⟨11 + h, _, ?w, 0, Nat.zero_le _, rfl, rfl⟩ ?r
  case w =>
    rw [hns]
    simp only [runB, finC, finD, AS.get, AS.mem, false_implies, implies_true, ↓reduceIte, Nat.reduceEqDiff, Option.isSome_some, Option.isSome_none, forall_eq_or_imp, forall_eq, reduceCtorEq, Nat.reduceAdd, Nat.reduceMul, List.zip_cons_cons, List.zip_nil_left, List.zip_nil_right, List.forall_mem_nil]
    first | exact ⟨by simp, by rw [hLl], rfl⟩ | simp [hLl]
  case r =>
    rintro k st ⟨i, hi, rfl, rfl⟩
    refine vc_sound hΓ mixed _ _ _ ?_
    by_cases hlt : i < 11 + h
    · have k1 : decide ((i : Int) < ((11 + h : Nat) : Int)) = true := by simp; omega
      have e1 : IntKind.i64.wrap ((i : Int) + 1) = (i : Int) + 1 := wrapI (by omega)
      have hgx := textsD L i (by omega)
      have h8 := all8_getD hL8 (i := i) (by omega)
      have hft := flatD_take L i (by omega)
      have hfl : (pb ++ (L.take i).flatten).length = 2 + 8 * i := by rw [List.length_append, hpb, all8_flat _ (all8_take hL8 i), List.length_take]; omega
      have hap2 : (pb ++ (L.take i).flatten) ++ L.getD i [] = pb ++ (L.take (i + 1)).flatten := by rw [List.append_assoc, hft]
      generalize L.getD i [] = s at hgx h8 hap2
      have hzb := rowsOK_bytes
      have hc2 : (2 + 8 * i + 8 ≤ 140737488355328) = True := eq_true (by omega)
      generalize pb ++ (L.take i).flatten = bi at hfl hap2 ⊢
      simp only [runA, runB, runC, runD, runE, runF, fieldE, storeE, binE, ↓reduceIte, Nat.reduceLT, Nat.reduceLeDiff, Nat.reduceEqDiff, Nat.reduceAdd, Nat.reduceMul, Nat.reduceSub, reduceCtorEq, putAt, unE, Nat.reduceBEq, convE, buildE, List.replicate, Int.reduceLT, Int.reduceLE, Int.reduceToNat, mkE, mapSetE, hN, hF, ty_3, ty_5, ty_9, ty_22, ty_24, ty_25, ty_27, notIf, isEq, k1, e1, hgx, h8, hzb, hc2, hfl, bytes_length, bytes_app, hap2]
      refine ⟨11 + h - (i + 1), _, by omega, ?_, i + 1, by omega, rfl, rfl⟩
      rw [hns]
      simp only [runB, finC, finD, AS.get, AS.mem, false_implies, implies_true, ↓reduceIte, Nat.reduceEqDiff, Option.isSome_some, Option.isSome_none, forall_eq_or_imp, forall_eq, reduceCtorEq, Nat.reduceAdd, Nat.reduceMul, List.zip_cons_cons, List.zip_nil_left, List.zip_nil_right, List.forall_mem_nil]
      first | done | (simp; omega)
    · have k1 : decide ((i : Int) < ((11 + h : Nat) : Int)) = false := by simp; omega
      obtain rfl : i = 11 + h := by omega
      have htk : L.take (11 + h) = L := List.take_of_length_le (by omega)
      rw [htk]
      have hfl : (pb ++ L.flatten).length = 2 + 8 * (11 + h) := by rw [List.length_append, hpb, all8_flat _ hL8, hLl]
      generalize pb ++ L.flatten = bi at hfl ⊢
      simp only [runA, runB, runC, runD, runE, runF, fieldE, storeE, binE, ↓reduceIte, Nat.reduceLT, Nat.reduceLeDiff, Nat.reduceEqDiff, Nat.reduceAdd, Nat.reduceMul, Nat.reduceSub, reduceCtorEq, putAt, unE, Nat.reduceBEq, convE, buildE, List.replicate, Int.reduceLT, Int.reduceLE, Int.reduceToNat, mkE, mapSetE, hN, hF, ty_3, ty_5, ty_9, ty_22, ty_24, ty_25, ty_27, notIf, isEq, k1, h5, q4, e9, bytesOf_bytes]
      refine drawnP_intro (by kernel_rfl) (by kernel_rfl) ?_
      simp only [runA, runB, runC, runD, runE, runF, fieldE, storeE, binE, ↓reduceIte, Nat.reduceLT, Nat.reduceLeDiff, Nat.reduceEqDiff, Nat.reduceAdd, Nat.reduceMul, Nat.reduceSub, reduceCtorEq, putAt, unE, Nat.reduceBEq, convE, buildE, List.replicate, Int.reduceLT, Int.reduceLE, Int.reduceToNat, mkE, mapSetE, hN, hF, ty_3, ty_5, ty_9, ty_22, ty_24, ty_25, ty_27, notIf, isEq, bytesOf_bytes]
      simp only [runB, finC, finD, Option.isSome_some, Option.isSome_none, ↓reduceIte, Nat.reduceEqDiff, Nat.reduceAdd, Nat.reduceMul, forall_eq_or_imp, forall_eq, implies_true, Nat.reduceBEq, reduceCtorEq, false_implies, List.zip_cons_cons, List.zip_nil_left, List.zip_nil_right, Nat.reduceLeDiff, List.forall_mem_nil, rs_13, agg_24, sz_24, keyAV]


variable {Γ : FuncId → Contract}


theorem toPCs_c (l : List PC) : toPCs (l.map .c) = some l := by
  induction l with
  | nil => rfl
  | cons x l ih => simp [toPCs, AV.toPC, ih]
theorem chunks_flat {z : Nat} : ∀ {rows : List (List PC)}, rowsOK z rows → chunks z rows.length rows.flatten = rows
  | [], _ => rfl
  | r :: rows, h => by
    have hr : r.length = z := h r (by simp)
    rw [List.length_cons, chunks, List.flatten_cons]
    rw [List.take_left' hr, List.drop_left' hr, chunks_flat (fun x hx => h x (by simp [hx]))]
theorem flat_len {z : Nat} {rows : List (List PC)} (h : rowsOK z rows) : (rows.flatten.map AV.c).length = rows.length * z := by
  rw [List.length_map, flatten_len h]
theorem flat_put {z : Nat} (h0 : 0 < z) : ∀ {rows : List (List PC)} {i : Nat} {r : List PC}, rowsOK z rows → r.length = z → i < rows.length → putAt (rows.flatten.map AV.c) (i * z) (r.map .c) = (rows.set i r).flatten.map AV.c
  | [], i, r, _, _, hi => by simp at hi
  | x :: rows, 0, r, h, hr, hi => by
    have hx : x.length = z := h x (by simp)
    simp only [putAt, Nat.zero_mul, List.take_zero, List.nil_append, Nat.zero_add, List.length_map, List.flatten_cons, List.map_append, List.set_cons_zero, hr]
    rw [List.drop_left' (by rw [List.length_map, hx])]
  | x :: rows, i + 1, r, h, hr, hi => by
    have hx : x.length = z := h x (by simp)
    have ih := flat_put h0 (rows := rows) (i := i) (r := r) (fun y hy => h y (by simp [hy])) hr (by simpa using hi)
    have e : (i + 1) * z = (x.map AV.c).length + i * z := by rw [List.length_map, hx, Nat.succ_mul]; omega
    simp only [putAt, List.flatten_cons, List.map_append, List.set_cons_succ] at ih ⊢
    rw [e, List.take_length_add_append, Nat.add_assoc, List.drop_length_add_append, List.append_assoc, List.append_assoc, ← ih]
    simp


theorem c_amds (ρ : Ren) (l : List PC) : AMds ρ (l.map .c) (l.map .c) := by
  induction l with
  | nil => trivial
  | cons x l ih => exact ⟨rfl, ih⟩
theorem c_E (me : Nat) (l : List PC) : cellsE me (l.map .c) = .ret (l.map .c, []) := by
  induction l with
  | nil => rfl
  | cons x l ih =>
    show cellsE me (.c x :: l.map .c) = _
    simp only [cellsE, AV.toPC, ih, EP.bind]
    rfl
theorem c_back (me : Nat) (l : List PC) (rs : List Nat) : backCells me (l.map .c) rs = (l.map .c, []) := by
  induction l with
  | nil => rfl
  | cons x l ih =>
    show backCells me (.c x :: l.map .c) rs = _
    simp only [backCells, ih]
    rfl
theorem c_At (nm : Nat → Nat) (me : Nat) (l : List PC) : ∀ j, cellsAt nm me j (l.map .c) = (l.map .c, []) := by
  induction l with
  | nil => intro j; rfl
  | cons x l ih =>
    intro j
    show cellsAt nm me j (.c x :: l.map .c) = _
    simp only [cellsAt, ih]
    rfl
theorem c_pairs (nm : Nat → Nat) (l : List PC) : ∀ (j : Nat) (cs : List AV), cellPairs nm j cs (l.map .c) = ([], []) := by
  induction l with
  | nil => intro j cs; cases cs <;> rfl
  | cons x l ih =>
    intro j cs
    cases cs with
    | nil => rfl
    | cons y cs =>
      show cellPairs nm j (y :: cs) (.c x :: l.map .c) = _
      unfold cellPairs
      split <;> first | (rename_i h1 h2; cases h2; done) | exact ih _ _
theorem ovc_inj {l l' : List PC} (h : l.map OV.c = l'.map OV.c) : l = l' := (List.map_inj_right (fun _ _ h => OV.c.inj h)).1 h
theorem flat_rows_inj {z : Nat} (hz : 0 < z) : ∀ {a b : List (List PC)}, rowsOK z a → rowsOK z b → a.flatten = b.flatten → a = b
  | [], [], _, _, _ => rfl
  | [], y :: b, _, hb, h => by
    have hy : y.length = z := hb y (by simp)
    have := congrArg List.length h
    rw [List.flatten_cons, List.length_append, List.flatten_nil, List.length_nil] at this
    omega
  | x :: a, [], ha, _, h => by
    have hx : x.length = z := ha x (by simp)
    have := congrArg List.length h
    rw [List.flatten_cons, List.length_append, List.flatten_nil, List.length_nil] at this
    omega
  | x :: a, y :: b, ha, hb, h => by
    have hx : x.length = z := ha x (by simp)
    have hy : y.length = z := hb y (by simp)
    simp only [List.flatten_cons] at h
    obtain ⟨e1, e2⟩ := List.append_inj h (by omega)
    rw [e1, flat_rows_inj hz (fun r hr => ha r (by simp [hr])) (fun r hr => hb r (by simp [hr])) e2]

/-- A contract that takes no objects answers nothing where there are some. -/
theorem mkC_noobj {α : Type} {ok : α → Prop} {A : α → List AV} {R : α → CRes} (xs : List AV) (o : List OV) (os : List (List OV)) : mkC ok A (fun _ => []) R xs (o :: os) = none := by
  cases h : mkC ok A (fun _ => []) R xs (o :: os) with
  | none => rfl
  | some r =>
    obtain ⟨a, _, _, h2, _⟩ := mkC_inv h
    cases h2

/-- Rows that are lent. -/
theorem lendR_rows {z : Nat} (hz : 0 < z) {rows : List (List PC)} (h : rowsOK z rows) : lendR rows.flatten rows.length = some rows := by
  have hl : rows.flatten.length = rows.length * z := flatten_len h
  unfold lendR
  rw [hl]
  rcases Nat.eq_zero_or_pos rows.length with h0 | h0
  · have : rows = [] := List.length_eq_zero_iff.1 h0
    subst this
    simp [chunks]
  · rw [Nat.mul_div_cancel_left _ h0, if_pos ⟨rfl, .inr (Nat.mul_pos h0 hz)⟩, chunks_flat h]
theorem scRows_of {rows : List (List PC)} (h : ∀ r ∈ rows, ∀ c ∈ r, scPC c = true) : scRows rows = true := by
  induction rows with
  | nil => rfl
  | cons r rows ih =>
    simp only [scRows, Bool.and_eq_true, List.all_eq_true]
    exact ⟨h r (by simp), ih fun x hx => h x (by simp [hx])⟩

end Go.Proofs.Ytldehcnaepgamaa.AM
