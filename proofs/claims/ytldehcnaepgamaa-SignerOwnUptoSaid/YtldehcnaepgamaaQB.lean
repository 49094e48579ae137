/-
  QB: Mk5 AmR Mk6 Mk7 Mk8 Mk9.
-/
import Derived.Test.YtldehcnaepgamaaQA
import Derived.Test.YtldehcnaepgamaaQ6
import Derived.RangeFuncLeaves
import Derived.RangeFuncFrom
import Derived.RangeFuncNested
import Derived.RangeFuncCalls
import Derived.RangeFuncBox
import Derived.Shelf.Abstract
import Derived.Shelf.RegionOpen
import Derived.WalkKit
import Derived.OwnWalkIn
import Derived.TacticsInMore
import Derived.LoopNIn
import Derived.LoopIn
set_option linter.unusedVariables false
set_option linter.unusedSimpArgs false
namespace Go.Proofs.Ytldehcnaepgamaa.AM
open Go

variable {Γ : FuncId → Contract}

structure Pa where
  l : List (List UInt8)
  a : Int
def paOK (p : Pa) : Prop := Okl p.l
noncomputable def pathC : Contract := mkC (α := Pa) paOK (fun p => [.c (.sl (texts p.l)), .c (.int .i64 p.a)]) (fun _ => []) (fun p => ⟨[.pv (.c (.sl (texts (pathS p.l p.a).1))), .pv (.c (.int .i64 (pathS p.l p.a).2))], []⟩)
theorem path_at (l : List (List UInt8)) (a : Int) (h : Okl l) : pathC [.c (.sl (texts l)), .c (.int .i64 a)] [] = some ⟨[.pv (.c (.sl (texts (pathS l a).1))), .pv (.c (.int .i64 (pathS l a).2))], []⟩ :=
  mkC_at (α := Pa) ⟨l, a⟩ h (by
    rintro ⟨l', a'⟩ _ h' _
    simp only [List.cons.injEq, AV.c.injEq, PC.int.injEq, PC.sl.injEq, true_and, and_true] at h'
    obtain ⟨h', rfl⟩ := h'
    obtain rfl := texts_inj h'
    rfl)

set_option maxRecDepth 100000 in
set_option maxHeartbeats 1000000 in
theorem refPath_sound (hΓ : SoundG Try.prog Γ) (h2 : Γ 67 = upC) : SoundC Try.prog 60 pathC := by
  refine sound_fn Try.func60 (by kernel_rfl) rfl rfl ?_
  intro args objs r hr
  obtain ⟨⟨l, a⟩, hl, rfl, rfl, rfl⟩ := mkC_inv hr
  have hl : Okl l := hl
  refine ⟨rfl, by show 2 ≤ _; decide, fun E hN hns hF => ?_⟩
  refine vc_sound hΓ mixed _ _ _ ?_
  have hN := hN.trans nt_60
  dsimp only
  by_cases hneg : a < 0
  · have hS : pathS l a = ([], 4) := by unfold pathS; rw [if_pos (.inl hneg)]
    have g1 : decide (a < 0) = true := by simpa using hneg
    simp only [runA, runB, runC, runD, runE, runF, fieldE, storeE, binE, ↓reduceIte, Nat.reduceLT, Nat.reduceLeDiff, Nat.reduceEqDiff, Nat.reduceAdd, Nat.reduceMul, Nat.reduceSub, reduceCtorEq, putAt, unE, Nat.reduceBEq, convE, buildE, List.replicate, Int.reduceLT, Int.reduceLE, Int.reduceToNat, mkE, mapSetE, hN, hF, ty_3, ty_9, ty_22, notIf, isEq, g1]
    simp only [runB, finC, finD, Option.isSome_some, Option.isSome_none, ↓reduceIte, Nat.reduceEqDiff, Nat.reduceAdd, Nat.reduceMul, forall_eq_or_imp, forall_eq, implies_true, Nat.reduceBEq, reduceCtorEq, false_implies, List.zip_cons_cons, List.zip_nil_left, List.zip_nil_right, Nat.reduceLeDiff, List.forall_mem_nil, rs_60, hS, texts, List.map_nil]
  have g1 : decide (a < 0) = false := by simpa using hneg
  by_cases hge : (l.length : Int) ≤ a
  · have hS : pathS l a = ([], 4) := by unfold pathS; rw [if_pos (.inr hge)]
    have g2 : decide (a ≥ (l.length : Int)) = true := by simpa using hge
    simp only [runA, runB, runC, runD, runE, runF, fieldE, storeE, binE, ↓reduceIte, Nat.reduceLT, Nat.reduceLeDiff, Nat.reduceEqDiff, Nat.reduceAdd, Nat.reduceMul, Nat.reduceSub, reduceCtorEq, putAt, unE, Nat.reduceBEq, convE, buildE, List.replicate, Int.reduceLT, Int.reduceLE, Int.reduceToNat, mkE, mapSetE, hN, hF, ty_3, ty_9, ty_22, notIf, isEq, g1, g2, texts_length]
    simp only [runB, finC, finD, Option.isSome_some, Option.isSome_none, ↓reduceIte, Nat.reduceEqDiff, Nat.reduceAdd, Nat.reduceMul, forall_eq_or_imp, forall_eq, implies_true, Nat.reduceBEq, reduceCtorEq, false_implies, List.zip_cons_cons, List.zip_nil_left, List.zip_nil_right, Nat.reduceLeDiff, List.forall_mem_nil, rs_60, hS, texts, List.map_nil]
  have g2 : decide (a ≥ (l.length : Int)) = false := by simpa using hge
  obtain ⟨A, rfl⟩ : ∃ A : Nat, a = (A : Int) := ⟨a.toNat, by omega⟩
  have hAl : A < l.length := by omega
  have hl1 : l.length ≤ 1099511627 := hl.1
  simp only [runA, runB, runC, runD, runE, runF, fieldE, storeE, binE, ↓reduceIte, Nat.reduceLT, Nat.reduceLeDiff, Nat.reduceEqDiff, Nat.reduceAdd, Nat.reduceMul, Nat.reduceSub, reduceCtorEq, putAt, unE, Nat.reduceBEq, convE, buildE, List.replicate, Int.reduceLT, Int.reduceLE, Int.reduceToNat, mkE, mapSetE, hN, hF, ty_3, ty_9, ty_22, notIf, isEq, g1, g2, texts_length]
  refine AWP.loop (fun c st => ∃ j : Nat, (j = 0 ∨ 2 ^ (j - 1) < l.length) ∧ c = 2 * l.length - 2 ^ j ∧ st = ⟨[(0, .c (.sl (texts l))), (1, .c (.int .i64 (A : Int))), (6, .c (.int .i64 ((2 ^ j : Nat) : Int)))], []⟩) ⟨2 * l.length - 1, _, ?w, 0, .inl rfl, rfl, rfl⟩ ?r
  case w =>
    rw [hns]
    simp only [runB, finC, finD, AS.get, AS.mem, false_implies, implies_true, ↓reduceIte, Nat.reduceEqDiff, Option.isSome_some, Option.isSome_none, forall_eq_or_imp, forall_eq, reduceCtorEq, Nat.reduceAdd, Nat.reduceMul, List.zip_cons_cons, List.zip_nil_left, List.zip_nil_right, List.forall_mem_nil]
    first | done | simp
  case r =>
    rintro c st ⟨j, hj, rfl, rfl⟩
    refine vc_sound hΓ mixed _ _ _ ?_
    have hj2 : 2 ^ j < 2 * l.length := by
      rcases hj with rfl | hj
      · simp; omega
      · rcases Nat.eq_zero_or_pos j with rfl | h0
        · simp; omega
        · have : 2 ^ j = 2 * 2 ^ (j - 1) := by rw [show j = (j - 1) + 1 from by omega, Nat.pow_succ]; simp; omega
          omega
    by_cases hlt : 2 ^ j < l.length
    · have g3 : decide (((2 ^ j : Nat) : Int) < (l.length : Int)) = true := by simp only [decide_eq_true_eq]; omega
      have hp : 1 ≤ 2 ^ j := Nat.one_le_two_pow
      have e1 : IntKind.i64.wrap (2 * ((2 ^ j : Nat) : Int)) = ((2 ^ (j + 1) : Nat) : Int) := by
        rw [wrapI (by omega), Nat.pow_succ]; omega
      have hs : 2 ^ (j + 1) = 2 * 2 ^ j := by rw [Nat.pow_succ]; omega
      simp only [runA, runB, runC, runD, runE, runF, fieldE, storeE, binE, ↓reduceIte, Nat.reduceLT, Nat.reduceLeDiff, Nat.reduceEqDiff, Nat.reduceAdd, Nat.reduceMul, Nat.reduceSub, reduceCtorEq, putAt, unE, Nat.reduceBEq, convE, buildE, List.replicate, Int.reduceLT, Int.reduceLE, Int.reduceToNat, mkE, mapSetE, hN, hF, ty_3, ty_9, ty_22, notIf, isEq, g3, e1, texts_length]
      refine ⟨2 * l.length - 2 ^ (j + 1), _, by omega, ?_, j + 1, .inr (by simpa using hlt), rfl, rfl⟩
      rw [hns]
      simp only [runB, finC, finD, AS.get, AS.mem, false_implies, implies_true, ↓reduceIte, Nat.reduceEqDiff, Option.isSome_some, Option.isSome_none, forall_eq_or_imp, forall_eq, reduceCtorEq, Nat.reduceAdd, Nat.reduceMul, List.zip_cons_cons, List.zip_nil_left, List.zip_nil_right, List.forall_mem_nil]
      first | done | simp
    · have g3 : decide (((2 ^ j : Nat) : Int) < (l.length : Int)) = false := by simp only [decide_eq_false_iff_not]; omega
      by_cases hne : 2 ^ j = l.length
      · have hpow : powN l.length = true := by rw [← hne]; exact powN_of j
        have hS : pathS l (A : Int) = (pathP l A, 0) := by unfold pathS; rw [if_neg (by omega), if_pos hpow]; rfl
        have g4 : (((2 ^ j : Nat) : Int) != (l.length : Int)) = false := by simp [hne]
        simp only [runA, runB, runC, runD, runE, runF, fieldE, storeE, binE, ↓reduceIte, Nat.reduceLT, Nat.reduceLeDiff, Nat.reduceEqDiff, Nat.reduceAdd, Nat.reduceMul, Nat.reduceSub, reduceCtorEq, putAt, unE, Nat.reduceBEq, convE, buildE, List.replicate, Int.reduceLT, Int.reduceLE, Int.reduceToNat, mkE, mapSetE, hN, hF, ty_3, ty_9, ty_22, notIf, isEq, g3, g4, texts_length]
        refine AWP.loop (fun c st => ∃ (m : List (List UInt8)) (B : Nat) (out : List (List UInt8)), Okl m ∧ B < m.length ∧ powN m.length = true ∧ pathP l A = out ++ pathP m B ∧ out.length + m.length ≤ l.length ∧ c = m.length ∧
          st = ⟨[(0, .c (.sl (texts m))), (1, .c (.int .i64 (B : Int))), (7, .own 449 1 (texts out))], [(449, .row 1 out.length)]⟩) ⟨l.length, _, ?w2, l, A, [], hl, hAl, hpow, rfl, by simp, rfl, rfl⟩ ?r2
        case w2 =>
          rw [hns]
          simp only [runB, finC, finD, AS.get, AS.mem, false_implies, implies_true, ↓reduceIte, Nat.reduceEqDiff, Option.isSome_some, Option.isSome_none, forall_eq_or_imp, forall_eq, reduceCtorEq, Nat.reduceAdd, Nat.reduceMul, List.zip_cons_cons, List.zip_nil_left, List.zip_nil_right, List.forall_mem_nil]
          first | done | simp [texts]
        case r2 =>
          rintro c st ⟨m, B, out, hm, hB, hmp, hpath, hol, rfl, rfl⟩
          refine vc_sound hΓ mixed _ _ _ ?_
          have hu := up_at m hm
          have hul := upS_length m
          have hm1 := hm.1
          by_cases hgt : 1 < m.length
          · obtain ⟨hp1, hp2⟩ := powN_half hmp hgt
            have g5 : decide ((m.length : Int) > 1) = true := by simp; omega
            have e2 := tmod_two B
            have h20 : ((2 : Int) = 0) = False := by simp
            have e3 := tdiv_two B (by omega)
            have hz := rowsOK_texts
            have hL : (out.length + 1) * 16 ≤ 140737488355328 := by omega
            have hnb : nb B < m.length := by unfold nb; split <;> omega
            obtain ⟨s, hs⟩ : ∃ s, m[nb B]? = some s := ⟨m[nb B], by simp [hnb]⟩
            rw [pathP_gt (l := m) (by omega), show m.getD (nb B) [] = s from by simp [List.getD, hs]] at hpath
            have hsr : (texts m)[nb B]? = some [PC.str s] := by simp [texts, hs]
            have hlo : (out ++ [s]).length = out.length + 1 := by simp
            have hfin : pathP l A = (out ++ [s]) ++ pathP (upS m) (B / 2) := by rw [hpath]; simp
            by_cases ho : B % 2 = 1
            · have g6 : (((B % 2 : Nat) : Int) == 1) = true := by simp; omega
              have e4 : IntKind.i64.wrap ((B : Int) - 1) = ((nb B : Nat) : Int) := by unfold nb; rw [if_pos ho, wrapI (by omega)]; omega
              simp only [runA, runB, runC, runD, runE, runF, fieldE, storeE, binE, ↓reduceIte, Nat.reduceLT, Nat.reduceLeDiff, Nat.reduceEqDiff, Nat.reduceAdd, Nat.reduceMul, Nat.reduceSub, reduceCtorEq, putAt, unE, Nat.reduceBEq, convE, buildE, List.replicate, Int.reduceLT, Int.reduceLE, Int.reduceToNat, mkE, mapSetE, hN, hF, ty_3, ty_9, ty_22, notIf, isEq, g5, h20, e2, g6, e4, hsr, hz, hL, texts1, texts_app, texts_length, h2, hu, e3]
              refine ⟨(upS m).length, _, by omega, ?_, upS m, B / 2, out ++ [s], upS_ok hm, by omega, by rw [show (upS m).length = m.length / 2 from by omega]; exact hp2, hfin, by omega, rfl, rfl⟩
              rw [hns]
              simp only [runB, finC, finD, AS.get, AS.mem, false_implies, implies_true, ↓reduceIte, Nat.reduceEqDiff, Option.isSome_some, Option.isSome_none, forall_eq_or_imp, forall_eq, reduceCtorEq, Nat.reduceAdd, Nat.reduceMul, List.zip_cons_cons, List.zip_nil_left, List.zip_nil_right, List.forall_mem_nil]
              first | done | simp [hlo]
            · have g6 : (((B % 2 : Nat) : Int) == 1) = false := by simp; omega
              have e4 : IntKind.i64.wrap ((B : Int) + 1) = ((nb B : Nat) : Int) := by unfold nb; rw [if_neg ho, wrapI (by omega)]; omega
              simp only [runA, runB, runC, runD, runE, runF, fieldE, storeE, binE, ↓reduceIte, Nat.reduceLT, Nat.reduceLeDiff, Nat.reduceEqDiff, Nat.reduceAdd, Nat.reduceMul, Nat.reduceSub, reduceCtorEq, putAt, unE, Nat.reduceBEq, convE, buildE, List.replicate, Int.reduceLT, Int.reduceLE, Int.reduceToNat, mkE, mapSetE, hN, hF, ty_3, ty_9, ty_22, notIf, isEq, g5, h20, e2, g6, e4, hsr, hz, hL, texts1, texts_app, texts_length, h2, hu, e3]
              refine ⟨(upS m).length, _, by omega, ?_, upS m, B / 2, out ++ [s], upS_ok hm, by omega, by rw [show (upS m).length = m.length / 2 from by omega]; exact hp2, hfin, by omega, rfl, rfl⟩
              rw [hns]
              simp only [runB, finC, finD, AS.get, AS.mem, false_implies, implies_true, ↓reduceIte, Nat.reduceEqDiff, Option.isSome_some, Option.isSome_none, forall_eq_or_imp, forall_eq, reduceCtorEq, Nat.reduceAdd, Nat.reduceMul, List.zip_cons_cons, List.zip_nil_left, List.zip_nil_right, List.forall_mem_nil]
              first | done | simp [hlo]
          · have g5 : decide ((m.length : Int) > 1) = false := by simp; omega
            rw [pathP_le (l := m) (by omega), List.append_nil] at hpath
            simp only [runA, runB, runC, runD, runE, runF, fieldE, storeE, binE, ↓reduceIte, Nat.reduceLT, Nat.reduceLeDiff, Nat.reduceEqDiff, Nat.reduceAdd, Nat.reduceMul, Nat.reduceSub, reduceCtorEq, putAt, unE, Nat.reduceBEq, convE, buildE, List.replicate, Int.reduceLT, Int.reduceLE, Int.reduceToNat, mkE, mapSetE, hN, hF, ty_3, ty_9, ty_22, notIf, isEq, g5, texts_length]
            simp only [runB, finC, finD, Option.isSome_some, Option.isSome_none, ↓reduceIte, Nat.reduceEqDiff, Nat.reduceAdd, Nat.reduceMul, forall_eq_or_imp, forall_eq, implies_true, Nat.reduceBEq, reduceCtorEq, false_implies, List.zip_cons_cons, List.zip_nil_left, List.zip_nil_right, Nat.reduceLeDiff, List.forall_mem_nil, rs_60, hS, hpath]
      · have hnp : ¬ powN l.length = true := by
          intro h
          obtain ⟨i, hi⟩ := powN_to h
          have h3 : 2 ^ i < 2 ^ j := by omega
          have h4 : i < j := (Nat.pow_lt_pow_iff_right (by decide)).1 h3
          rcases hj with rfl | hj
          · omega
          · have h5 : 2 ^ i ≤ 2 ^ (j - 1) := Nat.pow_le_pow_right (by decide) (by omega)
            omega
        have hS : pathS l (A : Int) = ([], 3) := by unfold pathS; rw [if_neg (by omega), if_neg hnp]
        have g4 : (((2 ^ j : Nat) : Int) != (l.length : Int)) = true := by
          simp only [bne_iff_ne, ne_eq]; omega
        simp only [runA, runB, runC, runD, runE, runF, fieldE, storeE, binE, ↓reduceIte, Nat.reduceLT, Nat.reduceLeDiff, Nat.reduceEqDiff, Nat.reduceAdd, Nat.reduceMul, Nat.reduceSub, reduceCtorEq, putAt, unE, Nat.reduceBEq, convE, buildE, List.replicate, Int.reduceLT, Int.reduceLE, Int.reduceToNat, mkE, mapSetE, hN, hF, ty_3, ty_9, ty_22, notIf, isEq, g3, g4, texts_length]
        simp only [runB, finC, finD, Option.isSome_some, Option.isSome_none, ↓reduceIte, Nat.reduceEqDiff, Nat.reduceAdd, Nat.reduceMul, forall_eq_or_imp, forall_eq, implies_true, Nat.reduceBEq, reduceCtorEq, false_implies, List.zip_cons_cons, List.zip_nil_left, List.zip_nil_right, Nat.reduceLeDiff, List.forall_mem_nil, rs_60, hS, texts, List.map_nil]

open Go Go.RowKit

section
variable {P : Program} {E : Env} {Γ : FuncId → Contract}

theorem home_kind {G : Gh} {w : World} {c : Option MC} {h : Home} {b : Nat} (hh : HomeOK E G w c (some h)) (hb : h.blk = some b) : ∃ o, w.heap[b]? = some o ∧ (∀ ds, o ≠ .deferred ds) ∧ ∀ r, o ≠ .loop r := by
  cases c with
  | none => cases hh
  | some c =>
    cases c with
    | obj cells fz =>
      cases h with
      | obj b' => simp only [Home.blk, Option.some.injEq] at hb; subst hb; obtain ⟨vs, ty, h1, _⟩ := hh; exact ⟨_, h1, by simp, by simp⟩
      | row => exact hh.elim
    | row z fr =>
      cases h with
      | obj b' => exact hh.elim
      | row z' bk fr' =>
        obtain ⟨_, _, hr⟩ := hh
        cases bk with
        | none => simp [Home.blk] at hb
        | some p => obtain ⟨b', cap⟩ := p; simp only [Home.blk, Option.map_some, Option.some.injEq] at hb; subst hb; obtain ⟨vs, ty, ⟨_, h1, _⟩, _⟩ := hr; exact ⟨_, h1, by simp, by simp⟩
    | mp ag es =>
      cases h with
      | obj b' => simp only [Home.blk, Option.some.injEq] at hb; subst hb; obtain ⟨vs, cl, h1, _⟩ := hh; exact ⟨_, h1, by simp, by simp⟩
      | row => exact hh.elim

/-- A block turns that nobody names. -/
theorem MRel.turned {G : Gh} {m : Nat → Option MC} {w w' : World} (R : MRel E G m w) {D : Nat} (hD : ∀ n x, G.h n = some x → x.blk ≠ some D) (hne : ∀ k, k ≠ D → w'.heap[k]? = w.heap[k]?)
    (hos : w'.os = w.os) (htape : w'.tape = w.tape) (hout : w'.output = w.output) (hsz : w.heap.size ≤ w'.heap.size) (hB : E.B ≤ D) (hK : ∀ o, G.K D o = none) : MRel E G m w' := by
  refine ⟨fun b o v h => ?_, fun n => (R.home n).keep (Gh.le_refl G) fun x b e1 e2 => ⟨hne b fun e => hD n x e1 (e ▸ e2), fun _ => rfl⟩, R.inj, hos.trans R.os, htape.trans R.tape, hout.trans R.output,
    Nat.le_trans R.size0 hsz, Nat.le_trans R.sizeB hsz, fun k hk hx => (hne k (by omega)).trans (R.blk k hk hx), R.k0, R.kfr⟩
  by_cases e : b = D
  · subst e; rw [hK o] at h; cases h
  · rw [cell_same (hne b e)]; exact R.agree b o v h

/-- The view of a piece of code that keeps all names. -/
def Env.fo (E : Env) (G : Gh) (s : AS) (w : World) (ro : Option Nat) (dfs : List Deferred) : Env where
  N := E.N
  ns := keys s.m
  H0 := G.h
  w0 := w
  B := w.heap.size
  Ext b := ∃ n h, G.h n = some h ∧ h.blk = some b
  K0 := G.K
  ro := ro
  dfs := dfs

theorem keys_home {G : Gh} {s : AS} {w : World} (M : MRel E G s.mem w) {n : Nat} (hn : n ∈ keys s.m) : ∃ h, G.h n = some h := by
  obtain ⟨c, hc⟩ := look_some (l := s.m) hn
  have := M.home n
  cases hg : G.h n with
  | none => rw [show s.mem n = some c from hc, hg] at this; cases c <;> exact this.elim
  | some x => exact ⟨x, rfl⟩
theorem home_keys {G : Gh} {s : AS} {w : World} (M : MRel E G s.mem w) {n : Nat} {h : Home} (hg : G.h n = some h) : n ∈ keys s.m := by
  have := M.home n
  cases hc : s.mem n with
  | none => rw [hc, hg] at this; exact this.elim
  | some c => exact List.mem_map_of_mem (f := (·.1)) (look_mem hc)

theorem fo_out {G G' : Gh} {s : AS} {w w' : World} {m' : Nat → Option MC} {ro : Option Nat} {dfs : List Deferred} (M : MRel E G s.mem w) (M' : MRel (E.fo G s w ro dfs) G' m' w')
    (hent : ∀ n ∈ keys s.m, ∃ h h', G.h n = some h ∧ G'.h n = some h' ∧ Home.le h h') :
    G.le G' ∧ MRel E G' m' w' ∧ ∀ b, b < w.heap.size → (∀ n h, G.h n = some h → h.blk ≠ some b) → w'.heap[b]? = w.heap[b]? := by
  have hm' : ∀ n h, G.h n = some h → m' n ≠ none := fun n h e hn => by
    obtain ⟨x, x', e1, e2, _⟩ := hent n (home_keys M e)
    have := M'.home n
    rw [hn, e2] at this; exact this.elim
  have hle : ∀ n h, G.h n = some h → m' n ≠ none → ∃ h', G'.h n = some h' ∧ Home.le h h' := fun n h e _ => by
    obtain ⟨x, x', e1, e2, l⟩ := hent n (home_keys M e)
    rw [e] at e1; cases e1
    exact ⟨x', e2, l⟩
  have M1 : MRel (cEnv w (E.fo G s w ro dfs).Ext G.K) G' m' w' := M'.conv rfl rfl rfl rfl
  obtain ⟨z1, z2, z3⟩ := M.merge M1 (fun b ⟨n, h, e1, e2⟩ => ⟨n, h, e1, e2, hm' n h e1⟩) hle
  have hG : (⟨G'.K, fun n => match m' n with | some _ => G'.h n | none => G.h n⟩ : Gh) = G' := by
    have : (fun n => match m' n with | some _ => G'.h n | none => G.h n) = G'.h := by
      funext n
      cases hn : m' n with
      | some c => rfl
      | none =>
        have h1 := M'.home n
        rw [hn] at h1
        rw [h1.none_of]
        cases hg : G.h n with
        | none => rfl
        | some h => exact absurd hn (hm' n h hg)
    rw [this]
  have z1' : G.le (⟨G'.K, fun n => match m' n with | some _ => G'.h n | none => G.h n⟩ : Gh) := z1
  have z3' : MRel E (⟨G'.K, fun n => match m' n with | some _ => G'.h n | none => G.h n⟩ : Gh) (fun n => match m' n with | some c => some c | none => s.mem n) w' := z3
  rw [hG] at z1' z3'
  refine ⟨z1', z3'.congr fun n => ?_, fun b hb hn => M'.blk b hb (fun ⟨n, h, e1, e2⟩ => hn n h e1 e2)⟩
  cases hn : m' n with
  | some c => rfl
  | none =>
    cases hs : s.mem n with
    | none => rfl
    | some c =>
      exfalso
      have h1 := M.home n
      cases hg : G.h n with
      | none => rw [hs, hg] at h1; cases c <;> exact h1.elim
      | some h => exact hm' n h hg hn

theorem fo_rel {G : Gh} {s : AS} {a : Act} {w : World} (R : Rel E G s a w) (ro : Option Nat) : Rel (E.fo G s w ro a.defers) G s a w :=
  ⟨R.size, rfl, R.tmps, R.mem.focus.conv rfl rfl rfl rfl, fun n hn => let ⟨h, e⟩ := keys_home R.mem hn; ⟨h, h, e, e, Home.le_refl h⟩⟩

def markOf (D : Nat) : Deferred := { target := .collected D, args := #[] }
/-- What is deferred: nothing, or a range's own block. -/
def Marks (B : Nat) (w : World) : Bool → List Deferred → Prop
  | false, ds => ds = []
  | true, ds => ∃ D, ds = [markOf D] ∧ B ≤ D ∧ w.heap[D]? = some (.deferred (some []))
def RelM (E : Env) (b : Bool) (G : Gh) (s : AS) (a : Act) (w : World) : Prop := Rel { E with dfs := a.defers } G s a w ∧ Marks E.B w b a.defers
def AWPm (P : Program) (E : Env) (b : Bool) (c : Code) (Q : Bool → Exit → AS → Prop) (s : AS) : Prop :=
  ∀ G a w, RelM E b G s a w → c.wpIn (rF E.ro) 0 P (fun e a' w' => ∃ b' G' s', Q b' e s' ∧ RelM E b' G' s' a' w') a w

def thenM (K : Bool → AS → Prop) (Q : Bool → Exit → AS → Prop) : Bool → Exit → AS → Prop
  | b, .normal, s => K b s
  | b, e, s => Q b e s
def inBlockM (id : Nat) (Q : Bool → Exit → AS → Prop) : Bool → Exit → AS → Prop
  | b, .exit id', s => if id' = id then Q b .normal s else Q b (.exit id') s
  | b, e, s => Q b e s

theorem AWPm.mono {b : Bool} {c : Code} {Q Q' : Bool → Exit → AS → Prop} {s : AS} (h : AWPm P E b c Q s) (hq : ∀ b e s, Q b e s → Q' b e s) : AWPm P E b c Q' s :=
  fun G a w R => wpIn_mono (h G a w R) fun e a' w' ⟨b', G', s', h2, h3⟩ => ⟨b', G', s', hq b' e s' h2, h3⟩
theorem AWPm.seq {b : Bool} {x y : Code} {Q : Bool → Exit → AS → Prop} {s : AS} (h : AWPm P E b x (thenM (fun b s => AWPm P E b y Q s) Q) s) : AWPm P E b (.seq x y) Q s := by
  intro G a w R
  refine wpIn_seq (wpIn_mono (h G a w R) ?_)
  rintro e a' w' ⟨b', G', s', h2, h3⟩
  cases e with
  | normal =>
    refine wpIn_mono (h2 G' a' w' h3) ?_
    exact fun e a2 w2 h => h
  | _ => exact ⟨b', G', s', h2, h3⟩
theorem AWPm.block {b : Bool} {id : Nat} {c : Code} {Q : Bool → Exit → AS → Prop} {s : AS} (h : AWPm P E b c (inBlockM id Q) s) : AWPm P E b (.block id c) Q s := by
  intro G a w R
  refine wpIn_block (wpIn_mono (h G a w R) ?_)
  rintro e a' w' ⟨b', G', s', h2, h3⟩
  cases e with
  | exit id' =>
    simp only [inBlockM] at h2
    simp only [Exit.inBlock]
    by_cases e : id' = id
    · rw [if_pos e] at h2 ⊢; exact ⟨b', G', s', h2, h3⟩
    · rw [if_neg e] at h2 ⊢; exact ⟨b', G', s', h2, h3⟩
  | _ => exact ⟨b', G', s', h2, h3⟩

theorem Marks.keep {B : Nat} {w w' : World} {b : Bool} {ds : List Deferred} (h : Marks B w b ds) (hk : ∀ D : Nat, w.heap[D]? = some (Obj.deferred (some [])) → w'.heap[D]? = w.heap[D]?) : Marks B w' b ds := by
  cases b with
  | false => exact h
  | true => obtain ⟨D, h1, h2, h3⟩ := h; exact ⟨D, h1, h2, (hk D h3).trans h3⟩

/-- Code that holds no range. -/
theorem AWPm.of {b : Bool} {c : Code} {Q : Bool → Exit → AS → Prop} {s : AS} (h : ∀ E' : Env, E'.N = E.N → E'.ns = keys s.m → AWP P E' c (Q b) s) : AWPm P E b c Q s := by
  rintro G a w ⟨R, hm⟩
  refine wpIn_mono (h (E.fo G s w E.ro a.defers) rfl rfl G a w (fo_rel R E.ro)) ?_
  rintro e a' w' ⟨G', s', hq, R2⟩
  obtain ⟨hle, M2, hblk⟩ := fo_out (R.mem.conv (E' := E) rfl rfl rfl rfl) R2.mem R2.ent
  have hd : a'.defers = a.defers := R2.defs
  refine ⟨b, G', s', hq, ⟨R2.size, rfl, R2.tmps, M2.conv rfl rfl rfl rfl, fun n hn => ?_⟩, ?_⟩
  · obtain ⟨x, x', e1, e2, l⟩ := R.ent n hn
    obtain ⟨y, e3, l2⟩ := hle.h n x' e2
    exact ⟨x, y, e1, e3, Home.le_trans l l2⟩
  · rw [hd]
    refine Marks.keep hm fun D h3 => hblk D (Array.getElem?_eq_some_iff.1 h3).1 fun n x e1 e2 => ?_
    obtain ⟨o, o1, o2, _⟩ := home_kind (e1 ▸ R.mem.home n) e2
    rw [h3] at o1
    cases o1
    exact o2 _ rfl

theorem AWPm.weak {b : Bool} {c : Code} {Q : Bool → Exit → AS → Prop} {s s2 : AS} (hw : Weak E.ns s s2) (h : AWPm P E b c Q s2) : AWPm P E b c Q s := by
  rintro G a w ⟨R, hm⟩
  obtain ⟨G', _, R2⟩ := hw.rel (E := { E with dfs := a.defers }) R
  exact h G' a w ⟨R2, hm⟩
theorem thenM_normal (K : Bool → AS → Prop) (Q : Bool → Exit → AS → Prop) (b : Bool) (s : AS) : thenM K Q b .normal s = K b s := rfl
theorem thenM_ret (K : Bool → AS → Prop) (Q : Bool → Exit → AS → Prop) (b : Bool) (s : AS) : thenM K Q b .ret s = Q b .ret s := rfl

/-- Between two rounds. -/
structure Btw (E : Env) (G0 : Gh) (l D : Nat) (rec : LoopState → Loop) (G : Gh) (m : List (Nat × MC)) (W : World) : Prop where
  mem : MRel E G (look m) W
  le : G0.le G
  loop : W.heap[l]? = some (.loop (rec .ready))
  dfr : W.heap[D]? = some (.deferred (some []))

theorem know_cells {G : Gh} {m : Nat → Option MC} {w : World} (M : MRel E G m w) {b : Nat} {o : Obj} (h : w.heap[b]? = some o) (ho : (∃ ds, o = .deferred ds) ∨ ∃ r, o = .loop r) (i : Nat) : G.K b i = none := by
  cases hk : G.K b i with
  | none => rfl
  | some v =>
    have := M.agree b i v hk
    rcases ho with ⟨ds, rfl⟩ | ⟨r, rfl⟩ <;> simp [World.cell?, h] at this
theorem home_not {G : Gh} {m : Nat → Option MC} {w : World} (M : MRel E G m w) {b : Nat} {o : Obj} (h : w.heap[b]? = some o) (ho : (∃ ds, o = .deferred ds) ∨ ∃ r, o = .loop r) (n : Nat) (x : Home) (e1 : G.h n = some x) : x.blk ≠ some b := by
  intro e2
  obtain ⟨o', o1, o2, o3⟩ := home_kind (e1 ▸ M.home n) e2
  rw [h] at o1
  cases o1
  rcases ho with ⟨ds, rfl⟩ | ⟨r, rfl⟩
  · exact o2 _ rfl
  · exact o3 _ rfl
theorem MRel.putLoop {G : Gh} {m : Nat → Option MC} {w : World} (M : MRel E G m w) {b : Nat} {r : Loop} (h : w.heap[b]? = some (.loop r)) (hB : E.B ≤ b) (o : Obj) : MRel E G m (w.putObj b o) :=
  M.turned (D := b) (home_not M h (.inr ⟨r, rfl⟩)) (fun k hk => World.putObj_heap_other hk) rfl rfl rfl (by simp) hB (know_cells M h (.inr ⟨r, rfl⟩))

/-- Code in a round's frame: what holds between two rounds stays. -/
theorem piece_round {c : Code} {Q : Exit → AS → Prop} {s : AS} {G : Gh} {a : Act} {W : World} {l D : Nat} (h : ∀ E' : Env, E'.N = E.N → E'.ns = keys s.m → AWP P E' c Q s)
    (hsz : a.tmps.size = E.N.n) (hd : a.defers = []) (ht : ∀ i, AR G (s.get i) (a.tmps.getD i Go.undef)) (M : MRel E G s.mem W) {r : Loop} (hl : W.heap[l]? = some (.loop r)) (hk : W.heap[D]? = some (.deferred (some []))) :
    c.wpIn (Fence.wide.inRound l) 0 P (fun e a' W' => ∃ G' s', Q e s' ∧ G.le G' ∧ a'.tmps.size = E.N.n ∧ a'.defers = [] ∧ (∀ i, AR G' (s'.get i) (a'.tmps.getD i Go.undef)) ∧ MRel E G' s'.mem W' ∧ W'.heap[l]? = some (.loop r) ∧ W'.heap[D]? = some (.deferred (some [])) ∧
      ∀ s2, Weak (keys s.m) s' s2 → ∃ G2, G.le G2 ∧ MRel E G2 s2.mem W') a W := by
  have R : Rel (E.fo G s W (some l) []) G s a W := ⟨hsz, hd, ht, M.focus.conv rfl rfl rfl rfl, fun n hn => let ⟨h, e⟩ := keys_home M hn; ⟨h, h, e, e, Home.le_refl h⟩⟩
  refine wpIn_mono (h (E.fo G s W (some l) []) rfl rfl G a W R) ?_
  rintro e a' W' ⟨G', s', hq, R2⟩
  obtain ⟨hle, M2, hblk⟩ := fo_out M R2.mem R2.ent
  refine ⟨G', s', hq, hle, R2.size, R2.defs, R2.tmps, M2, (hblk l (Array.getElem?_eq_some_iff.1 hl).1 (home_not M hl (.inr ⟨r, rfl⟩))).trans hl, (hblk D (Array.getElem?_eq_some_iff.1 hk).1 (home_not M hk (.inl ⟨_, rfl⟩))).trans hk, fun s2 hw => ?_⟩
  obtain ⟨G2, _, R3⟩ := hw.rel (E := E.fo G s W (some l) []) R2
  obtain ⟨hle3, M3, _⟩ := fo_out M R3.mem R3.ent
  exact ⟨G2, hle3, M3⟩

def assignT (s : AS) : List Tmp → List AV → List (Nat × AV)
  | p :: ps, x :: xs => assignT ⟨(p, x) :: s.t, s.m⟩ ps xs
  | _, _ => s.t

theorem assign_tmps {G : Gh} : ∀ (ps : List Tmp) (xs : List AV) (vals : List Value) (s : AS) (t : Array Value), ps.length = xs.length → vals.length = xs.length →
    (∀ i, AR G (s.get i) (t.getD i Go.undef)) → (∀ p ∈ ps, p < t.size) → (∀ (j : Nat) (x : AV) (v : Value), xs[j]? = some x → vals[j]? = some v → AR G x v) →
    ((ps.zip vals).foldl (fun t (p, v) => t.setIfInBounds p v) t).size = t.size ∧ ∀ i, AR G ((AS.mk (assignT s ps xs) s.m).get i) (((ps.zip vals).foldl (fun t (p, v) => t.setIfInBounds p v) t).getD i Go.undef)
  | [], [], [], s, t, _, _, h, _, _ => ⟨rfl, h⟩
  | p :: ps, x :: xs, v :: vals, s, t, h1, h2, h, hp, hx => by
    have hh : ∀ i, AR G ((AS.mk ((p, x) :: s.t) s.m).get i) ((t.setIfInBounds p v).getD i Go.undef) := by
      intro i
      have hpt := hp p (by simp)
      by_cases e : p = i
      · subst e
        have e1 : (AS.mk ((p, x) :: s.t) s.m).get p = x := by simp [AS.get, look]
        have e2 : (t.setIfInBounds p v).getD p Go.undef = v := by simp [hpt]
        rw [e1, e2]
        exact hx 0 x v rfl rfl
      · have e1 : (AS.mk ((p, x) :: s.t) s.m).get i = s.get i := by simp [AS.get, look, e]
        have e2 : (t.setIfInBounds p v).getD i Go.undef = t.getD i Go.undef := by simp [Array.getElem?_setIfInBounds_ne e]
        rw [e1, e2]
        exact h i
    obtain ⟨g1, g2⟩ := assign_tmps ps xs vals ⟨(p, x) :: s.t, s.m⟩ (t.setIfInBounds p v) (by simpa using h1) (by simpa using h2) hh (fun q hq => by simpa using hp q (by simp [hq])) (fun j y u e1 e2 => hx (j + 1) y u (by simpa using e1) (by simpa using e2))
    exact ⟨by rw [List.zip_cons_cons, List.foldl_cons, g1]; simp, g2⟩
  | [], _ :: _, _, _, _, h, _, _, _, _ => by simp at h
  | _ :: _, [], _, _, _, h, _, _, _, _ => by simp at h
  | [], [], _ :: _, _, _, _, h, _, _, _ => by simp at h
  | _ :: _, _ :: _, [], _, _, _, h, _, _, _ => by simp at h

/-- **A range over a function**: of the iterator's own walk: what it owes between the rounds; of each round: what the body owes. -/
theorem AWPm.range {g : Operand} {ps : Array Tmp} {assign body : Code} {Q : Bool → Exit → AS → Prop} {s : AS} {gf : Nat} {lb : Array Value} {G0 : Gh} {a : Act} {w : World}
    (hro : E.ro = none) (R : RelM E false G0 s a w) (hg : a.eval g = .func (.func gf) #[] lb) (henter : EnterOK P gf) (hps : ∀ p ∈ ps.toList, p < E.N.n)
    (n : Nat) (vs : Nat → List AV) (m m' : Nat → List (Nat × MC)) (mEnd : List (Nat × MC)) (hvs : ∀ i, i < n → (vs i).length = ps.size) (s1 : Nat → AS)
    (h0 : ∀ k, look (m 0) k = look s.m k)
    (hA : ∀ i, i < n → ∀ E' : Env, E'.N = E.N → E'.ns = keys (m i) → AWP P E' assign (fun e s' => e = .normal ∧ s' = s1 i) ⟨assignT ⟨s.t, m i⟩ ps.toList (vs i), m i⟩)
    (hB : ∀ i, i < n → ∀ E' : Env, E'.N = E.N → E'.ns = keys (s1 i).m → AWP P E' body (fun e s' => e = .normal ∧ Weak (keys (s1 i).m) s' ⟨[], m' i⟩) (s1 i))
    (hit : ∀ (l D : Nat) (rec : LoopState → Loop) (W : World) (G : Gh), E.B ≤ l → E.B ≤ D → Btw E G0 l D rec G (m 0) W →
      (∀ (i : Nat) (W : World) (G : Gh) (vals : List Value), i < n → Btw E G0 l D rec G (m i) W → vals.length = (vs i).length → (∀ (j : Nat) (x : AV) (v : Value), (vs i)[j]? = some x → vals[j]? = some v → AR G x v) →
        YieldAt Fence.wide 0 P l vals.toArray W fun e W' => e = .returned (.bool true) ∧ ∃ G', G.le G' ∧ Btw E G0 l D rec G' (m' i) W') →
      CallsIn Fence.wide 0 P gf (#[.func (.yield l) #[] #[]] ++ lb) W fun e W' => (∃ v, e = .returned v) ∧ ∃ G', Btw E G0 l D rec G' mEnd W')
    (hQ : Q true .normal ⟨s.t, mEnd⟩) :
    (Code.rangeFunc g ps assign body).wpIn (rF E.ro) 0 P (fun e a' w' => ∃ b' G' s', Q b' e s' ∧ RelM E b' G' s' a' w') a w := by
  obtain ⟨R, hd⟩ := R
  have hd : a.defers = [] := hd
  rw [hro]
  refine wpIn_rangeFunc (F := Fence.wide) ?_
  intro fn hfn
  obtain ⟨rec, hrec⟩ : ∃ rec : LoopState → Loop, rec = fun st => { state := st, pending := none, fn, tmps := a.tmps, params := ps, assign, body, defers := w.heap.size } := ⟨_, rfl⟩
  obtain ⟨W1, hW1⟩ : ∃ W1, (w.alloc (.deferred (some []))).alloc (.loop (rec .ready)) = W1 := ⟨_, rfl⟩
  have hL1 : W1.heap[w.heap.size + 1]? = some (.loop (rec .ready)) := by
    rw [← hW1]; have := World.alloc_heap_new (w.alloc (.deferred (some []))) (.loop (rec .ready)); rwa [World.size_alloc] at this
  have hK1 : W1.heap[w.heap.size]? = some (.deferred (some [])) := by
    rw [← hW1]; exact (Below.heap_alloc _ _ _ (by simp)).trans (World.alloc_heap_new w _)
  have M0 : MRel E G0 s.mem w := R.mem.conv rfl rfl rfl rfl
  have hold : ∀ b, b < w.heap.size → W1.heap[b]? = w.heap[b]? := fun b hb => by
    rw [← hW1]; exact (Below.heap_alloc _ _ _ (by simp; omega)).trans (Below.heap_alloc _ _ _ hb)
  have M1 : MRel E G0 (look (m 0)) W1 := by
    refine (M0.same (Know.le_refl _) rfl (fun b o v h => ?_) hold (fun _ _ _ => rfl) (by rw [← hW1]; rfl) (by rw [← hW1]; rfl) (by rw [← hW1]; rfl) (by rw [← hW1]; simp; omega)).congr h0
    rw [cell_same (hold b (M0.k_lt h))]; exact M0.agree b o v h
  have hB0 := M0.sizeB
  refine ⟨w.heap.size + 1, [markOf w.heap.size], W1, { target := .fn (.func gf) lb, args := #[.func (.yield (w.heap.size + 1)) #[] #[]] }, W1, gf,
    #[.func (.yield (w.heap.size + 1)) #[] #[]] ++ lb, W1, ?_, ?_, fun _ _ => trivial, ?_, by simp [Fence.wide], ?_⟩
  · rw [← hW1, hrec]; exact run_enterLoop_outer _ _ _ _ _
  · simp only [resolve, hg]
    simp [go_sem]
  · obtain ⟨fn', hf1, hf2, hf3⟩ := henter
    have hb : ¬ fn'.body = none := by intro e; rw [e] at hf3; cases hf3
    have hn : ¬ fn'.name = "runtime.NumGoroutine" := by simpa using hf2
    simp [invoke, go_sem, callFunc, hf1, hn, hb]
  · refine (hit (w.heap.size + 1) w.heap.size rec W1 G0 (by omega) hB0 ⟨M1, Gh.le_refl _, hL1, hK1⟩ ?_).mono ?_
    · intro i W G vals hi J hvl hv
      obtain ⟨M, hle, hl, hk⟩ := J
      have hlt := (Array.getElem?_eq_some_iff.1 hl).1
      have hy := run_yield (P := P) (args := vals.toArray) hl (by rw [hrec]; simp; rw [hvl, hvs i hi])
      obtain ⟨a1, ha1⟩ : ∃ a1 : Act, a1 = { tmps := ((rec .ready).params.zip vals.toArray).foldl (fun tmps (t, a) => tmps.setIfInBounds t a) (rec .ready).tmps, defers := [] } := ⟨_, rfl⟩
      have hz : ((rec .ready).params.zip vals.toArray).foldl (fun tmps (t, a) => tmps.setIfInBounds t a) (rec .ready).tmps = (ps.toList.zip vals).foldl (fun t (p, v) => t.setIfInBounds p v) a.tmps := by
        rw [hrec, ← Array.foldl_toList]
        simp
      obtain ⟨t1, t2⟩ := assign_tmps (G := G) ps.toList (vs i) vals ⟨s.t, m i⟩ a.tmps (by simp; rw [hvs i hi]) hvl (fun k => (R.tmps k).mono hle) (fun p hp => Nat.lt_of_lt_of_le (hps p hp) (Nat.le_of_eq (Eq.symm R.size))) hv
      rw [← hz] at t1 t2
      have hfnr : (rec .ready).fn = fn := by rw [hrec]
      have has : (rec .ready).assign = assign := by rw [hrec]
      have hbo : (rec .ready).body = body := by rw [hrec]
      refine ⟨_, _, _, _, hy, roundIn_of_wpIn (by rw [hfnr]; exact hfn) ?_⟩
      rw [has, hbo]
      refine wpIn_mono (piece_round (E := E) (G := G) (hA i hi) (a := { tmps := ((rec .ready).params.zip vals.toArray).foldl (fun tmps (t, a) => tmps.setIfInBounds t a) (rec .ready).tmps, defers := [] }) (by rw [t1]; exact R.size) rfl t2 M hl hk) ?_
      rintro e a2 W2 ⟨G2, s2, ⟨rfl, rfl⟩, hle2, z1, z2, z3, M2, hl2, hk2, _⟩
      refine ⟨_, run_beginRound hl2 (by rw [hrec]), ?_⟩
      have hlt2 := (Array.getElem?_eq_some_iff.1 hl2).1
      have M3 := M2.putLoop hl2 (by omega) (.loop { rec .ready with state := .busy })
      have hl3 : (W2.putObj (w.heap.size + 1) (.loop { rec .ready with state := .busy })).heap[w.heap.size + 1]? = some (.loop { rec .ready with state := .busy }) := World.putObj_heap_same hlt2
      have hk3 : (W2.putObj (w.heap.size + 1) (.loop { rec .ready with state := .busy })).heap[w.heap.size]? = some (.deferred (some [])) := (World.putObj_heap_other (by omega)).trans hk2
      refine wpIn_mono (piece_round (E := E) (G := G2) (hB i hi) z1 z2 z3 M3 hl3 hk3) ?_
      rintro e a4 W4 ⟨G4, s4, ⟨rfl, hw⟩, hle4, _, _, _, _, hl4, hk4, hwk⟩
      obtain ⟨G5, hle5, M5⟩ := hwk _ hw
      have hlt4 := (Array.getElem?_eq_some_iff.1 hl4).1
      refine ⟨_, _, run_endRound none hl4, rfl, G5, Gh.le_trans hle2 hle5, ?_⟩
      have e5 : ({ { rec .ready with state := .busy } with state := if (none : Option Code).isNone then .ready else .done, pending := none } : Loop) = rec .ready := by rw [hrec]; rfl
      rw [e5]
      exact ⟨M5.putLoop hl4 (by omega) _, Gh.le_trans hle (Gh.le_trans hle2 hle5), World.putObj_heap_same hlt4, (World.putObj_heap_other (by omega)).trans hk4⟩
    · rintro e W2 ⟨⟨v, rfl⟩, G, M, hle, hl, hk⟩
      have hel := run_endLoop (P := P) hl (by rw [hrec]; simp)
      have hpe : (rec .ready).pending = none := by rw [hrec]
      rw [hpe] at hel
      refine ⟨none, _, hel, true, G, ⟨s.t, mEnd⟩, hQ, ⟨R.size, rfl, fun i => (R.tmps i).mono hle, (M.putLoop hl (by omega) _).conv rfl rfl rfl rfl, fun k hk' => ?_⟩, w.heap.size, by rw [hd]; rfl, hB0, (World.putObj_heap_other (by omega)).trans hk⟩
      obtain ⟨x, x', e1, e2, l⟩ := R.ent k hk'
      obtain ⟨y, e3, l2⟩ := hle.h k x' e2
      exact ⟨x, y, e1, e3, Home.le_trans l l2⟩

/-- A call of a function that takes and gives pure values, from a view. -/
theorem MRel.call0 {G : Gh} {m : Nat → Option MC} {w : World} (M : MRel E G m w) {f : FuncId} {C : Contract} (hS : SoundC P f C) {args : List AV} {x : AV} (hC : C args [] = some ⟨[.pv x], []⟩) {vals : List Value} (hl : args.length = vals.length)
    (hx : ∀ (i : Nat) (x : AV) (v : Value), args[i]? = some x → vals[i]? = some v → AR ⟨G.K, fun _ => none⟩ x v) :
    Calls P f vals.toArray w fun e w' => ∃ G' v, e = .returned v ∧ G.le G' ∧ G'.h = G.h ∧ MRel E G' m w' ∧ AR G' x v ∧ (∀ b, b < w.heap.size → w'.heap[b]? = w.heap[b]?) ∧ w.heap.size ≤ w'.heap.size := by
  have M0 : MRel (cEnv w (fun _ => False) G.K) ⟨G.K, fun _ => none⟩ (look (entryMem 0 [])) w :=
    ⟨M.agree, fun n => trivial, fun n n' h h' b e => (by cases e), rfl, rfl, rfl, Nat.le_refl _, Nat.le_refl _, fun _ _ _ => rfl, Know.le_refl _, fun _ _ _ _ => rfl⟩
  refine Calls.mono ((hS.2 args [] _ hC).2 (fun _ => False) ⟨G.K, fun _ => none⟩ w vals M0 hl hx) ?_
  rintro e w' ⟨G', v, rfl, hle, M', hv⟩
  obtain ⟨z1, z2, z3⟩ := M.merge M' (fun b h => h.elim) (fun n h _ hne => absurd rfl hne)
  exact ⟨⟨G'.K, G.h⟩, v, rfl, z1, rfl, z3, hv.mono z2, fun b hb => M'.blk b hb (fun h => h), M'.sizeB⟩

/-- The region that makes an iterator: the argument at hand, the maker called. -/
theorem region_made {ro : Option Nat} {id : Nat} {ops : Array Oper} {o1 o2 : Oper} {c : Call} {u g : Tmp} {fr gf : FuncId} {ty : TypeId} {Q : Exit → Act → World → Prop} {a : Act} {w : World} {v : Value}
    (hops : ops = #[o1, o2]) (h1 : (execOp a.eval o1).run P w = .ok (.value v) w) (hnd : ∀ c, o1.op ≠ .defer c) (d1 : o1.dst = some u) (g1 : o1.guard = none) (h2 : o2.op = .call c) (hc : c.callee = .value (.func fr)) (hca : c.args = #[.tmp u]) (d2 : o2.dst = some g) (g2 : o2.guard = none)
    (hen : EnterOK P fr) (hu : u < a.tmps.size)
    (hcall : Calls P fr #[v] w fun e w' => e = .returned (.func (.func gf) #[] #[.pointer (some ⟨w.heap.size, 0, none⟩)]) ∧ w' = w.alloc (.cells #[v] ty))
    (k : Q .normal { a with tmps := (a.tmps.setIfInBounds u v).setIfInBounds g (.func (.func gf) #[] #[.pointer (some ⟨w.heap.size, 0, none⟩)]) } (w.alloc (.cells #[v] ty))) :
    (Code.region id ops false).wpIn (rF ro) 0 P Q a w := by
  subst hops
  refine wpIn_region_list ?_
  have w1 : ∀ y, Region.wanted o1 y = true := fun y => by simp [Region.wanted, g1]
  have w2 : ∀ y, Region.wanted o2 y = true := fun y => by simp [Region.wanted, g2]
  unfold wpListIn
  rw [if_pos (w1 _)]
  refine wpIn_of_wp ro hnd ?_
  unfold Oper.wp
  rw [h1, Oper.upon_value]
  unfold wpListIn
  rw [if_pos (w2 _)]
  refine wpIn_of_wp ro (fun c hc => by rw [h2] at hc; cases hc) ?_
  have hue : (a.put o1.dst v).eval (.tmp u) = v := by
    rw [d1]; simp [Act.eval, Act.put, hu]
  obtain ⟨fn', hf1, hf2, hf3⟩ := hen
  have hb : ¬ fn'.body = none := by intro e; rw [e] at hf3; cases hf3
  have hn : ¬ fn'.name = "runtime.NumGoroutine" := by simpa using hf2
  have hfe : (a.put o1.dst v).eval (.func fr) = .func (.func fr) #[] #[] := rfl
  have e2 : (execOp (a.put o1.dst v).eval o2).run P w = .ok (.enter fr #[v]) w := by
    simp [execOp, h2, resolve, hc, hfe, hca, hue, Deferred.ofValue, invoke, callFunc, hf1, hn, hb]
  unfold Oper.wp
  rw [e2, Oper.upon_enter]
  refine Calls.mono hcall ?_
  rintro e w' ⟨rfl, rfl⟩
  rw [d1, d2]
  exact k
theorem move_at {a : Act} {w : World} {o : Oper} {t0 : Tmp} {v : Value} (h : o.op = .move (.tmp t0)) (hv : a.tmps.getD t0 Go.undef = v) : (execOp a.eval o).run P w = .ok (.value v) w := by
  simp [execOp, h, Act.eval, hv]
/-- A function's contract out of what its body owes, a range over a function in it. -/
theorem sound_fnM (adv : Adv) {f : FuncId} {fn : Func} {body : Code} {N : Nat} {C : Contract} (hf : P.funcs[f]? = some fn) (hname : (fn.name == "runtime.NumGoroutine") = false) (hb : fn.body = some body) (hN : fn.ntmps = N)
    (htm : ∀ r ∈ fn.results.toList, ∃ t, r = .tmp t)
    (h : ∀ args objs r, C args objs = some r → resB r.res = true ∧ args.length ≤ N ∧
      ∀ E : Env, E.ro = none → E.N.n = N → E.ns = keys (entryMem 0 objs) → E.N.adv = adv → AWPm P E false body (fun _ => retQ P (keys (entryMem 0 objs)) fn r) ⟨entryT 0 args, entryMem 0 objs⟩) : SoundC P f C := by
  refine ⟨⟨fn, hf, hname, by rw [hb]; rfl⟩, fun args objs r hr => ?_⟩
  obtain ⟨h1, h2, h3⟩ := h args objs r hr
  refine ⟨fun x hx => resB_spec h1 x hx, fun Ext G w vals M hl hx => ?_⟩
  let E : Env := ⟨⟨N, adv⟩, keys (entryMem 0 objs), G.h, w, w.heap.size, Ext, G.K, none, []⟩
  have hnsG : ∀ n x, G.h n = some x → n ∈ keys (entryMem 0 objs) := by
    intro n x e
    have := M.home n
    cases hc : look (entryMem 0 objs) n with
    | none => rw [hc, e] at this; exact this.elim
    | some c => exact List.mem_map_of_mem (f := (·.1)) (look_mem hc)
  have hsz : vals.toArray.size = args.length := by simp [hl]
  have R0 : Rel E G ⟨entryT 0 args, entryMem 0 objs⟩ { tmps := vals.toArray ++ Array.replicate (fn.ntmps - vals.toArray.size) Go.undef, defers := [] } w := by
    refine ⟨?_, rfl, fun i => ?_, M.conv rfl rfl rfl rfl, fun n hn => ?_⟩
    · show (vals.toArray ++ Array.replicate (fn.ntmps - vals.toArray.size) Go.undef).size = N
      simp; omega
    · rcases Nat.lt_or_ge i args.length with hi | hi
      · have hg : (AS.mk (entryT 0 args) (entryMem 0 objs)).get i = args[i] := by
          have := entryT_get args 0 i args[i] (by simp [hi])
          rw [Nat.zero_add] at this
          simp only [AS.get, this, Option.getD_some]
        rw [hg]
        have hv : i < vals.length := by omega
        have : (vals.toArray ++ Array.replicate (fn.ntmps - vals.toArray.size) Go.undef).getD i Go.undef = vals[i] := by
          simp [Array.getElem?_append, hv]
        show AR G _ ((vals.toArray ++ Array.replicate (fn.ntmps - vals.toArray.size) Go.undef).getD i Go.undef)
        rw [this]
        exact hx i _ _ (by simp [hi]) (by simp [hv])
      · have hg : (AS.mk (entryT 0 args) (entryMem 0 objs)).get i = .undef := by
          simp only [AS.get, entryT_none args 0 i (by omega), Option.getD_none]
        rw [hg]; exact .undef _
    · obtain ⟨c, hc⟩ := look_some (l := entryMem 0 objs) hn
      have := M.home n
      have hx : ∃ x, G.h n = some x := by
        cases hg : G.h n with
        | none => rw [hc, hg] at this; cases c <;> exact this.elim
        | some x => exact ⟨x, rfl⟩
      obtain ⟨x, hg⟩ := hx
      exact ⟨x, x, hg, hg, Home.le_refl x⟩
  have hR0 : RelM E false G ⟨entryT 0 args, entryMem 0 objs⟩ { tmps := vals.toArray ++ Array.replicate (fn.ntmps - vals.toArray.size) Go.undef, defers := [] } w := ⟨R0, rfl⟩
  refine callsIn_wide.1 (callsIn_of_wp_marks (F := Fence.wide) (n := 0) hf hb trivial (wpIn_mono (h3 E rfl rfl rfl rfl G _ w hR0) ?_) rfl)
  rintro e a' w' ⟨b', G', s', hq, R', hm⟩
  have hany : ∀ (l : List ResultVar), (∀ r ∈ l, ∃ t, r = .tmp t) → ∀ (w1 w2 : World) (us : List Value), (l.mapM (resSem a'.tmps)).run P w1 = .ok us w1 → (l.mapM (resSem a'.tmps)).run P w2 = .ok us w2 := by
    intro l hl
    have key : ∀ (l : List ResultVar), (∀ r ∈ l, ∃ t, r = .tmp t) → ∃ us : List Value, ∀ w, (l.mapM (resSem a'.tmps)).run P w = .ok us w := by
      intro l
      induction l with
      | nil => intro _; exact ⟨[], fun w => by simp⟩
      | cons r l ih =>
        intro hl
        obtain ⟨t, rfl⟩ := hl r (by simp)
        obtain ⟨us, hus⟩ := ih fun r hr => hl r (by simp [hr])
        refine ⟨a'.tmps.getD t Go.undef :: us, fun w => ?_⟩
        rw [List.mapM_cons]
        simp only [resSem, Sem.run_bind, Sem.run_pure, Result.andThen_ok, hus]
    obtain ⟨us', h'⟩ := key l hl
    intro w1 w2 us h
    rw [h'] at h ⊢
    cases h
    rfl
  have fin : andThen (retE P s' fn.results.toList) (fun xs => RetOK (keys (entryMem 0 objs)) s' r xs) → LeavesInM Fence.wide 0 P fn a'.tmps (CallPost (cEnv w Ext G.K) G r) a'.defers .returning w' := by
    intro hq
    obtain ⟨xs, hxs, hret⟩ := andThen_iff.1 hq
    obtain ⟨us, r1, r2, r3⟩ := ret_run R' _ xs hxs
    have hdone : ∀ w2, MRel E G' s'.mem w2 → LeavesInM Fence.wide 0 P fn a'.tmps (CallPost (cEnv w Ext G.K) G r) [] .returning w2 := by
      intro w2 M2
      refine ⟨if h : us.toArray.size = 1 then us.toArray[0] else .tuple us.toArray, ?_, ?_⟩
      · rw [results_eq, Array.mapM_eq_mapM_toList]
        simp only [Sem.run_bind, Sem.run_map, hany _ htm w' w2 us r1, Result.andThen_ok, Sem.run_pure]
      · have R2 : Rel { E with dfs := a'.defers } G' s' a' w2 := ⟨R'.size, R'.defs, R'.tmps, M2.conv rfl rfl rfl rfl, R'.ent⟩
        obtain ⟨G2, g1, g2, g3⟩ := RetOK.out R2 (G0 := G) hret rfl rfl hnsG (one_rel r2 r3)
        exact ⟨G2, _, rfl, g1, g2.conv rfl rfl rfl rfl, g3⟩
    have M := R'.mem.conv (E' := E) rfl rfl rfl rfl
    cases b' with
    | false => rw [show a'.defers = [] from hm]; exact hdone w' M
    | true =>
      obtain ⟨D, h4, h5, h6⟩ := hm
      rw [h4]
      refine ⟨by simp, .inl ⟨D, w'.putObj D (.deferred none), rfl, run_takeDeferred h6, hdone _ ?_⟩⟩
      refine M.turned (D := D) ?_ (fun k hk => World.putObj_heap_other hk) rfl rfl rfl (by simp) h5 ?_
      · intro n x e1 e2
        obtain ⟨o, o1, o2, _⟩ := home_kind (e1 ▸ M.home n) e2
        rw [h6] at o1; cases o1
        exact o2 _ rfl
      · intro o
        cases hk : G'.K D o with
        | none => rfl
        | some v =>
          have := M.agree D o v hk
          simp [World.cell?, h6] at this
  cases e with
  | normal => exact fin hq
  | ret => exact fin hq
  | _ => exact hq.elim

end
open Go Go.Proofs Go.RowKit Go.Shelf

variable {Γ : FuncId → Contract}

/-- Two lists of texts. -/
structure Tx2 where
  a : List (List UInt8)
  b : List (List UInt8)
noncomputable def textsC : Contract := mkC (α := Tx2) (fun p => p.a.length ≤ 1099511627776) (fun p => [.c (.sl (texts p.a)), .c (.sl (texts p.b))]) (fun _ => []) (fun p => ⟨[.pv (.c (.bool (decide (p.a = p.b))))], []⟩)
theorem texts_at (a b : List (List UInt8)) (h : a.length ≤ 1099511627776) : textsC [.c (.sl (texts a)), .c (.sl (texts b))] [] = some ⟨[.pv (.c (.bool (decide (a = b))))], []⟩ :=
  mkC_at (α := Tx2) ⟨a, b⟩ h (by
    rintro ⟨a', b'⟩ _ h' _
    simp only [List.cons.injEq, AV.c.injEq, PC.sl.injEq, and_true] at h'
    obtain ⟨h1, h2⟩ := h'
    obtain rfl := texts_inj h1
    obtain rfl := texts_inj h2
    rfl)

set_option maxRecDepth 100000 in
set_option maxHeartbeats 1000000 in
theorem texts_sound (hΓ : SoundG Try.prog Γ) : SoundC Try.prog 17 textsC := by
  refine sound_fn Try.func17 (by kernel_rfl) rfl rfl ?_
  intro args objs r hr
  obtain ⟨⟨a, b⟩, hl, rfl, rfl, rfl⟩ := mkC_inv hr
  have hl : a.length ≤ 1099511627776 := hl
  refine ⟨rfl, by show 2 ≤ _; decide, fun E hN hns hF => ?_⟩
  refine vc_sound hΓ mixed _ _ _ ?_
  have hN := hN.trans nt_17
  dsimp only
  by_cases hne : a.length = b.length
  · have g1 : ((a.length : Int) != (b.length : Int)) = false := by simp [hne]
    simp only [runA, runB, runC, runD, runE, runF, fieldE, storeE, binE, ↓reduceIte, Nat.reduceLT, Nat.reduceLeDiff, Nat.reduceEqDiff, Nat.reduceAdd, Nat.reduceMul, Nat.reduceSub, reduceCtorEq, putAt, unE, Nat.reduceBEq, convE, buildE, List.replicate, Int.reduceLT, Int.reduceLE, Int.reduceToNat, mkE, mapSetE, hN, hF, ty_3, ty_4, ty_9, ty_22, notIf, isEq, g1, texts_length]
    refine AWP.loop (fun c st => ∃ i : Nat, i ≤ a.length ∧ a.take i = b.take i ∧ c = a.length - i ∧ st = ⟨[(0, .c (.sl (texts a))), (1, .c (.sl (texts b))), (5, .c (.int .i64 (i : Int)))], []⟩) ⟨a.length, _, ?w, 0, Nat.zero_le _, rfl, rfl, rfl⟩ ?r
    case w =>
      rw [hns]
      simp only [runB, finC, finD, AS.get, AS.mem, false_implies, implies_true, ↓reduceIte, Nat.reduceEqDiff, Option.isSome_some, Option.isSome_none, forall_eq_or_imp, forall_eq, reduceCtorEq, Nat.reduceAdd, Nat.reduceMul, List.zip_cons_cons, List.zip_nil_left, List.zip_nil_right, List.forall_mem_nil]
      first | done | simp
    case r =>
      rintro c st ⟨i, hi, hti, rfl, rfl⟩
      refine vc_sound hΓ mixed _ _ _ ?_
      by_cases hlt : i < a.length
      · have g2 : decide ((i : Int) < (a.length : Int)) = true := by simpa using hlt
        obtain ⟨x, hx⟩ : ∃ x, a[i]? = some x := ⟨a[i], by simp [hlt]⟩
        obtain ⟨y, hy⟩ : ∃ y, b[i]? = some y := ⟨b[i]'(by omega), by simp⟩
        have hxr : (texts a)[i]? = some [PC.str x] := by simp [texts, hx]
        have hyr : (texts b)[i]? = some [PC.str y] := by simp [texts, hy]
        have e1 : IntKind.i64.wrap ((i : Int) + 1) = (i : Int) + 1 := wrapI (by omega)
        by_cases hxy : x = y
        · subst hxy
          have g3 : (x != x) = false := by simp
          have hti2 : a.take (i + 1) = b.take (i + 1) := by rw [List.take_add_one, List.take_add_one, hti, hx, hy]
          simp only [runA, runB, runC, runD, runE, runF, fieldE, storeE, binE, ↓reduceIte, Nat.reduceLT, Nat.reduceLeDiff, Nat.reduceEqDiff, Nat.reduceAdd, Nat.reduceMul, Nat.reduceSub, reduceCtorEq, putAt, unE, Nat.reduceBEq, convE, buildE, List.replicate, Int.reduceLT, Int.reduceLE, Int.reduceToNat, mkE, mapSetE, hN, hF, ty_3, ty_4, ty_9, ty_22, notIf, isEq, g2, hxr, hyr, g3, texts_length]
          refine drawnP_intro (by kernel_rfl) (by kernel_rfl) ?_
          simp only [runA, runB, runC, runD, runE, runF, fieldE, storeE, binE, ↓reduceIte, Nat.reduceLT, Nat.reduceLeDiff, Nat.reduceEqDiff, Nat.reduceAdd, Nat.reduceMul, Nat.reduceSub, reduceCtorEq, putAt, unE, Nat.reduceBEq, convE, buildE, List.replicate, Int.reduceLT, Int.reduceLE, Int.reduceToNat, mkE, mapSetE, hN, hF, ty_3, ty_4, ty_9, ty_22, notIf, isEq, g3, e1]
          refine ⟨a.length - (i + 1), _, by omega, ?_, i + 1, by omega, hti2, rfl, rfl⟩
          rw [hns]
          simp only [runB, finC, finD, AS.get, AS.mem, false_implies, implies_true, ↓reduceIte, Nat.reduceEqDiff, Option.isSome_some, Option.isSome_none, forall_eq_or_imp, forall_eq, reduceCtorEq, Nat.reduceAdd, Nat.reduceMul, List.zip_cons_cons, List.zip_nil_left, List.zip_nil_right, List.forall_mem_nil]
          first | done | simp
        · have g3 : (x == y) = false := by simpa using hxy
          have hab : decide (a = b) = false := by
            simp only [decide_eq_false_iff_not]
            rintro rfl
            rw [hx] at hy
            exact hxy (Option.some.inj hy)
          simp only [runA, runB, runC, runD, runE, runF, fieldE, storeE, binE, ↓reduceIte, Nat.reduceLT, Nat.reduceLeDiff, Nat.reduceEqDiff, Nat.reduceAdd, Nat.reduceMul, Nat.reduceSub, reduceCtorEq, putAt, unE, Nat.reduceBEq, convE, buildE, List.replicate, Int.reduceLT, Int.reduceLE, Int.reduceToNat, mkE, mapSetE, hN, hF, ty_3, ty_4, ty_9, ty_22, notIf, isEq, g2, hxr, hyr, g3, texts_length]
          refine drawnP_intro (by kernel_rfl) (by kernel_rfl) ?_
          simp only [runA, runB, runC, runD, runE, runF, fieldE, storeE, binE, ↓reduceIte, Nat.reduceLT, Nat.reduceLeDiff, Nat.reduceEqDiff, Nat.reduceAdd, Nat.reduceMul, Nat.reduceSub, reduceCtorEq, putAt, unE, Nat.reduceBEq, convE, buildE, List.replicate, Int.reduceLT, Int.reduceLE, Int.reduceToNat, mkE, mapSetE, hN, hF, ty_3, ty_4, ty_9, ty_22, notIf, isEq, g3]
          simp only [runB, finC, finD, Option.isSome_some, Option.isSome_none, ↓reduceIte, Nat.reduceEqDiff, Nat.reduceAdd, Nat.reduceMul, forall_eq_or_imp, forall_eq, implies_true, Nat.reduceBEq, reduceCtorEq, false_implies, List.zip_cons_cons, List.zip_nil_left, List.zip_nil_right, Nat.reduceLeDiff, List.forall_mem_nil, rs_17, hab]
      · have g2 : decide ((i : Int) < (a.length : Int)) = false := by simpa using hlt
        have hab : decide (a = b) = true := by
          simp only [decide_eq_true_eq]
          rw [List.take_of_length_le (by omega), List.take_of_length_le (by omega)] at hti
          exact hti
        simp only [runA, runB, runC, runD, runE, runF, fieldE, storeE, binE, ↓reduceIte, Nat.reduceLT, Nat.reduceLeDiff, Nat.reduceEqDiff, Nat.reduceAdd, Nat.reduceMul, Nat.reduceSub, reduceCtorEq, putAt, unE, Nat.reduceBEq, convE, buildE, List.replicate, Int.reduceLT, Int.reduceLE, Int.reduceToNat, mkE, mapSetE, hN, hF, ty_3, ty_4, ty_9, ty_22, notIf, isEq, g2, texts_length]
        simp only [runB, finC, finD, Option.isSome_some, Option.isSome_none, ↓reduceIte, Nat.reduceEqDiff, Nat.reduceAdd, Nat.reduceMul, forall_eq_or_imp, forall_eq, implies_true, Nat.reduceBEq, reduceCtorEq, false_implies, List.zip_cons_cons, List.zip_nil_left, List.zip_nil_right, Nat.reduceLeDiff, List.forall_mem_nil, rs_17, hab]
  · have g1 : ((a.length : Int) != (b.length : Int)) = true := by simp; omega
    have hab : decide (a = b) = false := by
      simp only [decide_eq_false_iff_not]
      rintro rfl
      exact hne rfl
    simp only [runA, runB, runC, runD, runE, runF, fieldE, storeE, binE, ↓reduceIte, Nat.reduceLT, Nat.reduceLeDiff, Nat.reduceEqDiff, Nat.reduceAdd, Nat.reduceMul, Nat.reduceSub, reduceCtorEq, putAt, unE, Nat.reduceBEq, convE, buildE, List.replicate, Int.reduceLT, Int.reduceLE, Int.reduceToNat, mkE, mapSetE, hN, hF, ty_3, ty_4, ty_9, ty_22, notIf, isEq, g1, texts_length]
    simp only [runB, finC, finD, Option.isSome_some, Option.isSome_none, ↓reduceIte, Nat.reduceEqDiff, Nat.reduceAdd, Nat.reduceMul, forall_eq_or_imp, forall_eq, implies_true, Nat.reduceBEq, reduceCtorEq, false_implies, List.zip_cons_cons, List.zip_nil_left, List.zip_nil_right, Nat.reduceLeDiff, List.forall_mem_nil, rs_17, hab]

set_option maxRecDepth 100000 in
theorem rows_calls (ad : Option Addr) (len cap : Nat) (w : World) : Calls Try.prog 100 #[.slice ad len cap] w fun e w' => e = .returned (.func (.func 130) #[] #[.pointer (some ⟨w.heap.size, 0, none⟩)]) ∧ w' = w.alloc (.cells #[.slice ad len cap] 22) := by
  refine callsIn_wide.1 (callsIn_of_wp (F := Fence.wide) (n := 0) Try.func100 rfl trivial ?_ rfl)
  simp only [Try.ntmps100, List.size_toArray, List.length_cons, List.length_nil, Nat.reduceAdd, Nat.reduceSub, Array.replicate_succ, Array.replicate_zero, List.push_toArray, List.append_toArray, List.nil_append, List.cons_append]
  gi_wp2
  go_ret
  exact ⟨rfl, rfl⟩

set_option maxRecDepth 100000 in
set_option maxHeartbeats 4000000 in
/-- The rows, from the leaves on: each is yielded; the next one is made of it, as long as it has more than one. -/
theorem rows_it (l Bx k : Nat) (rs : Nat → Nat) (J J' : Nat → World → Prop) (hlen : ∀ i, i < k → 1 < rs i) (hk : rs k ≤ 1)
    (hbox : ∀ i W, J i W → ∃ v, W.cell? ⟨Bx, 0, none⟩ = some v) (hbox' : ∀ i W, J' i W → ∃ ad cap, W.cell? ⟨Bx, 0, none⟩ = some (.slice ad (rs i) cap))
    (hY : ∀ i W v, i ≤ k → J i W → W.cell? ⟨Bx, 0, none⟩ = some v → YieldAt Fence.wide 0 Try.prog l #[v] W fun e W' => e = .returned (.bool true) ∧ J' i W')
    (hUp : ∀ i W v, i < k → J' i W → W.cell? ⟨Bx, 0, none⟩ = some v → Calls Try.prog 131 #[v] W fun e W' => ∃ ad n cap, e = .returned (.slice ad n cap) ∧ (∃ x, W'.cell? ⟨Bx, 0, none⟩ = some x) ∧ W'.frozen? ⟨Bx, 0, none⟩ = false ∧ J (i + 1) (W'.setCell ⟨Bx, 0, none⟩ (.slice ad n cap)))
    (W : World) (h0 : J 0 W) :
    CallsIn Fence.wide 0 Try.prog 130 #[.func (.yield l) #[] #[], .pointer (some ⟨Bx, 0, none⟩)] W fun e W' => (∃ v, e = .returned v) ∧ J' k W' := by
  refine callsIn_of_wp Try.func130 rfl trivial ?_ rfl
  simp only [Try.ntmps130, List.size_toArray, List.length_cons, List.length_nil, Nat.reduceAdd, Nat.reduceSub, Array.replicate_succ, Array.replicate_zero, List.push_toArray, List.append_toArray, List.nil_append, List.cons_append]
  refine wpIn_block (wpIn_loop_rounds (k + 1) ?_)
  refine (?key : ∀ (d i : Nat) (W : World) (t2 t3 t4 t5 t6 t7 t8 t9 t10 t11 t12 : Value), i + d = k → J i W →
      Code.roundsIn Fence.wide 0 Try.prog ?c ?Q (d + 1) { tmps := #[.func (.yield l) #[] #[], .pointer (some ⟨Bx, 0, none⟩), t2, t3, t4, t5, t6, t7, t8, t9, t10, t11, t12], defers := [] } W) k 0 W _ _ _ _ _ _ _ _ _ _ _ (Nat.zero_add k) h0
  intro d
  induction d with
  | zero =>
    intro i W t2 t3 t4 t5 t6 t7 t8 t9 t10 t11 t12 hi hJ
    obtain rfl : i = k := by omega
    obtain ⟨v, hv⟩ := hbox i W hJ
    obtain ⟨fn, tmps, assign, body, hy, hR1⟩ := hY i W v (Nat.le_refl _) hJ hv
    rw [roundsIn_succ]
    gi_wp2
    refine ⟨rfl, hR1.mono ?_⟩
    rintro e W3 ⟨rfl, hJ3⟩
    obtain ⟨ad, cap, hc⟩ := hbox' i W3 hJ3
    have g1 : ¬ ((rs i : Nat) : Int) > 1 := by omega
    gi_wp2
    exact ⟨rfl, _, results_none rfl _ _ _, ⟨_, rfl⟩, hJ3⟩
  | succ d ih =>
    intro i W t2 t3 t4 t5 t6 t7 t8 t9 t10 t11 t12 hi hJ
    obtain ⟨v, hv⟩ := hbox i W hJ
    obtain ⟨fn, tmps, assign, body, hy, hR1⟩ := hY i W v (by omega) hJ hv
    have hlt : i < k := by omega
    have hg := hlen i hlt
    rw [roundsIn_succ]
    gi_wp2
    refine ⟨rfl, hR1.mono ?_⟩
    rintro e W3 ⟨rfl, hJ3⟩
    obtain ⟨ad, cap, hc⟩ := hbox' i W3 hJ3
    have g1 : (1 : Int) < ((rs i : Nat) : Int) := by omega
    have hup := (callsIn_wide (n := 0)).2 (hUp i W3 _ hlt hJ3 hc)
    gi_wp2
    refine ⟨trivial, rfl, hup.mono ?_⟩
    rintro e w' ⟨ad', n', cap', rfl, ⟨x, hx⟩, hfr, hJ4⟩
    gi_wp2
    exact ih (i + 1) _ _ _ _ _ _ _ _ _ _ _ _ (by omega) hJ4

open Go Go.RowKit

variable {Γ : FuncId → Contract} {E : Env}

/-- What the iterator's box holds. -/
theorem Btw.box {G0 G : Gh} {l D : Nat} {rec : LoopState → Loop} {m : List (Nat × MC)} {W : World} (J : Btw E G0 l D rec G m W) {n Bx : Nat} {rows : List (List PC)} (hm : look m n = some (.obj [.c (.sl rows)] false)) (hg : G0.h n = some (.obj Bx)) :
    G.h n = some (.obj Bx) ∧ ∃ (vs : Array Value) (v : Value) (ty : TypeId), W.heap[Bx]? = some (.cells vs ty (0, 0)) ∧ vs[0]? = some v ∧ VR G.K (.sl rows) v ∧ ∃ ad cap, v = .slice ad rows.length cap := by
  obtain ⟨h', e, l⟩ := J.le.h n _ hg
  cases l
  have hh := J.mem.home n
  rw [hm, e] at hh
  obtain ⟨vs, ty, a1, a2, a3, _⟩ := hh
  refine ⟨e, ?_⟩
  have h0 : 0 < vs.size := a2
  have hv := a3 0 _ vs[0] rfl (by simp [h0])
  cases hv with
  | c _ _ hv =>
    obtain ⟨ad, cap, h1, _⟩ := hv.slice_form
    exact ⟨vs, vs[0], ty, a1, by simp [h0], hv, ad, cap, h1⟩

theorem AWPm.rows (hS : SoundC Try.prog 131 upC) (hro : E.ro = none) {s : AS} {id bid : Nat} {ops : Array Oper} {o1 o2 : Oper} {c : Call} {t0 u g p : Tmp} {assign body : Code} {Q : Bool → Exit → AS → Prop} {l : List (List UInt8)}
    (hops : ops = #[o1, o2]) (h1 : o1.op = .move (.tmp t0)) (d1 : o1.dst = some u) (g1 : o1.guard = none) (h2 : o2.op = .call c) (hc : c.callee = .value (.func 100)) (hca : c.args = #[.tmp u]) (d2 : o2.dst = some g) (g2 : o2.guard = none)
    (hu : u < E.N.n) (hg : g < E.N.n) (hp : p < E.N.n) (hget : s.get t0 = .c (.sl (texts l))) (k nbx : Nat) (rs : Nat → List (List UInt8)) (hr0 : rs 0 = l) (hrs : ∀ i, rs (i + 1) = upS (rs i)) (hok : ∀ i, Okl (rs i)) (hgt : ∀ i, i < k → 1 < (rs i).length) (hle : (rs k).length ≤ 1)
    (hn : look s.m nbx = none) (S : Nat → List (Nat × MC)) (hS0 : S 0 = s.m) (s1 : Nat → AS)
    (hA : ∀ i, i ≤ k → ∀ E' : Env, E'.N = E.N → E'.ns = keys ((nbx, .obj [.c (.sl (texts (rs i)))] false) :: S i) →
      AWP Try.prog E' assign (fun e s' => e = .normal ∧ s' = s1 i) ⟨(p, .c (.sl (texts (rs i)))) :: (g, .undef) :: (u, .undef) :: s.t, (nbx, .obj [.c (.sl (texts (rs i)))] false) :: S i⟩)
    (hB : ∀ i, i ≤ k → ∀ E' : Env, E'.N = E.N → E'.ns = keys (s1 i).m → AWP Try.prog E' body (fun e s' => e = .normal ∧ Weak (keys (s1 i).m) s' ⟨[], (nbx, .obj [.c (.sl (texts (rs i)))] false) :: S (i + 1)⟩) (s1 i))
    (hQ : Q true .normal ⟨(g, .undef) :: (u, .undef) :: s.t, (nbx, .obj [.c (.sl (texts (rs k)))] false) :: S (k + 1)⟩) :
    AWPm Try.prog E false (.seq (.region id ops false) (.block bid (.rangeFunc (.tmp g) #[p] assign body))) Q s := by
  rintro G a w ⟨R, hd⟩
  have hd' : a.defers = [] := hd
  have hsz : a.tmps.size = E.N.n := R.size
  have hv := R.tmps t0
  rw [hget] at hv
  generalize hvv : a.tmps.getD t0 Go.undef = v at hv
  cases hv with
  | c _ _ hv =>
  obtain ⟨ad, cap, hform, _⟩ := hv.slice_form
  have hrows : EnterOK Try.prog 100 := ⟨_, Try.func100, rfl, rfl⟩
  have hrows1 : EnterOK Try.prog 130 := ⟨_, Try.func130, rfl, rfl⟩
  have hcall : Calls Try.prog 100 #[v] w fun e w' => e = .returned (.func (.func 130) #[] #[.pointer (some ⟨w.heap.size, 0, none⟩)]) ∧ w' = w.alloc (.cells #[v] 22) := by
    rw [hform]; exact rows_calls ad _ cap w
  refine wpIn_seq (region_made hops (move_at h1 hvv) (fun c hc => by rw [h1] at hc; cases hc) d1 g1 h2 hc hca d2 g2 hrows (by rw [hsz]; exact hu) hcall ?_)
  have M := R.mem.conv (E' := E) rfl rfl rfl rfl
  obtain ⟨n1, n2, n3⟩ := M.newObj (n := nbx) hn (cells := [.c (.sl (texts l))]) (vs := #[v]) (ty := 22) (Nat.le_refl _) (fun i x u e1 e2 => by
    cases i with
    | zero => simp at e1 e2; subst e1; subst e2; exact .c _ _ hv
    | succ i => simp at e1)
  generalize hG2 : G.put nbx (.obj w.heap.size) = G2 at n1 n2 n3
  obtain ⟨Bx, hBx⟩ : ∃ Bx, w.heap.size = Bx := ⟨_, rfl⟩
  have M2 : MRel E G2 (look ((nbx, .obj [.c (.sl (texts (rs 0)))] false) :: S 0)) (w.alloc (.cells #[v] 22)) := by
    rw [hr0, hS0]
    exact n3
  obtain ⟨a2, ha2⟩ : ∃ a2 : Act, a2 = { a with tmps := (a.tmps.setIfInBounds u v).setIfInBounds g (.func (.func 130) #[] #[.pointer (some ⟨w.heap.size, 0, none⟩)]) } := ⟨_, rfl⟩
  have R2 : RelM E false G2 ⟨(g, .undef) :: (u, .undef) :: s.t, (nbx, .obj [.c (.sl (texts (rs 0)))] false) :: S 0⟩ a2 (w.alloc (.cells #[v] 22)) := by
    refine ⟨⟨by rw [ha2]; simpa using hsz, rfl, fun i => ?_, M2.conv rfl rfl rfl rfl, fun n hn' => ?_⟩, by rw [ha2]; exact hd⟩
    · by_cases e1 : g = i
      · have : (AS.mk ((g, AV.undef) :: (u, .undef) :: s.t) ((nbx, .obj [.c (.sl (texts (rs 0)))] false) :: S 0)).get i = .undef := by simp [AS.get, look, e1]
        rw [this]; exact .undef _
      · by_cases e2 : u = i
        · have : (AS.mk ((g, AV.undef) :: (u, .undef) :: s.t) ((nbx, .obj [.c (.sl (texts (rs 0)))] false) :: S 0)).get i = .undef := by simp [AS.get, look, e1, e2]
          rw [this]; exact .undef _
        · have h3 : (AS.mk ((g, AV.undef) :: (u, .undef) :: s.t) ((nbx, .obj [.c (.sl (texts (rs 0)))] false) :: S 0)).get i = s.get i := by simp [AS.get, look, e1, e2]
          have h4 : a2.tmps.getD i Go.undef = a.tmps.getD i Go.undef := by rw [ha2]; simp [Array.getElem?_setIfInBounds_ne e1, Array.getElem?_setIfInBounds_ne e2]
          rw [h3, h4]
          exact (R.tmps i).mono n1
    · obtain ⟨x, x', e1, e2, l⟩ := R.ent n hn'
      obtain ⟨y, e3, l2⟩ := n1.h n x' e2
      exact ⟨x, y, e1, e3, Home.le_trans l l2⟩
  have hge : a2.eval (.tmp g) = .func (.func 130) #[] #[.pointer (some ⟨Bx, 0, none⟩)] := by
    have hg' : g < a.tmps.size := by rw [hsz]; exact hg
    rw [ha2, hBx]; simp [Act.eval, hg']
  rw [← ha2]
  change Code.wpIn (rF E.ro) 0 _ (Code.block bid _) _ a2 _
  have hgB : G2.h nbx = some (.obj Bx) := by rw [← hBx]; exact n2
  refine wpIn_block (wpIn_mono (AWPm.range (Q := inBlockM bid Q) hro R2 hge hrows1 (fun q hq => by simp at hq; subst hq; exact hp) (k + 1) (fun i => [.c (.sl (texts (rs i)))])
    (fun i => (nbx, .obj [.c (.sl (texts (rs i)))] false) :: S i) (fun i => (nbx, .obj [.c (.sl (texts (rs i)))] false) :: S (i + 1)) ((nbx, .obj [.c (.sl (texts (rs k)))] false) :: S (k + 1)) (fun _ _ => rfl) s1
    (fun _ => rfl) (fun i hi => hA i (by omega)) (fun i hi => hB i (by omega)) ?it hQ) ?out)
  case out =>
    rintro e a' w' ⟨b', G', s', h2, h3⟩
    cases e with
    | exit id' =>
      simp only [inBlockM] at h2
      simp only [Exit.inBlock]
      by_cases e : id' = bid
      · rw [if_pos e] at h2 ⊢; exact ⟨b', G', s', h2, h3⟩
      · rw [if_neg e] at h2 ⊢; exact ⟨b', G', s', h2, h3⟩
    | _ => exact ⟨b', G', s', h2, h3⟩
  case it =>
    intro l' D rec W G3 hl' hD J hY
    refine (rows_it l' Bx k (fun i => (rs i).length) (fun i W => ∃ G, Btw E G2 l' D rec G ((nbx, .obj [.c (.sl (texts (rs i)))] false) :: S i) W) (fun i W => ∃ G, Btw E G2 l' D rec G ((nbx, .obj [.c (.sl (texts (rs i)))] false) :: S (i + 1)) W)
      hgt hle ?hb ?hb' ?hy ?hup W ⟨G3, J⟩).mono (fun e W' h => h)
    case hb =>
      rintro i W ⟨G, J⟩
      obtain ⟨_, vs, v, ty, q1, qv, _⟩ := J.box (n := nbx) (rows := texts (rs i)) (by simp [look]) hgB
      exact ⟨v, by simp [World.cell?, q1, qv]⟩
    case hb' =>
      rintro i W ⟨G, J⟩
      obtain ⟨_, vs, v, ty, q1, qv, _, ad, cap, rfl⟩ := J.box (n := nbx) (rows := texts (rs i)) (by simp [look]) hgB
      exact ⟨ad, cap, by simp [World.cell?, q1, qv, texts_length]⟩
    case hy =>
      rintro i W v hi ⟨G, J⟩ hv
      obtain ⟨_, vs, v', ty, q1, qv, q2, _⟩ := J.box (n := nbx) (rows := texts (rs i)) (by simp [look]) hgB
      have : v' = v := by simpa [World.cell?, q1, qv] using hv
      subst this
      refine (hY i W G [v'] (by omega) J rfl (fun j x u e1 e2 => ?_)).mono (fun e W' ⟨h1, G', _, h2⟩ => ⟨h1, G', h2⟩)
      cases j with
      | zero => simp at e1 e2; subst e1; subst e2; exact .c _ _ q2
      | succ j => simp at e1
    case hup =>
      rintro i W v hi ⟨G, J⟩ hv
      obtain ⟨q0, vs, v', ty, q1, qv, q2, _⟩ := J.box (n := nbx) (rows := texts (rs i)) (by simp [look]) hgB
      have : v' = v := by simpa [World.cell?, q1, qv] using hv
      subst this
      refine Calls.mono (J.mem.call0 hS (up_at (rs i) (hok i)) (vals := [v']) rfl (fun j x u e1 e2 => ?_)) ?_
      · cases j with
        | zero => simp at e1 e2; subst e1; subst e2; exact .c _ _ q2
        | succ j => simp at e1
      · rintro e W' ⟨G', x, rfl, hle', hh, M', hx, hblk, hsz'⟩
        cases hx with
        | c _ _ hx =>
        obtain ⟨ad, cap, hform, _⟩ := hx.slice_form
        have hB' : W'.heap[Bx]? = some (.cells vs ty (0, 0)) := (hblk Bx (heap_some_lt q1)).trans q1
        refine ⟨ad, _, cap, by rw [hform], ⟨v', by simp [World.cell?, hB', qv]⟩, by simp [World.frozen?, hB'], G', ?_⟩
        rw [← hform]
        have hset : W'.setCell ⟨Bx, 0, none⟩ x = W'.setRow Bx (vs.setIfInBounds 0 x) := by rw [setCell_eq_setRow W' Bx 0 vs ty (0, 0) x hB']
        rw [hset]
        have hll := J.loop
        have hdd := J.dfr
        have hlb : l' ≠ Bx := fun e => by rw [e, q1] at hll; cases hll
        have hdb : D ≠ Bx := fun e => by rw [e, q1] at hdd; cases hdd
        refine ⟨?_, Gh.le_trans J.le hle', ?_, ?_⟩
        · have := M'.setObj (n := nbx) (b := Bx) (cells := [.c (.sl (texts (rs i)))]) (cells' := [.c (.sl (texts (rs (i + 1))))]) (vs' := vs.setIfInBounds 0 x) (by simp [look]) (by rw [hh]; exact q0) (by have := (Array.getElem?_eq_some_iff.1 qv).1; simp; omega) (fun j y z e1 e2 => by
            cases j with
            | zero =>
              have hlt := (Array.getElem?_eq_some_iff.1 qv).1
              simp [hlt] at e1 e2; subst e1; subst e2; rw [hrs]; exact .c _ _ hx
            | succ j => simp at e1)
          refine this.congr fun n => ?_
          simp only [look, mset]
          split <;> rfl
        · exact (setRow_other W' Bx l' _ hlb).trans ((hblk l' (heap_some_lt hll)).trans hll)
        · exact (setRow_other W' Bx D _ hdb).trans ((hblk D (heap_some_lt hdd)).trans hdd)


variable {Γ : FuncId → Contract}

noncomputable def upN (l : List (List UInt8)) : Nat → List (List UInt8)
  | 0 => l
  | i + 1 => upS (upN l i)
theorem upN_up (l : List (List UInt8)) : ∀ i, upN (upS l) i = upN l (i + 1)
  | 0 => rfl
  | i + 1 => by rw [upN, upN_up l i]; rfl
theorem upN_ok {l : List (List UInt8)} (h : Okl l) : ∀ i, Okl (upN l i)
  | 0 => h
  | i + 1 => upS_ok (upN_ok h i)
theorem depth : ∀ (n : Nat) (l : List (List UInt8)), l.length ≤ n → ∃ k, (∀ i, i < k → 1 < (upN l i).length) ∧ (upN l k).length ≤ 1
  | 0, l, h => ⟨0, fun i hi => by omega, by show l.length ≤ 1; omega⟩
  | n + 1, l, h => by
    by_cases h1 : l.length ≤ 1
    · exact ⟨0, fun i hi => by omega, h1⟩
    · have hl := upS_length l
      obtain ⟨k, h2, h3⟩ := depth n (upS l) (by omega)
      refine ⟨k + 1, fun i hi => ?_, by rw [← upN_up]; exact h3⟩
      cases i with
      | zero => show 1 < l.length; omega
      | succ i => rw [← upN_up]; exact h2 i (by omega)

variable {Γ : FuncId → Contract}

noncomputable def outN (l : List (List UInt8)) (A : Nat) : Nat → List (List UInt8)
  | 0 => []
  | i + 1 => outN l A i ++ [(upN l i).getD (nb (A / 2 ^ i)) []]
theorem outN_length (l : List (List UInt8)) (A : Nat) : ∀ i, (outN l A i).length = i
  | 0 => rfl
  | i + 1 => by rw [outN, List.length_append, outN_length l A i]; rfl
theorem path_upN {l : List (List UInt8)} {A k : Nat} (hA : A < l.length) (hp : powN l.length = true) (h : ∀ i, i < k → 1 < (upN l i).length) : ∀ i, i ≤ k →
    pathP l A = outN l A i ++ pathP (upN l i) (A / 2 ^ i) ∧ A / 2 ^ i < (upN l i).length ∧ powN (upN l i).length = true ∧ (upN l i).length + i ≤ l.length
  | 0, _ => ⟨by simp [outN, upN], by simpa [upN] using hA, hp, by simp [upN]⟩
  | i + 1, hi => by
    obtain ⟨h1, h2, h3, h4⟩ := path_upN hA hp h i (by omega)
    have hg := h i (by omega)
    obtain ⟨p1, p2⟩ := powN_half h3 hg
    have hl := upS_length (upN l i)
    have e : A / 2 ^ (i + 1) = A / 2 ^ i / 2 := by rw [Nat.pow_succ, ← Nat.div_div_eq_div_mul]
    rw [pathP_gt (l := upN l i) (by omega)] at h1
    refine ⟨?_, ?_, ?_, ?_⟩
    · rw [h1, outN, e]
      show _ = _ ++ pathP (upS (upN l i)) _
      simp
    · rw [e]; show _ < (upS (upN l i)).length; omega
    · show powN (upS (upN l i)).length = true
      rw [show (upS (upN l i)).length = (upN l i).length / 2 from by omega]; exact p2
    · show (upS (upN l i)).length + (i + 1) ≤ l.length
      omega

/-- A round's memory. -/
noncomputable def memP (l : List (List UInt8)) (A k i : Nat) : List (Nat × MC) :=
  [(192, .obj [.c (.int .i64 ((A / 2 ^ min i k : Nat) : Int))] false), (448, .obj [.own 449 1 (texts (outN l A (min i k)))] false), (449, .row 1 (min i k))]

theorem and_pred (n : Nat) (h : 1 ≤ n) (h2 : n < 9223372036854775808) : ((IntKind.i64.wrap (((BitVec.ofInt IntKind.i64.bits (n : Int) &&& BitVec.ofInt IntKind.i64.bits (((n - 1 : Nat) : Int))).toNat : Nat) : Int)) != 0) = !(powN n) := by
  have e : (BitVec.ofInt 64 (n : Int) &&& BitVec.ofInt 64 ((n - 1 : Nat) : Int)).toNat = n &&& (n - 1) := by
    rw [ofNat64, ofNat64, BitVec.toNat_and, BitVec.toNat_ofNat, BitVec.toNat_ofNat, Nat.mod_eq_of_lt (by omega), Nat.mod_eq_of_lt (by omega)]
  have hle : n &&& (n - 1) ≤ n := Nat.and_le_left
  show (IntKind.i64.wrap (((BitVec.ofInt 64 (n : Int) &&& BitVec.ofInt 64 ((n - 1 : Nat) : Int)).toNat : Nat) : Int) != 0) = _
  rw [e, wrapI (by omega)]
  have := land_pred n n (Nat.le_refl _) h
  unfold powN
  cases hp : powB n n
  · have : ¬ (n &&& (n - 1) = 0) := fun h0 => by rw [this.1 h0] at hp; cases hp
    simp only [Bool.not_false, bne_iff_ne, ne_eq]; omega
  · have := this.2 hp
    rw [this]; rfl

set_option maxRecDepth 100000 in
set_option maxHeartbeats 2000000 in
theorem path_sound (hΓ : SoundG Try.prog Γ) (h2 : Γ 131 = upC) (hS : SoundC Try.prog 131 upC) : SoundC Try.prog 56 pathC := by
  refine sound_fnM ⟨[], []⟩ Try.func56 (by kernel_rfl) rfl rfl ?_ ?_
  · rw [rs_56]; intro r hr; simp at hr; rcases hr with rfl | rfl <;> exact ⟨_, rfl⟩
  intro args objs r hr
  obtain ⟨⟨l, a⟩, hl, rfl, rfl, rfl⟩ := mkC_inv hr
  have hl : Okl l := hl
  have hl1 : l.length ≤ 1099511627 := hl.1
  refine ⟨rfl, by show 2 ≤ _; decide, fun E hro hN hns hF => ?_⟩
  have hN := hN.trans nt_56
  dsimp only
  refine AWPm.seq (AWPm.of fun E' hE hns' => vc_sound hΓ mixed _ _ _ ?_)
  have hN' : E'.N.n = _ := (congrArg Lim.n hE).trans hN
  have hF' : E'.N.adv = _ := (congrArg Lim.adv hE).trans hF
  simp only [runA, runB, runC, runD, runE, runF, fieldE, storeE, binE, ↓reduceIte, Nat.reduceLT, Nat.reduceLeDiff, Nat.reduceEqDiff, Nat.reduceAdd, Nat.reduceMul, Nat.reduceSub, reduceCtorEq, putAt, unE, Nat.reduceBEq, convE, buildE, List.replicate, Int.reduceLT, Int.reduceLE, Int.reduceToNat, mkE, mapSetE, hN', hF', ty_3, ty_9, ty_22, ty_27, notIf, isEq, thenM_normal]
  refine AWPm.seq (AWPm.of fun E' hE hns' => vc_sound hΓ mixed _ _ _ ?_)
  have hN' : E'.N.n = _ := (congrArg Lim.n hE).trans hN
  have hF' : E'.N.adv = _ := (congrArg Lim.adv hE).trans hF
  simp only [runA, runB, runC, runD, runE, runF, fieldE, storeE, binE, ↓reduceIte, Nat.reduceLT, Nat.reduceLeDiff, Nat.reduceEqDiff, Nat.reduceAdd, Nat.reduceMul, Nat.reduceSub, reduceCtorEq, putAt, unE, Nat.reduceBEq, convE, buildE, List.replicate, Int.reduceLT, Int.reduceLE, Int.reduceToNat, mkE, mapSetE, hN', hF', ty_3, ty_9, ty_22, ty_27, notIf, isEq, thenM_normal, texts_length]
  refine AWPm.seq (AWPm.of fun E' hE hns' => vc_sound hΓ mixed _ _ _ ?_)
  have hN' : E'.N.n = _ := (congrArg Lim.n hE).trans hN
  have hF' : E'.N.adv = _ := (congrArg Lim.adv hE).trans hF
  by_cases hneg : a < 0
  · have hS : pathS l a = ([], 4) := by unfold pathS; rw [if_pos (.inl hneg)]
    have g1 : decide (a < 0) = true := by simpa using hneg
    simp only [runA, runB, runC, runD, runE, runF, fieldE, storeE, binE, ↓reduceIte, Nat.reduceLT, Nat.reduceLeDiff, Nat.reduceEqDiff, Nat.reduceAdd, Nat.reduceMul, Nat.reduceSub, reduceCtorEq, putAt, unE, Nat.reduceBEq, convE, buildE, List.replicate, Int.reduceLT, Int.reduceLE, Int.reduceToNat, mkE, mapSetE, hN', hF', ty_3, ty_9, ty_22, ty_27, notIf, isEq, g1, thenM_ret]
    simp only [runB, finC, finD, Option.isSome_some, Option.isSome_none, ↓reduceIte, Nat.reduceEqDiff, Nat.reduceAdd, Nat.reduceMul, forall_eq_or_imp, forall_eq, implies_true, Nat.reduceBEq, reduceCtorEq, false_implies, List.zip_cons_cons, List.zip_nil_left, List.zip_nil_right, Nat.reduceLeDiff, List.forall_mem_nil, rs_56, hS, texts, List.map_nil]
  have g1 : decide (a < 0) = false := by simpa using hneg
  by_cases hge : (l.length : Int) ≤ a
  · have hS : pathS l a = ([], 4) := by unfold pathS; rw [if_pos (.inr hge)]
    have g2 : decide (a ≥ (l.length : Int)) = true := by simpa using hge
    simp only [runA, runB, runC, runD, runE, runF, fieldE, storeE, binE, ↓reduceIte, Nat.reduceLT, Nat.reduceLeDiff, Nat.reduceEqDiff, Nat.reduceAdd, Nat.reduceMul, Nat.reduceSub, reduceCtorEq, putAt, unE, Nat.reduceBEq, convE, buildE, List.replicate, Int.reduceLT, Int.reduceLE, Int.reduceToNat, mkE, mapSetE, hN', hF', ty_3, ty_9, ty_22, ty_27, notIf, isEq, g1, g2, thenM_ret]
    simp only [runB, finC, finD, Option.isSome_some, Option.isSome_none, ↓reduceIte, Nat.reduceEqDiff, Nat.reduceAdd, Nat.reduceMul, forall_eq_or_imp, forall_eq, implies_true, Nat.reduceBEq, reduceCtorEq, false_implies, List.zip_cons_cons, List.zip_nil_left, List.zip_nil_right, Nat.reduceLeDiff, List.forall_mem_nil, rs_56, hS, texts, List.map_nil]
  have g2 : decide (a ≥ (l.length : Int)) = false := by simpa using hge
  obtain ⟨A, rfl⟩ : ∃ A : Nat, a = (A : Int) := ⟨a.toNat, by omega⟩
  have hAl : A < l.length := by omega
  have e1 : IntKind.i64.wrap ((l.length : Int) - 1) = ((l.length - 1 : Nat) : Int) := by rw [wrapI (by omega)]; omega
  have g3 := and_pred l.length (by omega) (by omega)
  cases hpow : powN l.length
  · have hS : pathS l (A : Int) = ([], 3) := by unfold pathS; rw [if_neg (by omega), if_neg (by rw [hpow]; decide)]
    rw [hpow] at g3
    simp only [runA, runB, runC, runD, runE, runF, fieldE, storeE, binE, ↓reduceIte, Nat.reduceLT, Nat.reduceLeDiff, Nat.reduceEqDiff, Nat.reduceAdd, Nat.reduceMul, Nat.reduceSub, reduceCtorEq, putAt, unE, Nat.reduceBEq, convE, buildE, List.replicate, Int.reduceLT, Int.reduceLE, Int.reduceToNat, mkE, mapSetE, hN', hF', ty_3, ty_9, ty_22, ty_27, notIf, isEq, g1, g2, e1, g3, thenM_ret]
    simp only [runB, finC, finD, Option.isSome_some, Option.isSome_none, ↓reduceIte, Nat.reduceEqDiff, Nat.reduceAdd, Nat.reduceMul, forall_eq_or_imp, forall_eq, implies_true, Nat.reduceBEq, reduceCtorEq, false_implies, List.zip_cons_cons, List.zip_nil_left, List.zip_nil_right, Nat.reduceLeDiff, List.forall_mem_nil, rs_56, hS, texts, List.map_nil]
  have hPS : pathS l (A : Int) = (pathP l A, 0) := by unfold pathS; rw [if_neg (by omega), if_pos hpow]; rfl
  rw [hpow] at g3
  simp only [runA, runB, runC, runD, runE, runF, fieldE, storeE, binE, ↓reduceIte, Nat.reduceLT, Nat.reduceLeDiff, Nat.reduceEqDiff, Nat.reduceAdd, Nat.reduceMul, Nat.reduceSub, reduceCtorEq, putAt, unE, Nat.reduceBEq, convE, buildE, List.replicate, Int.reduceLT, Int.reduceLE, Int.reduceToNat, mkE, mapSetE, hN', hF', ty_3, ty_9, ty_22, ty_27, notIf, isEq, g1, g2, e1, g3, thenM_normal]
  refine AWPm.seq (AWPm.of fun E' hE hns' => vc_sound hΓ mixed _ _ _ ?_)
  have hN' : E'.N.n = _ := (congrArg Lim.n hE).trans hN
  have hF' : E'.N.adv = _ := (congrArg Lim.adv hE).trans hF
  simp only [runA, runB, runC, runD, runE, runF, fieldE, storeE, binE, ↓reduceIte, Nat.reduceLT, Nat.reduceLeDiff, Nat.reduceEqDiff, Nat.reduceAdd, Nat.reduceMul, Nat.reduceSub, reduceCtorEq, putAt, unE, Nat.reduceBEq, convE, buildE, List.replicate, Int.reduceLT, Int.reduceLE, Int.reduceToNat, mkE, mapSetE, hN', hF', ty_3, ty_9, ty_22, ty_27, notIf, isEq, thenM_normal]
  obtain ⟨k, hk1, hk2⟩ := depth l.length l (Nat.le_refl _)
  have hpath := path_upN hAl hpow hk1
  refine AWPm.weak (s2 := ⟨[(3, .ptr 192 0), (7, .ptr 448 0), (0, .c (.sl (texts l)))], memP l A k 0⟩) ?wk ?_
  case wk =>
    rw [hns]
    have e0 : min 0 k = 0 := by omega
    have e2 : A / 2 ^ 0 = A := by simp
    simp only [memP, e0, e2, outN, texts, List.map_nil]
    simp only [runB, finC, finD, AS.get, AS.mem, false_implies, implies_true, ↓reduceIte, Nat.reduceEqDiff, Option.isSome_some, Option.isSome_none, forall_eq_or_imp, forall_eq, reduceCtorEq, Nat.reduceAdd, Nat.reduceMul, List.zip_cons_cons, List.zip_nil_left, List.zip_nil_right, List.forall_mem_nil]
    first | done | simp
  refine AWPm.seq (AWPm.rows hS hro (l := l) rfl rfl rfl rfl rfl rfl rfl rfl rfl (by rw [hN]; decide) (by rw [hN]; decide) (by rw [hN]; decide) rfl k 1664 (upN l) rfl (fun _ => rfl) (upN_ok hl) hk1 hk2 rfl
    (memP l A k) rfl
    (fun i => ⟨[(8, .c (.sl (texts (upN l i)))), (27, .c (.sl (texts (upN l i)))), (26, .undef), (25, .undef), (3, .ptr 192 0), (7, .ptr 448 0), (0, .c (.sl (texts l)))], (1664, .obj [.c (.sl (texts (upN l i)))] false) :: memP l A k i⟩) ?hA ?hB ?hQ)
  case hA =>
    intro i hi E' hE hns'
    have hN' : E'.N.n = _ := (congrArg Lim.n hE).trans hN
    have hF' : E'.N.adv = _ := (congrArg Lim.adv hE).trans hF
    refine vc_sound hΓ mixed _ _ _ ?_
    simp only [runA, runB, runC, runD, runE, runF, fieldE, storeE, binE, ↓reduceIte, Nat.reduceLT, Nat.reduceLeDiff, Nat.reduceEqDiff, Nat.reduceAdd, Nat.reduceMul, Nat.reduceSub, reduceCtorEq, putAt, unE, Nat.reduceBEq, convE, buildE, List.replicate, Int.reduceLT, Int.reduceLE, Int.reduceToNat, mkE, mapSetE, hN', hF', ty_3, ty_9, ty_22, ty_27, notIf, isEq]
  case hB =>
    intro i hi E' hE hns'
    have hN' : E'.N.n = _ := (congrArg Lim.n hE).trans hN
    have hF' : E'.N.adv = _ := (congrArg Lim.adv hE).trans hF
    refine vc_sound hΓ mixed _ _ _ ?_
    have hi2 : min i k = i := by omega
    obtain ⟨q1, q2, q3, q4⟩ := hpath i hi
    by_cases hik : i < k
    · have hi3 : min (i + 1) k = i + 1 := by omega
      have hg := hk1 i hik
      obtain ⟨B, hB⟩ : ∃ B, A / 2 ^ i = B := ⟨_, rfl⟩
      have hB2 : A / 2 ^ (i + 1) = B / 2 := by rw [← hB, Nat.pow_succ, ← Nat.div_div_eq_div_mul]
      have hout : outN l A (i + 1) = outN l A i ++ [(upN l i).getD (nb B) []] := by rw [outN, hB]
      have hol := outN_length l A i
      obtain ⟨p1, p2⟩ := powN_half q3 hg
      rw [hB] at q2
      have hnb : nb B < (upN l i).length := by unfold nb; split <;> omega
      obtain ⟨s, hs⟩ : ∃ s, (upN l i)[nb B]? = some s := ⟨(upN l i)[nb B], by simp [hnb]⟩
      rw [show (upN l i).getD (nb B) [] = s from by simp [List.getD, hs]] at hout
      have hsr : (texts (upN l i))[nb B]? = some [PC.str s] := by simp [texts, hs]
      simp only [memP, hi2, hi3, hB, hB2]
      generalize upN l i = m at hg q1 q2 q3 q4 p1 p2 hnb hs hsr ⊢
      have g4 : decide ((m.length : Int) > 1) = true := by simp; omega
      have e4 := xor_one B (by omega)
      rw [show (if B % 2 = 1 then B - 1 else B + 1 : Nat) = nb B from rfl] at e4
      have e5 := shr_one B
      have hb : (1 : Int) < 0 ↔ False := by decide
      have hz := rowsOK_texts
      have hL : (i + 1) * 16 ≤ 140737488355328 := by omega
      simp only [runA, runB, runC, runD, runE, runF, fieldE, storeE, binE, ↓reduceIte, Nat.reduceLT, Nat.reduceLeDiff, Nat.reduceEqDiff, Nat.reduceAdd, Nat.reduceMul, Nat.reduceSub, reduceCtorEq, putAt, unE, Nat.reduceBEq, convE, buildE, List.replicate, Int.reduceLT, Int.reduceLE, Int.reduceToNat, mkE, mapSetE, hN', hF', ty_3, ty_9, ty_22, ty_27, notIf, isEq, g4, e4, hsr, hz, hL, hol, texts1, texts_app, ← hout, texts_length, shOp, hb, e5]
      refine drawnP_intro (by kernel_rfl) (by kernel_rfl) ?_
      simp only [runA, runB, runC, runD, runE, runF, fieldE, storeE, binE, ↓reduceIte, Nat.reduceLT, Nat.reduceLeDiff, Nat.reduceEqDiff, Nat.reduceAdd, Nat.reduceMul, Nat.reduceSub, reduceCtorEq, putAt, unE, Nat.reduceBEq, convE, buildE, List.replicate, Int.reduceLT, Int.reduceLE, Int.reduceToNat, mkE, mapSetE, hN', hF', ty_3, ty_9, ty_22, ty_27, notIf, isEq, shOp, hb, e5]
      simp only [runB, finC, finD, AS.get, AS.mem, false_implies, implies_true, ↓reduceIte, Nat.reduceEqDiff, Option.isSome_some, Option.isSome_none, forall_eq_or_imp, forall_eq, reduceCtorEq, Nat.reduceAdd, Nat.reduceMul, List.zip_cons_cons, List.zip_nil_left, List.zip_nil_right, List.forall_mem_nil]
      first | done | simp
    · obtain rfl : i = k := by omega
      have hi3 : min (i + 1) i = i := by omega
      simp only [memP, hi2, hi3]
      have g4 : decide (((upN l i).length : Int) > 1) = false := by simp; omega
      simp only [runA, runB, runC, runD, runE, runF, fieldE, storeE, binE, ↓reduceIte, Nat.reduceLT, Nat.reduceLeDiff, Nat.reduceEqDiff, Nat.reduceAdd, Nat.reduceMul, Nat.reduceSub, reduceCtorEq, putAt, unE, Nat.reduceBEq, convE, buildE, List.replicate, Int.reduceLT, Int.reduceLE, Int.reduceToNat, mkE, mapSetE, hN', hF', ty_3, ty_9, ty_22, ty_27, notIf, isEq, g4, texts_length]
      simp only [runB, finC, finD, AS.get, AS.mem, false_implies, implies_true, ↓reduceIte, Nat.reduceEqDiff, Option.isSome_some, Option.isSome_none, forall_eq_or_imp, forall_eq, reduceCtorEq, Nat.reduceAdd, Nat.reduceMul, List.zip_cons_cons, List.zip_nil_left, List.zip_nil_right, List.forall_mem_nil]
      first | done | simp
  case hQ =>
    obtain ⟨q1, q2, q3, q4⟩ := hpath k (Nat.le_refl _)
    rw [pathP_le (l := upN l k) hk2, List.append_nil] at q1
    have hi3 : min (k + 1) k = k := by omega
    rw [thenM_normal]
    refine AWPm.of fun E' hE hns' => vc_sound hΓ mixed _ _ _ ?_
    have hN' : E'.N.n = _ := (congrArg Lim.n hE).trans hN
    have hF' : E'.N.adv = _ := (congrArg Lim.adv hE).trans hF
    simp only [memP, hi3, ← q1]
    simp only [runA, runB, runC, runD, runE, runF, fieldE, storeE, binE, ↓reduceIte, Nat.reduceLT, Nat.reduceLeDiff, Nat.reduceEqDiff, Nat.reduceAdd, Nat.reduceMul, Nat.reduceSub, reduceCtorEq, putAt, unE, Nat.reduceBEq, convE, buildE, List.replicate, Int.reduceLT, Int.reduceLE, Int.reduceToNat, mkE, mapSetE, hN', hF', ty_3, ty_9, ty_22, ty_27, notIf, isEq]
    simp only [runB, finC, finD, Option.isSome_some, Option.isSome_none, ↓reduceIte, Nat.reduceEqDiff, Nat.reduceAdd, Nat.reduceMul, forall_eq_or_imp, forall_eq, implies_true, Nat.reduceBEq, reduceCtorEq, false_implies, List.zip_cons_cons, List.zip_nil_left, List.zip_nil_right, Nat.reduceLeDiff, List.forall_mem_nil, rs_56, hPS]

end Go.Proofs.Ytldehcnaepgamaa.AM
