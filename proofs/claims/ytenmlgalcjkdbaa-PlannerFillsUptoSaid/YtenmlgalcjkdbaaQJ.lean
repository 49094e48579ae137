/-
  QJ: Pl1 Pl2 Pl3 Pl4 Pl5.
-/
import Derived.Test.YtenmlgalcjkdbaaQG
import Derived.Test.YtenmlgalcjkdbaaQD
set_option linter.unusedVariables false
set_option linter.unusedSimpArgs false
namespace Go.Proofs.Ytenmlgalcjkdbaa.AM
open Go

variable {Γ : FuncId → Contract}


def zeroC : Ct := ⟨0, 0, [], []⟩
theorem Ct.pcs_inj {a b : Ct} (h : a.pcs = b.pcs) : a = b := by
  obtain ⟨a1, a2, a3, a4⟩ := a
  obtain ⟨b1, b2, b3, b4⟩ := b
  simp only [Ct.pcs, List.cons.injEq, PC.str.injEq, PC.int.injEq, PC.sl.injEq, votes_iff, true_and, and_true] at h
  obtain ⟨rfl, rfl, rfl, rfl⟩ := h
  rfl
def crows (l : List Ct) : List (List PC) := l.map Ct.pcs
theorem crows_iff {a b : List Ct} : crows a = crows b ↔ a = b := ⟨map_inj' fun _ _ => Ct.pcs_inj, fun h => by rw [h]⟩
theorem crows_length (l : List Ct) : (crows l).length = l.length := by simp [crows]
theorem crows_nil : crows [] = [] := rfl
theorem crows_one (c : Ct) : [[.int .i64 c.vw, .int .i64 c.ht, .str c.bl, .sl (votes c.vs)]] = crows [c] := rfl
theorem crowsD (l : List Ct) (i : Nat) (h : i < l.length) : (crows l)[i]? = some [.int .i64 (l.getD i zeroC).vw, .int .i64 (l.getD i zeroC).ht, .str (l.getD i zeroC).bl, .sl (votes (l.getD i zeroC).vs)] := by
  simp [crows, List.getD, h, Ct.pcs]
theorem rowsOK_crows (l : List Ct) : rowsOK 4 (crows l) := by
  intro r hr
  obtain ⟨t, _, rfl⟩ := List.mem_map.1 hr
  rfl
/-! words of lists -/
theorem textsG (l : List (List UInt8)) (i : Nat) (h : i < l.length) : (texts l)[i]? = some [.str (l.getD i [])] := by
  simp [texts, List.getD, h]
theorem texts_snocG (l : List (List UInt8)) (s : List UInt8) : texts l ++ [[.str s]] = texts (l ++ [s]) := by simp [texts]
def hasS (l : List (List UInt8)) (s : List UInt8) : Bool := l.any fun x => x == s
theorem hasS_comm (l : List (List UInt8)) (s : List UInt8) : (l.any fun x => s == x) = hasS l s := by
  unfold hasS
  congr 1
  funext x
  exact BEq.comm
theorem hasS_true {l : List (List UInt8)} {s : List UInt8} {i : Nat} (hi : i < l.length) (h : (l.getD i [] == s) = true) : hasS l s = true := by
  unfold hasS
  rw [List.any_eq_true]
  rw [List.getD, List.getElem?_eq_getElem hi] at h
  exact ⟨_, List.getElem_mem hi, h⟩
theorem hasS_false {l : List (List UInt8)} {s : List UInt8} (h : ∀ k, k < l.length → (l.getD k [] == s) = false) : hasS l s = false := by
  unfold hasS
  rw [List.any_eq_false]
  intro x hx
  obtain ⟨k, hk, rfl⟩ := List.getElem_of_mem hx
  have := h k hk
  rw [List.getD, List.getElem?_eq_getElem hk] at this
  simpa using this
noncomputable def sixC : Contract := mkC (α := List (List UInt8) × List UInt8) (fun p => p.1.length ≤ 9223372036854775807) (fun p => [.c (.sl (texts p.1)), .c (.str p.2)]) (fun p => []) (fun p => ⟨[.pv (.c (.int .i64 (idxP (fun x => p.2 == x) p.1)))], []⟩)
theorem six_at (l : List (List UInt8)) (s : List UInt8) (g0 : l.length ≤ 9223372036854775807) : sixC [.c (.sl (texts l)), .c (.str s)] [] = some ⟨[.pv (.c (.int .i64 (idxP (fun x => s == x) l)))], []⟩ := by
  exact mkC_at (α := List (List UInt8) × List UInt8) (l, s) g0 (by
    rintro ⟨l', s'⟩ _ h ho
    have hh := And.intro h ho
    clear h ho
    simp only [List.cons.injEq, AV.c.injEq, AV.agg.injEq, PC.int.injEq, PC.str.injEq, PC.bool.injEq, PC.sl.injEq, OV.c.injEq, OV.own.injEq, OV.mp.injEq, bytes_iff, texts_iff, true_and, and_true, and_self, beq_self_eq_true] at hh
    simp only [hh])

set_option maxRecDepth 100000 in
set_option maxHeartbeats 4000000 in
theorem six_sound  : SoundC Try.prog 91 sixC := by
  refine sound_fn Try.func91 (by kernel_rfl) rfl rfl ?_
  intro args objs r0 hr
  obtain ⟨⟨l, s⟩, hl, rfl, rfl, rfl⟩ := mkC_inv hr
  refine ⟨rfl, by show 2 ≤ _; decide, fun E hN hns hF => ?_⟩
  refine vc_sound none0_sound mixed _ _ _ ?_
  have hN := hN.trans nt_91
  have hl : l.length ≤ 9223372036854775807 := hl
  dsimp only
  obtain ⟨R, hR⟩ : ∃ R, R = idxP (fun x => s == x) l := ⟨_, rfl⟩
  rw [← hR]
  simp only [runA, runB, runC, runD, runE, runF, fieldE, storeE, binE, ↓reduceIte, Nat.reduceLT, Nat.reduceLeDiff, Nat.reduceEqDiff, Nat.reduceAdd, Nat.reduceMul, Nat.reduceSub, reduceCtorEq, putAt, unE, Nat.reduceBEq, convE, buildE, List.replicate, Int.reduceLT, Int.reduceLE, Int.reduceToNat, mkE, mapSetE, hN, hF, ty_3, ty_9, ty_65, notIf, isEq, texts_length]
  refine AWP.loop (fun k st => ∃ i : Nat, (i ≤ l.length ∧ ∀ k, k < i → (s == l.getD k []) = false) ∧ k = l.length - i ∧ st = ⟨[(0, .c (.sl (texts l))), (1, .c (.str s)), (7, .c (.int .i64 (l.length : Int))), (8, .c (.int .i64 (i : Int)))], []⟩) ⟨l.length, _, ?w, 0, ⟨Nat.zero_le _, fun k hk => absurd hk (by omega)⟩, rfl, rfl⟩ ?r
  case w =>
    rw [hns]
    simp only [runB, finC, finD, AS.get, AS.mem, false_implies, implies_true, ↓reduceIte, Nat.reduceEqDiff, Option.isSome_some, Option.isSome_none, forall_eq_or_imp, forall_eq, reduceCtorEq, Nat.reduceAdd, Nat.reduceMul, List.zip_cons_cons, List.zip_nil_left, List.zip_nil_right, List.forall_mem_nil]
    first | done | simp
  case r =>
    rintro k st ⟨i, ⟨hi, h8⟩, rfl, rfl⟩
    refine vc_sound none0_sound mixed _ _ _ ?_
    by_cases hlt : i < l.length
    · have k1 : decide ((i : Int) < (l.length : Int)) = true := decide_eq_true (by omega)
      have e1 : IntKind.i64.wrap ((i : Int) + 1) = (i : Int) + 1 := wrapI (by omega)
      have hg := textsG l i hlt
      cases hp : s == l.getD i [] with
      | false =>
        have h8' : ∀ k, k < i + 1 → (s == l.getD k []) = false := fun k hk => by
          by_cases e : k = i
          · rw [e]; exact hp
          · exact h8 k (by omega)
        generalize l.getD i [] = y at hg hp
        simp only [runA, runB, runC, runD, runE, runF, fieldE, storeE, binE, ↓reduceIte, Nat.reduceLT, Nat.reduceLeDiff, Nat.reduceEqDiff, Nat.reduceAdd, Nat.reduceMul, Nat.reduceSub, reduceCtorEq, putAt, unE, Nat.reduceBEq, convE, buildE, List.replicate, Int.reduceLT, Int.reduceLE, Int.reduceToNat, mkE, mapSetE, hN, hF, ty_3, ty_9, ty_65, notIf, isEq, k1, e1, hg, hp, texts_length]
        refine ⟨l.length - (i + 1), _, by omega, ?_, i + 1, ⟨by omega, h8'⟩, rfl, rfl⟩
        rw [hns]
        simp only [runB, finC, finD, AS.get, AS.mem, false_implies, implies_true, ↓reduceIte, Nat.reduceEqDiff, Option.isSome_some, Option.isSome_none, forall_eq_or_imp, forall_eq, reduceCtorEq, Nat.reduceAdd, Nat.reduceMul, List.zip_cons_cons, List.zip_nil_left, List.zip_nil_right, List.forall_mem_nil]
        first | done | simp
      | true =>
        have hR2 : R = (i : Int) := by rw [hR]; exact idxP_some hlt hp h8
        rw [hR2]
        generalize l.getD i [] = y at hg hp
        simp only [runA, runB, runC, runD, runE, runF, fieldE, storeE, binE, ↓reduceIte, Nat.reduceLT, Nat.reduceLeDiff, Nat.reduceEqDiff, Nat.reduceAdd, Nat.reduceMul, Nat.reduceSub, reduceCtorEq, putAt, unE, Nat.reduceBEq, convE, buildE, List.replicate, Int.reduceLT, Int.reduceLE, Int.reduceToNat, mkE, mapSetE, hN, hF, ty_3, ty_9, ty_65, notIf, isEq, k1, e1, hg, hp, texts_length]
        simp only [runB, finC, finD, Option.isSome_some, Option.isSome_none, ↓reduceIte, Nat.reduceEqDiff, Nat.reduceAdd, Nat.reduceMul, forall_eq_or_imp, forall_eq, implies_true, Nat.reduceBEq, reduceCtorEq, false_implies, List.zip_cons_cons, List.zip_nil_left, List.zip_nil_right, Nat.reduceLeDiff, List.forall_mem_nil, rs_91, ty_3, ty_9, ty_65]
    · have k1 : decide ((i : Int) < (l.length : Int)) = false := decide_eq_false (by omega)
      have hR2 : R = -1 := by rw [hR]; exact idxP_none (d := []) fun k hk => h8 k (by omega)
      rw [hR2]
      simp only [runA, runB, runC, runD, runE, runF, fieldE, storeE, binE, ↓reduceIte, Nat.reduceLT, Nat.reduceLeDiff, Nat.reduceEqDiff, Nat.reduceAdd, Nat.reduceMul, Nat.reduceSub, reduceCtorEq, putAt, unE, Nat.reduceBEq, convE, buildE, List.replicate, Int.reduceLT, Int.reduceLE, Int.reduceToNat, mkE, mapSetE, hN, hF, ty_3, ty_9, ty_65, notIf, isEq, k1, texts_length]
      simp only [runB, finC, finD, Option.isSome_some, Option.isSome_none, ↓reduceIte, Nat.reduceEqDiff, Nat.reduceAdd, Nat.reduceMul, forall_eq_or_imp, forall_eq, implies_true, Nat.reduceBEq, reduceCtorEq, false_implies, List.zip_cons_cons, List.zip_nil_left, List.zip_nil_right, Nat.reduceLeDiff, List.forall_mem_nil, rs_91, ty_3, ty_9, ty_65]
noncomputable def sctC : Contract := mkC (α := List (List UInt8) × List UInt8) (fun p => p.1.length ≤ 9223372036854775807) (fun p => [.c (.sl (texts p.1)), .c (.str p.2)]) (fun p => []) (fun p => ⟨[.pv (.c (.bool (hasS p.1 p.2)))], []⟩)
theorem sct_at (l : List (List UInt8)) (s : List UInt8) (g0 : l.length ≤ 9223372036854775807) : sctC [.c (.sl (texts l)), .c (.str s)] [] = some ⟨[.pv (.c (.bool (hasS l s)))], []⟩ := by
  exact mkC_at (α := List (List UInt8) × List UInt8) (l, s) g0 (by
    rintro ⟨l', s'⟩ _ h ho
    have hh := And.intro h ho
    clear h ho
    simp only [List.cons.injEq, AV.c.injEq, AV.agg.injEq, PC.int.injEq, PC.str.injEq, PC.bool.injEq, PC.sl.injEq, OV.c.injEq, OV.own.injEq, OV.mp.injEq, bytes_iff, texts_iff, true_and, and_true, and_self, beq_self_eq_true] at hh
    simp only [hh])

set_option maxRecDepth 100000 in
set_option maxHeartbeats 4000000 in
theorem sct_sound (hΓ : SoundG Try.prog Γ) (h1 : Γ 91 = sixC) : SoundC Try.prog 64 sctC := by
  refine sound_fn Try.func64 (by kernel_rfl) rfl rfl ?_
  intro args objs r0 hr
  obtain ⟨⟨l, s⟩, hl, rfl, rfl, rfl⟩ := mkC_inv hr
  refine ⟨rfl, by show 2 ≤ _; decide, fun E hN hns hF => ?_⟩
  refine vc_sound hΓ mixed _ _ _ ?_
  have hN := hN.trans nt_64
  have hl : l.length ≤ 9223372036854775807 := hl
  have q1 := six_at l s hl
  have hge := idxP_ge (fun x => s == x) l
  rw [hasS_comm] at hge
  dsimp only
  generalize idxP (fun x => s == x) l = i at q1 hge
  simp only [runA, runB, runC, runD, runE, runF, fieldE, storeE, binE, ↓reduceIte, Nat.reduceLT, Nat.reduceLeDiff, Nat.reduceEqDiff, Nat.reduceAdd, Nat.reduceMul, Nat.reduceSub, reduceCtorEq, putAt, unE, Nat.reduceBEq, convE, buildE, List.replicate, Int.reduceLT, Int.reduceLE, Int.reduceToNat, mkE, mapSetE, hN, hF, ty_3, ty_4, ty_9, ty_65, notIf, isEq, h1, q1, hge]
  simp only [runB, finC, finD, Option.isSome_some, Option.isSome_none, ↓reduceIte, Nat.reduceEqDiff, Nat.reduceAdd, Nat.reduceMul, forall_eq_or_imp, forall_eq, implies_true, Nat.reduceBEq, reduceCtorEq, false_implies, List.zip_cons_cons, List.zip_nil_left, List.zip_nil_right, Nat.reduceLeDiff, List.forall_mem_nil, rs_64, ty_3, ty_4, ty_9, ty_65]
noncomputable def has43C : Contract := mkC (α := List (List UInt8) × List UInt8) (fun p => p.1.length ≤ 9223372036854775807) (fun p => [.c (.sl (texts p.1)), .c (.str p.2)]) (fun p => []) (fun p => ⟨[.pv (.c (.bool (hasS p.1 p.2)))], []⟩)
theorem has43_at (l : List (List UInt8)) (s : List UInt8) (g0 : l.length ≤ 9223372036854775807) : has43C [.c (.sl (texts l)), .c (.str s)] [] = some ⟨[.pv (.c (.bool (hasS l s)))], []⟩ := by
  exact mkC_at (α := List (List UInt8) × List UInt8) (l, s) g0 (by
    rintro ⟨l', s'⟩ _ h ho
    have hh := And.intro h ho
    clear h ho
    simp only [List.cons.injEq, AV.c.injEq, AV.agg.injEq, PC.int.injEq, PC.str.injEq, PC.bool.injEq, PC.sl.injEq, OV.c.injEq, OV.own.injEq, OV.mp.injEq, bytes_iff, texts_iff, true_and, and_true, and_self, beq_self_eq_true] at hh
    simp only [hh])

set_option maxRecDepth 100000 in
set_option maxHeartbeats 4000000 in
theorem has43_sound  : SoundC Try.prog 36 has43C := by
  refine sound_fn Try.func36 (by kernel_rfl) rfl rfl ?_
  intro args objs r0 hr
  obtain ⟨⟨l, s⟩, hl, rfl, rfl, rfl⟩ := mkC_inv hr
  refine ⟨rfl, by show 2 ≤ _; decide, fun E hN hns hF => ?_⟩
  refine vc_sound none0_sound mixed _ _ _ ?_
  have hN := hN.trans nt_36
  have hl : l.length ≤ 9223372036854775807 := hl
  dsimp only
  obtain ⟨R, hR⟩ : ∃ R, R = hasS l s := ⟨_, rfl⟩
  rw [← hR]
  simp only [runA, runB, runC, runD, runE, runF, fieldE, storeE, binE, ↓reduceIte, Nat.reduceLT, Nat.reduceLeDiff, Nat.reduceEqDiff, Nat.reduceAdd, Nat.reduceMul, Nat.reduceSub, reduceCtorEq, putAt, unE, Nat.reduceBEq, convE, buildE, List.replicate, Int.reduceLT, Int.reduceLE, Int.reduceToNat, mkE, mapSetE, hN, hF, ty_3, ty_4, ty_9, ty_65, notIf, isEq, texts_length]
  refine AWP.loop (fun k st => ∃ i : Nat, (i ≤ l.length ∧ ∀ k, k < i → (l.getD k [] == s) = false) ∧ k = l.length - i ∧ st = ⟨[(0, .c (.sl (texts l))), (1, .c (.str s)), (5, .c (.int .i64 (i : Int)))], []⟩) ⟨l.length, _, ?w, 0, ⟨Nat.zero_le _, fun k hk => absurd hk (by omega)⟩, rfl, rfl⟩ ?r
  case w =>
    rw [hns]
    simp only [runB, finC, finD, AS.get, AS.mem, false_implies, implies_true, ↓reduceIte, Nat.reduceEqDiff, Option.isSome_some, Option.isSome_none, forall_eq_or_imp, forall_eq, reduceCtorEq, Nat.reduceAdd, Nat.reduceMul, List.zip_cons_cons, List.zip_nil_left, List.zip_nil_right, List.forall_mem_nil]
    first | done | simp
  case r =>
    rintro k st ⟨i, ⟨hi, h8⟩, rfl, rfl⟩
    refine vc_sound none0_sound mixed _ _ _ ?_
    by_cases hlt : i < l.length
    · have k1 : decide ((i : Int) < (l.length : Int)) = true := decide_eq_true (by omega)
      have e1 : IntKind.i64.wrap ((i : Int) + 1) = (i : Int) + 1 := wrapI (by omega)
      have hg := textsG l i hlt
      cases hp : l.getD i [] == s with
      | false =>
        have h8' : ∀ k, k < i + 1 → (l.getD k [] == s) = false := fun k hk => by
          by_cases e : k = i
          · rw [e]; exact hp
          · exact h8 k (by omega)
        generalize l.getD i [] = y at hg hp
        simp only [runA, runB, runC, runD, runE, runF, fieldE, storeE, binE, ↓reduceIte, Nat.reduceLT, Nat.reduceLeDiff, Nat.reduceEqDiff, Nat.reduceAdd, Nat.reduceMul, Nat.reduceSub, reduceCtorEq, putAt, unE, Nat.reduceBEq, convE, buildE, List.replicate, Int.reduceLT, Int.reduceLE, Int.reduceToNat, mkE, mapSetE, hN, hF, ty_3, ty_4, ty_9, ty_65, notIf, isEq, k1, e1, hg, hp, texts_length]
        refine ⟨l.length - (i + 1), _, by omega, ?_, i + 1, ⟨by omega, h8'⟩, rfl, rfl⟩
        rw [hns]
        simp only [runB, finC, finD, AS.get, AS.mem, false_implies, implies_true, ↓reduceIte, Nat.reduceEqDiff, Option.isSome_some, Option.isSome_none, forall_eq_or_imp, forall_eq, reduceCtorEq, Nat.reduceAdd, Nat.reduceMul, List.zip_cons_cons, List.zip_nil_left, List.zip_nil_right, List.forall_mem_nil]
        first | done | simp
      | true =>
        have hR2 : R = true := by rw [hR]; exact hasS_true hlt hp
        rw [hR2]
        generalize l.getD i [] = y at hg hp
        simp only [runA, runB, runC, runD, runE, runF, fieldE, storeE, binE, ↓reduceIte, Nat.reduceLT, Nat.reduceLeDiff, Nat.reduceEqDiff, Nat.reduceAdd, Nat.reduceMul, Nat.reduceSub, reduceCtorEq, putAt, unE, Nat.reduceBEq, convE, buildE, List.replicate, Int.reduceLT, Int.reduceLE, Int.reduceToNat, mkE, mapSetE, hN, hF, ty_3, ty_4, ty_9, ty_65, notIf, isEq, k1, e1, hg, hp, texts_length]
        simp only [runB, finC, finD, Option.isSome_some, Option.isSome_none, ↓reduceIte, Nat.reduceEqDiff, Nat.reduceAdd, Nat.reduceMul, forall_eq_or_imp, forall_eq, implies_true, Nat.reduceBEq, reduceCtorEq, false_implies, List.zip_cons_cons, List.zip_nil_left, List.zip_nil_right, Nat.reduceLeDiff, List.forall_mem_nil, rs_36, ty_3, ty_4, ty_9, ty_65]
    · have k1 : decide ((i : Int) < (l.length : Int)) = false := decide_eq_false (by omega)
      have hR2 : R = false := by rw [hR]; exact hasS_false fun k hk => h8 k (by omega)
      rw [hR2]
      simp only [runA, runB, runC, runD, runE, runF, fieldE, storeE, binE, ↓reduceIte, Nat.reduceLT, Nat.reduceLeDiff, Nat.reduceEqDiff, Nat.reduceAdd, Nat.reduceMul, Nat.reduceSub, reduceCtorEq, putAt, unE, Nat.reduceBEq, convE, buildE, List.replicate, Int.reduceLT, Int.reduceLE, Int.reduceToNat, mkE, mapSetE, hN, hF, ty_3, ty_4, ty_9, ty_65, notIf, isEq, k1, texts_length]
      simp only [runB, finC, finD, Option.isSome_some, Option.isSome_none, ↓reduceIte, Nat.reduceEqDiff, Nat.reduceAdd, Nat.reduceMul, forall_eq_or_imp, forall_eq, implies_true, Nat.reduceBEq, reduceCtorEq, false_implies, List.zip_cons_cons, List.zip_nil_left, List.zip_nil_right, Nat.reduceLeDiff, List.forall_mem_nil, rs_36, ty_3, ty_4, ty_9, ty_65]

/-- Two lists of texts. -/
structure TxP2 where
  a : List (List UInt8)
  b : List (List UInt8)
noncomputable def ptextsC : Contract := mkC (α := TxP2) (fun p => p.a.length ≤ 1099511627776) (fun p => [.c (.sl (texts p.a)), .c (.sl (texts p.b))]) (fun _ => []) (fun p => ⟨[.pv (.c (.bool (decide (p.a = p.b))))], []⟩)
theorem ptexts_at (a b : List (List UInt8)) (h : a.length ≤ 1099511627776) : ptextsC [.c (.sl (texts a)), .c (.sl (texts b))] [] = some ⟨[.pv (.c (.bool (decide (a = b))))], []⟩ :=
  mkC_at (α := TxP2) ⟨a, b⟩ h (by
    rintro ⟨a', b'⟩ _ h' _
    simp only [List.cons.injEq, AV.c.injEq, PC.sl.injEq, and_true] at h'
    obtain ⟨h1, h2⟩ := h'
    obtain rfl := texts_inj h1
    obtain rfl := texts_inj h2
    rfl)

set_option maxRecDepth 100000 in
set_option maxHeartbeats 1000000 in
theorem ptexts_sound (hΓ : SoundG Try.prog Γ) : SoundC Try.prog 38 ptextsC := by
  refine sound_fn Try.func38 (by kernel_rfl) rfl rfl ?_
  intro args objs r hr
  obtain ⟨⟨a, b⟩, hl, rfl, rfl, rfl⟩ := mkC_inv hr
  have hl : a.length ≤ 1099511627776 := hl
  refine ⟨rfl, by show 2 ≤ _; decide, fun E hN hns hF => ?_⟩
  refine vc_sound hΓ mixed _ _ _ ?_
  have hN := hN.trans nt_38
  dsimp only
  by_cases hne : a.length = b.length
  · have g1 : ((a.length : Int) != (b.length : Int)) = false := by simp [hne]
    simp only [runA, runB, runC, runD, runE, runF, fieldE, storeE, binE, ↓reduceIte, Nat.reduceLT, Nat.reduceLeDiff, Nat.reduceEqDiff, Nat.reduceAdd, Nat.reduceMul, Nat.reduceSub, reduceCtorEq, putAt, unE, Nat.reduceBEq, convE, buildE, List.replicate, Int.reduceLT, Int.reduceLE, Int.reduceToNat, mkE, mapSetE, hN, hF, ty_3, ty_4, ty_9, ty_65, notIf, isEq, g1, texts_length]
    refine AWP.loop (fun c st => ∃ i : Nat, i ≤ a.length ∧ a.take i = b.take i ∧ c = a.length - i ∧ st = ⟨[(0, .c (.sl (texts a))), (1, .c (.sl (texts b))), (5, .c (.int .i64 (i : Int)))], []⟩) ⟨a.length, _, ?w, 0, Nat.zero_le _, rfl, rfl, rfl⟩ ?r
    case w =>
      rw [hns]
      simp only [runB, finC, finD, AS.get, AS.mem, false_implies, implies_true, ↓reduceIte, Nat.reduceEqDiff, Option.isSome_some, Option.isSome_none, forall_eq_or_imp, forall_eq, reduceCtorEq, Nat.reduceAdd, Nat.reduceMul, List.zip_cons_cons, List.zip_nil_left, List.zip_nil_right, List.forall_mem_nil]
      first | done | simp
    case r =>
      rintro c st ⟨i, hi, hti, rfl, rfl⟩
      refine vc_sound hΓ mixed _ _ _ ?_
      by_cases hlt : i < a.length
      · have g2 : decide ((i : Int) < (a.length : Int)) = true := by simpa using hlt
        obtain ⟨x, hx⟩ : ∃ x, a[i]? = some x := ⟨a[i], by simp [hlt]⟩
        obtain ⟨y, hy⟩ : ∃ y, b[i]? = some y := ⟨b[i]'(by omega), by simp⟩
        have hxr : (texts a)[i]? = some [PC.str x] := by simp [texts, hx]
        have hyr : (texts b)[i]? = some [PC.str y] := by simp [texts, hy]
        have e1 : IntKind.i64.wrap ((i : Int) + 1) = (i : Int) + 1 := wrapI (by omega)
        by_cases hxy : x = y
        · subst hxy
          have g3 : (x != x) = false := by simp
          have hti2 : a.take (i + 1) = b.take (i + 1) := by rw [List.take_add_one, List.take_add_one, hti, hx, hy]
          simp only [runA, runB, runC, runD, runE, runF, fieldE, storeE, binE, ↓reduceIte, Nat.reduceLT, Nat.reduceLeDiff, Nat.reduceEqDiff, Nat.reduceAdd, Nat.reduceMul, Nat.reduceSub, reduceCtorEq, putAt, unE, Nat.reduceBEq, convE, buildE, List.replicate, Int.reduceLT, Int.reduceLE, Int.reduceToNat, mkE, mapSetE, hN, hF, ty_3, ty_4, ty_9, ty_65, notIf, isEq, g2, hxr, hyr, g3, texts_length]
          refine drawnP_intro (by kernel_rfl) (by kernel_rfl) ?_
          simp only [runA, runB, runC, runD, runE, runF, fieldE, storeE, binE, ↓reduceIte, Nat.reduceLT, Nat.reduceLeDiff, Nat.reduceEqDiff, Nat.reduceAdd, Nat.reduceMul, Nat.reduceSub, reduceCtorEq, putAt, unE, Nat.reduceBEq, convE, buildE, List.replicate, Int.reduceLT, Int.reduceLE, Int.reduceToNat, mkE, mapSetE, hN, hF, ty_3, ty_4, ty_9, ty_65, notIf, isEq, g3, e1]
          refine ⟨a.length - (i + 1), _, by omega, ?_, i + 1, by omega, hti2, rfl, rfl⟩
          rw [hns]
          simp only [runB, finC, finD, AS.get, AS.mem, false_implies, implies_true, ↓reduceIte, Nat.reduceEqDiff, Option.isSome_some, Option.isSome_none, forall_eq_or_imp, forall_eq, reduceCtorEq, Nat.reduceAdd, Nat.reduceMul, List.zip_cons_cons, List.zip_nil_left, List.zip_nil_right, List.forall_mem_nil]
          first | done | simp
        · have g3 : (x == y) = false := by simpa using hxy
          have hab : decide (a = b) = false := by
            simp only [decide_eq_false_iff_not]
            rintro rfl
            rw [hx] at hy
            exact hxy (Option.some.inj hy)
          simp only [runA, runB, runC, runD, runE, runF, fieldE, storeE, binE, ↓reduceIte, Nat.reduceLT, Nat.reduceLeDiff, Nat.reduceEqDiff, Nat.reduceAdd, Nat.reduceMul, Nat.reduceSub, reduceCtorEq, putAt, unE, Nat.reduceBEq, convE, buildE, List.replicate, Int.reduceLT, Int.reduceLE, Int.reduceToNat, mkE, mapSetE, hN, hF, ty_3, ty_4, ty_9, ty_65, notIf, isEq, g2, hxr, hyr, g3, texts_length]
          refine drawnP_intro (by kernel_rfl) (by kernel_rfl) ?_
          simp only [runA, runB, runC, runD, runE, runF, fieldE, storeE, binE, ↓reduceIte, Nat.reduceLT, Nat.reduceLeDiff, Nat.reduceEqDiff, Nat.reduceAdd, Nat.reduceMul, Nat.reduceSub, reduceCtorEq, putAt, unE, Nat.reduceBEq, convE, buildE, List.replicate, Int.reduceLT, Int.reduceLE, Int.reduceToNat, mkE, mapSetE, hN, hF, ty_3, ty_4, ty_9, ty_65, notIf, isEq, g3]
          simp only [runB, finC, finD, Option.isSome_some, Option.isSome_none, ↓reduceIte, Nat.reduceEqDiff, Nat.reduceAdd, Nat.reduceMul, forall_eq_or_imp, forall_eq, implies_true, Nat.reduceBEq, reduceCtorEq, false_implies, List.zip_cons_cons, List.zip_nil_left, List.zip_nil_right, Nat.reduceLeDiff, List.forall_mem_nil, rs_38, hab]
      · have g2 : decide ((i : Int) < (a.length : Int)) = false := by simpa using hlt
        have hab : decide (a = b) = true := by
          simp only [decide_eq_true_eq]
          rw [List.take_of_length_le (by omega), List.take_of_length_le (by omega)] at hti
          exact hti
        simp only [runA, runB, runC, runD, runE, runF, fieldE, storeE, binE, ↓reduceIte, Nat.reduceLT, Nat.reduceLeDiff, Nat.reduceEqDiff, Nat.reduceAdd, Nat.reduceMul, Nat.reduceSub, reduceCtorEq, putAt, unE, Nat.reduceBEq, convE, buildE, List.replicate, Int.reduceLT, Int.reduceLE, Int.reduceToNat, mkE, mapSetE, hN, hF, ty_3, ty_4, ty_9, ty_65, notIf, isEq, g2, texts_length]
        simp only [runB, finC, finD, Option.isSome_some, Option.isSome_none, ↓reduceIte, Nat.reduceEqDiff, Nat.reduceAdd, Nat.reduceMul, forall_eq_or_imp, forall_eq, implies_true, Nat.reduceBEq, reduceCtorEq, false_implies, List.zip_cons_cons, List.zip_nil_left, List.zip_nil_right, Nat.reduceLeDiff, List.forall_mem_nil, rs_38, hab]
  · have g1 : ((a.length : Int) != (b.length : Int)) = true := by simp; omega
    have hab : decide (a = b) = false := by
      simp only [decide_eq_false_iff_not]
      rintro rfl
      exact hne rfl
    simp only [runA, runB, runC, runD, runE, runF, fieldE, storeE, binE, ↓reduceIte, Nat.reduceLT, Nat.reduceLeDiff, Nat.reduceEqDiff, Nat.reduceAdd, Nat.reduceMul, Nat.reduceSub, reduceCtorEq, putAt, unE, Nat.reduceBEq, convE, buildE, List.replicate, Int.reduceLT, Int.reduceLE, Int.reduceToNat, mkE, mapSetE, hN, hF, ty_3, ty_4, ty_9, ty_65, notIf, isEq, g1, texts_length]
    simp only [runB, finC, finD, Option.isSome_some, Option.isSome_none, ↓reduceIte, Nat.reduceEqDiff, Nat.reduceAdd, Nat.reduceMul, forall_eq_or_imp, forall_eq, implies_true, Nat.reduceBEq, reduceCtorEq, false_implies, List.zip_cons_cons, List.zip_nil_left, List.zip_nil_right, Nat.reduceLeDiff, List.forall_mem_nil, rs_38, hab]


end Go.Proofs.Ytenmlgalcjkdbaa.AM
set_option linter.unusedVariables false
set_option linter.unusedSimpArgs false
namespace Go.Proofs.Ytenmlgalcjkdbaa.AM
open Go

variable {Γ : FuncId → Contract}


theorem foldl_take {α β : Type} (f : β → α → β) (b : β) (l : List α) (d : α) {i : Nat} (h : i < l.length) : (l.take (i + 1)).foldl f b = f ((l.take i).foldl f b) (l.getD i d) := by
  rw [List.take_add_one, List.getElem?_eq_getElem h, List.foldl_append, List.getD, List.getElem?_eq_getElem h]
  rfl
def askS (most : Int) (a : List (List UInt8)) (s : List UInt8) : List (List UInt8) := if !(s == []) && (decide ((a.length : Int) < most) && !hasS a s) then a ++ [s] else a
noncomputable def rdyS (o : List Blk) (r : List (List UInt8)) (s : List UInt8) : List (List UInt8) := if (walkS o s).2 && !hasS r s then r ++ [s] else r
noncomputable def hgtS (o : List Blk) (h : Int) (s : List UInt8) : Int := if (walkS o s).2 then max h ((walkS o s).1.length : Int) else h
noncomputable def askI (o : List Blk) (most : Int) (hs : List Ct) (i : Nat) : List (List UInt8) := (hs.take i).foldl (fun a c => askS most a (missS o c.bl)) []
noncomputable def rdyI (o : List Blk) (hs : List Ct) (i : Nat) : List (List UInt8) := (hs.take i).foldl (fun r c => rdyS o r c.bl) []
noncomputable def hgtI (o : List Blk) (hs : List Ct) (i : Nat) : Int := (hs.take i).foldl (fun h c => hgtS o h c.bl) 0
noncomputable def askL (o : List Blk) (most : Int) (hs : List Ct) : List (List UInt8) := askI o most hs hs.length
noncomputable def rdyL (o : List Blk) (hs : List Ct) : List (List UInt8) := rdyI o hs hs.length
noncomputable def hgtL (o : List Blk) (hs : List Ct) : Int := hgtI o hs hs.length
theorem askI_succ {o : List Blk} {most : Int} {hs : List Ct} {i : Nat} (h : i < hs.length) : askI o most hs (i + 1) = askS most (askI o most hs i) (missS o (hs.getD i zeroC).bl) := foldl_take _ _ _ _ h
theorem rdyI_succ {o : List Blk} {hs : List Ct} {i : Nat} (h : i < hs.length) : rdyI o hs (i + 1) = rdyS o (rdyI o hs i) (hs.getD i zeroC).bl := foldl_take _ _ _ _ h
theorem hgtI_succ {o : List Blk} {hs : List Ct} {i : Nat} (h : i < hs.length) : hgtI o hs (i + 1) = hgtS o (hgtI o hs i) (hs.getD i zeroC).bl := foldl_take _ _ _ _ h
theorem askS_len (most : Int) (a : List (List UInt8)) (s : List UInt8) : (askS most a s).length ≤ a.length + 1 := by
  unfold askS
  split <;> simp
theorem rdyS_len (o : List Blk) (a : List (List UInt8)) (s : List UInt8) : (rdyS o a s).length ≤ a.length + 1 := by
  unfold rdyS
  split <;> simp
theorem askI_len (o : List Blk) (most : Int) (hs : List Ct) : ∀ i, i ≤ hs.length → (askI o most hs i).length ≤ i
  | 0, _ => by simp [askI]
  | i + 1, h => by
    rw [askI_succ (by omega)]
    have := askI_len o most hs i (by omega)
    have := askS_len most (askI o most hs i) (missS o (hs.getD i zeroC).bl)
    omega
theorem rdyI_len (o : List Blk) (hs : List Ct) : ∀ i, i ≤ hs.length → (rdyI o hs i).length ≤ i
  | 0, _ => by simp [rdyI]
  | i + 1, h => by
    rw [rdyI_succ (by omega)]
    have := rdyI_len o hs i (by omega)
    have := rdyS_len o (rdyI o hs i) (hs.getD i zeroC).bl
    omega
theorem hgtI_bd (o : List Blk) (hs : List Ct) : ∀ i, i ≤ hs.length → 0 ≤ hgtI o hs i ∧ hgtI o hs i ≤ (o.length : Int) + 1
  | 0, _ => by simp [hgtI]; omega
  | i + 1, h => by
    rw [hgtI_succ (by omega)]
    have := hgtI_bd o hs i (by omega)
    have hw := walkS_len o (hs.getD i zeroC).bl
    unfold hgtS
    split <;> omega
/-! what is asked for lacks -/
theorem missL_none {own : List Blk} : ∀ (f : Nat) (nm s : List UInt8), missL own f nm = s → s ≠ [] → atB own s = none
  | 0, nm, s, h, hs => absurd h.symm hs
  | f + 1, nm, s, h, hs => by
    unfold missL at h
    split at h
    · exact absurd h.symm hs
    · cases ha : atB own nm with
      | none => rw [ha] at h; simp only at h; rw [← h]; exact ha
      | some b => rw [ha] at h; exact missL_none f b.pa s h hs
theorem askS_mem {most : Int} {a : List (List UInt8)} {s x : List UInt8} (h : x ∈ askS most a s) : x ∈ a ∨ (x = s ∧ s ≠ []) := by
  unfold askS at h
  split at h
  · rename_i hc
    rcases List.mem_append.1 h with h | h
    · exact .inl h
    · simp only [Bool.and_eq_true, Bool.not_eq_true', beq_eq_false_iff_ne] at hc
      exact .inr ⟨by simpa using h, hc.1⟩
  · exact .inl h
theorem askI_none (o : List Blk) (most : Int) (hs : List Ct) : ∀ i, i ≤ hs.length → ∀ x ∈ askI o most hs i, atB o x = none
  | 0, _, x, hx => by simp [askI] at hx
  | i + 1, h, x, hx => by
    rw [askI_succ (by omega)] at hx
    rcases askS_mem hx with hx | ⟨rfl, hn⟩
    · exact askI_none o most hs i (by omega) x hx
    · exact missL_none _ _ _ rfl hn
theorem askL_none {o : List Blk} {most : Int} {hs : List Ct} {x : List UInt8} (h : hasS (askL o most hs) x = true) : atB o x = none := by
  unfold hasS at h
  rw [List.any_eq_true] at h
  obtain ⟨y, hy, e⟩ := h
  simp only [beq_iff_eq] at e
  subst e
  exact askI_none o most hs hs.length (Nat.le_refl _) _ hy
/-! rounds of Fill -/
noncomputable def stepF (ask : List (List UInt8)) (o : List Blk) (b : Blk) : List Blk := if hasS ask (nameS b) && putB' o b then o ++ [b] else o
noncomputable def fillI (ask : List (List UInt8)) (l o : List Blk) (i : Nat) : List Blk := (l.take i).foldl (stepF ask) o
theorem fillI_succ {ask : List (List UInt8)} {l o : List Blk} {i : Nat} (h : i < l.length) : fillI ask l o (i + 1) = stepF ask (fillI ask l o i) (l.getD i zeroBk) := foldl_take _ _ _ _ h
noncomputable def rem (l o : List Blk) : Nat := l.countP fun b => (atB o (nameS b)).isNone
theorem countP_lt {α : Type} {p q : α → Bool} (hpq : ∀ x, p x = true → q x = true) : ∀ {l : List α} {b : α}, b ∈ l → q b = true → p b = false → l.countP p + 1 ≤ l.countP q
  | x :: l, b, hb, h1, h2 => by
    rw [List.countP_cons, List.countP_cons]
    have hle : l.countP p ≤ l.countP q := List.countP_mono_left fun x _ => hpq x
    rcases List.mem_cons.1 hb with rfl | hb
    · rw [h1, h2]
      simp
      omega
    · have := countP_lt hpq hb h1 h2
      have hx := hpq x
      cases hp : p x <;> cases hq : q x <;> simp [hp, hq] at hx ⊢ <;> omega
theorem atB_app (o : List Blk) (b : Blk) (nm : List UInt8) : (atB (o ++ [b]) nm).isNone = ((atB o nm).isNone && !(nameS b == nm)) := by
  unfold atB
  rw [List.find?_append]
  cases h : List.find? (fun b => nameS b == nm) o with
  | some c => simp
  | none =>
    simp only [Option.none_or, Option.isNone_none, Bool.true_and, List.find?_cons, List.find?_nil]
    cases nameS b == nm <;> rfl
theorem rem_step (ask : List (List UInt8)) {l o : List Blk} {b : Blk} (hb : b ∈ l) : (stepF ask o b).length + rem l (stepF ask o b) ≤ o.length + rem l o := by
  unfold stepF
  split
  · rename_i hc
    simp only [Bool.and_eq_true] at hc
    have hp := hc.2
    unfold putB' at hp
    simp only [Bool.and_eq_true] at hp
    have : rem l (o ++ [b]) + 1 ≤ rem l o := by
      unfold rem
      refine countP_lt (fun x hx => ?_) hb hp.2 ?_
      · rw [atB_app] at hx
        simp only [Bool.and_eq_true] at hx
        exact hx.1
      · rw [atB_app]
        simp
    simp
    omega
  · exact Nat.le_refl _
theorem fillI_rem (ask : List (List UInt8)) (l o : List Blk) : ∀ i, i ≤ l.length → (fillI ask l o i).length + rem l (fillI ask l o i) ≤ o.length + rem l o
  | 0, _ => by simp [fillI]
  | i + 1, h => by
    rw [fillI_succ (by omega)]
    have ih := fillI_rem ask l o i (by omega)
    have := rem_step ask (l := l) (o := fillI ask l o i) (b := l.getD i zeroBk) (by rw [List.getD, List.getElem?_eq_getElem (show i < l.length by omega)]; exact List.getElem_mem _)
    omega
theorem stepF_ge (ask : List (List UInt8)) (o : List Blk) (b : Blk) : o.length ≤ (stepF ask o b).length := by
  unfold stepF
  split <;> simp
theorem fillI_ge (ask : List (List UInt8)) (l o : List Blk) : ∀ i, i ≤ l.length → o.length ≤ (fillI ask l o i).length
  | 0, _ => by simp [fillI]
  | i + 1, h => by
    rw [fillI_succ (by omega)]
    have ih := fillI_ge ask l o i (by omega)
    have := stepF_ge ask (fillI ask l o i) (l.getD i zeroBk)
    omega
theorem foldF_ge (ask : List (List UInt8)) : ∀ (l o : List Blk), o.length ≤ (l.foldl (stepF ask) o).length
  | [], o => Nat.le_refl _
  | x :: l, o => Nat.le_trans (stepF_ge ask o x) (foldF_ge ask l _)
theorem foldF_fix (ask : List (List UInt8)) : ∀ (l o : List Blk), (l.foldl (stepF ask) o).length = o.length → l.foldl (stepF ask) o = o ∧ ∀ b ∈ l, (hasS ask (nameS b) && putB' o b) = false
  | [], o, _ => ⟨rfl, by simp⟩
  | x :: l, o, h => by
    rw [List.foldl_cons] at h ⊢
    have h1 := foldF_ge ask l (stepF ask o x)
    cases hc : hasS ask (nameS x) && putB' o x with
    | true =>
      have : (stepF ask o x).length = o.length + 1 := by unfold stepF; rw [hc]; simp
      omega
    | false =>
      have he : stepF ask o x = o := by unfold stepF; rw [hc]; rfl
      rw [he] at h ⊢
      obtain ⟨h2, h3⟩ := foldF_fix ask l o h
      refine ⟨h2, fun b hb => ?_⟩
      rcases List.mem_cons.1 hb with rfl | hb
      · exact hc
      · exact h3 b hb
theorem fillI_fix {ask : List (List UInt8)} {l o : List Blk} (h : (fillI ask l o l.length).length = o.length) : fillI ask l o l.length = o ∧ ∀ b ∈ l, (hasS ask (nameS b) && putB' o b) = false := by
  unfold fillI at h ⊢
  rw [List.take_length] at h ⊢
  exact foldF_fix ask l o h
theorem rem_le (l o : List Blk) : rem l o ≤ l.length := List.countP_le_length
noncomputable def fillN (hs : List Ct) (l : List Blk) : Nat → List Blk → List Blk
  | 0, o => o
  | f + 1, o => if (fillI (askL o 64 hs) l o l.length).length = o.length then o else fillN hs l f (fillI (askL o 64 hs) l o l.length)
noncomputable def fillS (hs : List Ct) (l o : List Blk) : List Blk := fillN hs l (rem l o + 1) o
def okF (l o : List Blk) : Prop := ∀ b ∈ o, okB b ∧ (b.txs.length ≤ 1048576 ∧ b.ju.vs.length ≤ 1048576)
theorem stepF_ok {ask : List (List UInt8)} {o : List Blk} {b : Blk} (h : okF [] o) (hb : b.txs.length ≤ 1048576 ∧ b.ju.vs.length ≤ 1048576) : okF [] (stepF ask o b) := by
  unfold stepF
  split
  · rename_i hc
    simp only [Bool.and_eq_true] at hc
    have hp := hc.2
    unfold putB' at hp
    simp only [Bool.and_eq_true, decide_eq_true_eq] at hp
    intro x hx
    rcases List.mem_append.1 hx with hx | hx
    · exact h x hx
    · simp only [List.mem_singleton] at hx
      subst hx
      exact ⟨hp.1, hb⟩
  · exact h
theorem fillI_ok {ask : List (List UInt8)} {l o : List Blk} (h : okF [] o) (hl : okBl l) : ∀ i, i ≤ l.length → okF [] (fillI ask l o i)
  | 0, _ => by simpa [fillI] using h
  | i + 1, hi => by
    rw [fillI_succ (by omega)]
    exact stepF_ok (fillI_ok h hl i (by omega)) (okBl_getD hl (by omega))
/-- What Fill leaves. -/
theorem fillN_fix {hs : List Ct} {l : List Blk} : ∀ (f : Nat) (o : List Blk), rem l o < f → ∀ b ∈ l, (hasS (askL (fillN hs l f o) 64 hs) (nameS b) && putB' (fillN hs l f o) b) = false
  | 0, o, h => absurd h (by omega)
  | f + 1, o, h => by
    unfold fillN
    split
    · rename_i he
      exact (fillI_fix he).2
    · rename_i he
      have h1 := fillI_rem (askL o 64 hs) l o l.length (Nat.le_refl _)
      have h2 := fillI_ge (askL o 64 hs) l o l.length (Nat.le_refl _)
      exact fillN_fix f _ (by omega)
theorem fillN_len {hs : List Ct} {l : List Blk} : ∀ (f : Nat) (o : List Blk), o.length ≤ (fillN hs l f o).length ∧ (fillN hs l f o).length + rem l (fillN hs l f o) ≤ o.length + rem l o
  | 0, o => ⟨Nat.le_refl _, Nat.le_refl _⟩
  | f + 1, o => by
    unfold fillN
    split
    · exact ⟨Nat.le_refl _, Nat.le_refl _⟩
    · have h1 := fillI_rem (askL o 64 hs) l o l.length (Nat.le_refl _)
      have h2 := fillI_ge (askL o 64 hs) l o l.length (Nat.le_refl _)
      have ih := fillN_len (hs := hs) (l := l) f (fillI (askL o 64 hs) l o l.length)
      omega
theorem fillN_ok {hs : List Ct} {l : List Blk} (hl : okBl l) : ∀ (f : Nat) (o : List Blk), okF [] o → okF [] (fillN hs l f o)
  | 0, o, h => h
  | f + 1, o, h => by
    unfold fillN
    split
    · exact h
    · exact fillN_ok hl f _ (fillI_ok h hl _ (Nat.le_refl _))
theorem fillN_not {hs : List Ct} {l : List Blk} {f : Nat} {o : List Blk} (h : rem l o < f) {b : Blk} (hb : b ∈ l) (hk : okB b) : hasS (askL (fillN hs l f o) 64 hs) (nameS b) = false := by
  cases hc : hasS (askL (fillN hs l f o) 64 hs) (nameS b) with
  | false => rfl
  | true =>
    have h1 := fillN_fix (hs := hs) f o h b hb
    rw [hc, Bool.true_and] at h1
    unfold putB' at h1
    rw [decide_eq_true hk, Bool.true_and, askL_none hc] at h1
    cases h1

end Go.Proofs.Ytenmlgalcjkdbaa.AM
set_option linter.unusedVariables false
set_option linter.unusedSimpArgs false
namespace Go.Proofs.Ytenmlgalcjkdbaa.AM
open Go

variable {Γ : FuncId → Contract}

noncomputable def paskC : Contract := mkC (α := List (List UInt8) × List (List UInt8) × Int × List UInt8 × Int) (fun p => p.1.length ≤ 1099511627776) (fun p => [.ptr 6400000 0, .c (.str p.2.2.2.1), .c (.int .i64 p.2.2.2.2)]) (fun p => [[.own 1 (texts (p.1)), .own 1 (texts (p.2.1)), .c (.int .i64 (p.2.2.1))]]) (fun p => ⟨[], [[.own 1 (texts (askS p.2.2.2.2 p.1 p.2.2.2.1)), .own 1 (texts (p.2.1)), .c (.int .i64 (p.2.2.1))]]⟩)
theorem pask_at (a : List (List UInt8)) (r : List (List UInt8)) (h : Int) (s : List UInt8) (m : Int) (g0 : a.length ≤ 1099511627776) : paskC [.ptr 6400000 0, .c (.str s), .c (.int .i64 m)] [[.own 1 (texts (a)), .own 1 (texts (r)), .c (.int .i64 (h))]] = some ⟨[], [[.own 1 (texts (askS m a s)), .own 1 (texts (r)), .c (.int .i64 (h))]]⟩ := by
  exact mkC_at (α := List (List UInt8) × List (List UInt8) × Int × List UInt8 × Int) (a, r, h, s, m) g0 (by
    rintro ⟨a', r', h', s', m'⟩ _ h ho
    have hh := And.intro h ho
    clear h ho
    simp only [List.cons.injEq, AV.c.injEq, AV.agg.injEq, PC.int.injEq, PC.str.injEq, PC.bool.injEq, PC.sl.injEq, OV.c.injEq, OV.own.injEq, OV.mp.injEq, bytes_iff, texts_iff, true_and, and_true, and_self, beq_self_eq_true] at hh
    simp only [hh])

set_option maxRecDepth 100000 in
set_option maxHeartbeats 4000000 in
theorem pask_sound (hΓ : SoundG Try.prog Γ) (h1 : Γ 64 = sctC) : SoundC Try.prog 62 paskC := by
  refine sound_fn Try.func62 (by kernel_rfl) rfl rfl ?_
  intro args objs r0 hr
  obtain ⟨⟨a, r, h, s, m⟩, hl, rfl, rfl, rfl⟩ := mkC_inv hr
  refine ⟨rfl, by show 3 ≤ _; decide, fun E hN hns hF => ?_⟩
  refine vc_sound hΓ mixed _ _ _ ?_
  have hN := hN.trans nt_62
  have hl : a.length ≤ 1099511627776 := hl
  have q1 := sct_at a s (by omega)
  have hlen := texts_length a
  have nt1 : (!true) = false := rfl
  have ntf : (!false) = true := rfl
  unfold askS
  dsimp only
  cases k1 : s == [] with
  | true =>
    rw [if_neg (by simp)]
    simp only [runA, runB, runC, runD, runE, runF, fieldE, storeE, binE, ↓reduceIte, Nat.reduceLT, Nat.reduceLeDiff, Nat.reduceEqDiff, Nat.reduceAdd, Nat.reduceMul, Nat.reduceSub, reduceCtorEq, putAt, unE, Nat.reduceBEq, convE, buildE, List.replicate, Int.reduceLT, Int.reduceLE, Int.reduceToNat, mkE, mapSetE, hN, hF, ty_3, ty_4, ty_9, ty_65, ty_68, notIf, isEq, h1, q1, hlen, nt1, ntf, k1]
    simp only [runB, finC, finD, Option.isSome_some, Option.isSome_none, ↓reduceIte, Nat.reduceEqDiff, Nat.reduceAdd, Nat.reduceMul, forall_eq_or_imp, forall_eq, implies_true, Nat.reduceBEq, reduceCtorEq, false_implies, List.zip_cons_cons, List.zip_nil_left, List.zip_nil_right, Nat.reduceLeDiff, List.forall_mem_nil, rs_62, ty_3, ty_4, ty_9, ty_65, ty_68, texts_length]
  | false =>
  cases k2 : decide ((a.length : Int) < m) with
  | false =>
    rw [if_neg (by simp)]
    simp only [runA, runB, runC, runD, runE, runF, fieldE, storeE, binE, ↓reduceIte, Nat.reduceLT, Nat.reduceLeDiff, Nat.reduceEqDiff, Nat.reduceAdd, Nat.reduceMul, Nat.reduceSub, reduceCtorEq, putAt, unE, Nat.reduceBEq, convE, buildE, List.replicate, Int.reduceLT, Int.reduceLE, Int.reduceToNat, mkE, mapSetE, hN, hF, ty_3, ty_4, ty_9, ty_65, ty_68, notIf, isEq, h1, q1, hlen, nt1, ntf, k1, k2]
    simp only [runB, finC, finD, Option.isSome_some, Option.isSome_none, ↓reduceIte, Nat.reduceEqDiff, Nat.reduceAdd, Nat.reduceMul, forall_eq_or_imp, forall_eq, implies_true, Nat.reduceBEq, reduceCtorEq, false_implies, List.zip_cons_cons, List.zip_nil_left, List.zip_nil_right, Nat.reduceLeDiff, List.forall_mem_nil, rs_62, ty_3, ty_4, ty_9, ty_65, ty_68, texts_length]
  | true =>
  cases k3 : hasS a s with
  | true =>
    rw [k3] at q1
    rw [if_neg (by simp)]
    simp only [runA, runB, runC, runD, runE, runF, fieldE, storeE, binE, ↓reduceIte, Nat.reduceLT, Nat.reduceLeDiff, Nat.reduceEqDiff, Nat.reduceAdd, Nat.reduceMul, Nat.reduceSub, reduceCtorEq, putAt, unE, Nat.reduceBEq, convE, buildE, List.replicate, Int.reduceLT, Int.reduceLE, Int.reduceToNat, mkE, mapSetE, hN, hF, ty_3, ty_4, ty_9, ty_65, ty_68, notIf, isEq, h1, q1, hlen, nt1, ntf, k1, k2]
    simp only [runB, finC, finD, Option.isSome_some, Option.isSome_none, ↓reduceIte, Nat.reduceEqDiff, Nat.reduceAdd, Nat.reduceMul, forall_eq_or_imp, forall_eq, implies_true, Nat.reduceBEq, reduceCtorEq, false_implies, List.zip_cons_cons, List.zip_nil_left, List.zip_nil_right, Nat.reduceLeDiff, List.forall_mem_nil, rs_62, ty_3, ty_4, ty_9, ty_65, ty_68, texts_length]
  | false =>
    rw [k3] at q1
    rw [if_pos (by simp)]
    have hsn := texts_snocG a s
    have hrow : rowsOK 1 [[.str s]] := rowsOK_texts [s]
    have hby : (a.length + 1) * 16 ≤ 140737488355328 := by omega
    simp only [runA, runB, runC, runD, runE, runF, fieldE, storeE, binE, ↓reduceIte, Nat.reduceLT, Nat.reduceLeDiff, Nat.reduceEqDiff, Nat.reduceAdd, Nat.reduceMul, Nat.reduceSub, reduceCtorEq, putAt, unE, Nat.reduceBEq, convE, buildE, List.replicate, Int.reduceLT, Int.reduceLE, Int.reduceToNat, mkE, mapSetE, hN, hF, ty_3, ty_4, ty_9, ty_65, ty_68, notIf, isEq, h1, q1, hlen, nt1, ntf, k1, k2, hsn, hrow, hby]
    simp only [runB, finC, finD, Option.isSome_some, Option.isSome_none, ↓reduceIte, Nat.reduceEqDiff, Nat.reduceAdd, Nat.reduceMul, forall_eq_or_imp, forall_eq, implies_true, Nat.reduceBEq, reduceCtorEq, false_implies, List.zip_cons_cons, List.zip_nil_left, List.zip_nil_right, Nat.reduceLeDiff, List.forall_mem_nil, rs_62, ty_3, ty_4, ty_9, ty_65, ty_68, texts_length, List.length_append, List.length_cons, List.length_nil, Nat.zero_add]
def rdP (r : List (List UInt8)) (s : List UInt8) : List (List UInt8) := if !hasS r s then r ++ [s] else r
noncomputable def prdyC : Contract := mkC (α := List (List UInt8) × List (List UInt8) × Int × List UInt8 × Int) (fun p => p.2.1.length ≤ 1099511627776) (fun p => [.ptr 6400000 0, .c (.str p.2.2.2.1), .c (.int .i64 p.2.2.2.2)]) (fun p => [[.own 1 (texts (p.1)), .own 1 (texts (p.2.1)), .c (.int .i64 (p.2.2.1))]]) (fun p => ⟨[], [[.own 1 (texts (p.1)), .own 1 (texts (rdP p.2.1 p.2.2.2.1)), .c (.int .i64 (max p.2.2.1 p.2.2.2.2))]]⟩)
theorem prdy_at (a : List (List UInt8)) (r : List (List UInt8)) (h : Int) (s : List UInt8) (m : Int) (g0 : r.length ≤ 1099511627776) : prdyC [.ptr 6400000 0, .c (.str s), .c (.int .i64 m)] [[.own 1 (texts (a)), .own 1 (texts (r)), .c (.int .i64 (h))]] = some ⟨[], [[.own 1 (texts (a)), .own 1 (texts (rdP r s)), .c (.int .i64 (max h m))]]⟩ := by
  exact mkC_at (α := List (List UInt8) × List (List UInt8) × Int × List UInt8 × Int) (a, r, h, s, m) g0 (by
    rintro ⟨a', r', h', s', m'⟩ _ h ho
    have hh := And.intro h ho
    clear h ho
    simp only [List.cons.injEq, AV.c.injEq, AV.agg.injEq, PC.int.injEq, PC.str.injEq, PC.bool.injEq, PC.sl.injEq, OV.c.injEq, OV.own.injEq, OV.mp.injEq, bytes_iff, texts_iff, true_and, and_true, and_self, beq_self_eq_true] at hh
    simp only [hh])

set_option maxRecDepth 100000 in
set_option maxHeartbeats 4000000 in
theorem prdy_sound (hΓ : SoundG Try.prog Γ) (h1 : Γ 64 = sctC) : SoundC Try.prog 63 prdyC := by
  refine sound_fn Try.func63 (by kernel_rfl) rfl rfl ?_
  intro args objs r0 hr
  obtain ⟨⟨a, r, h, s, m⟩, hl, rfl, rfl, rfl⟩ := mkC_inv hr
  refine ⟨rfl, by show 3 ≤ _; decide, fun E hN hns hF => ?_⟩
  refine vc_sound hΓ mixed _ _ _ ?_
  have hN := hN.trans nt_63
  have hl : r.length ≤ 1099511627776 := hl
  have q1 := sct_at r s (by omega)
  have hlen := texts_length r
  have nt1 : (!true) = false := rfl
  have ntf : (!false) = true := rfl
  have hmx : (if m > h then m else h) = max h m := by rw [Int.max_def]; split <;> split <;> omega
  dsimp only
  unfold rdP
  have hsn := texts_snocG r s
  have hrow : rowsOK 1 [[.str s]] := rowsOK_texts [s]
  have hby : (r.length + 1) * 16 ≤ 140737488355328 := by omega
  cases k3 : hasS r s with
  | true =>
    rw [k3] at q1
    rw [if_neg (by simp)]
    simp only [runA, runB, runC, runD, runE, runF, fieldE, storeE, binE, ↓reduceIte, Nat.reduceLT, Nat.reduceLeDiff, Nat.reduceEqDiff, Nat.reduceAdd, Nat.reduceMul, Nat.reduceSub, reduceCtorEq, putAt, unE, Nat.reduceBEq, convE, buildE, List.replicate, Int.reduceLT, Int.reduceLE, Int.reduceToNat, mkE, mapSetE, hN, hF, ty_3, ty_4, ty_9, ty_65, ty_68, notIf, isEq, h1, q1, hlen, nt1, ntf, hby]
    simp only [runB, finC, finD, Option.isSome_some, Option.isSome_none, ↓reduceIte, Nat.reduceEqDiff, Nat.reduceAdd, Nat.reduceMul, forall_eq_or_imp, forall_eq, implies_true, Nat.reduceBEq, reduceCtorEq, false_implies, List.zip_cons_cons, List.zip_nil_left, List.zip_nil_right, Nat.reduceLeDiff, List.forall_mem_nil, rs_63, ty_3, ty_4, ty_9, ty_65, ty_68, texts_length, hmx]
  | false =>
    rw [k3] at q1
    rw [if_pos (by simp)]
    simp only [runA, runB, runC, runD, runE, runF, fieldE, storeE, binE, ↓reduceIte, Nat.reduceLT, Nat.reduceLeDiff, Nat.reduceEqDiff, Nat.reduceAdd, Nat.reduceMul, Nat.reduceSub, reduceCtorEq, putAt, unE, Nat.reduceBEq, convE, buildE, List.replicate, Int.reduceLT, Int.reduceLE, Int.reduceToNat, mkE, mapSetE, hN, hF, ty_3, ty_4, ty_9, ty_65, ty_68, notIf, isEq, h1, q1, hlen, nt1, ntf, hsn, hrow, hby]
    simp only [runB, finC, finD, Option.isSome_some, Option.isSome_none, ↓reduceIte, Nat.reduceEqDiff, Nat.reduceAdd, Nat.reduceMul, forall_eq_or_imp, forall_eq, implies_true, Nat.reduceBEq, reduceCtorEq, false_implies, List.zip_cons_cons, List.zip_nil_left, List.zip_nil_right, Nat.reduceLeDiff, List.forall_mem_nil, rs_63, ty_3, ty_4, ty_9, ty_65, ty_68, texts_length, hmx, List.length_append, List.length_cons, List.length_nil, Nat.zero_add]

end Go.Proofs.Ytenmlgalcjkdbaa.AM
set_option linter.unusedVariables false
set_option linter.unusedSimpArgs false
namespace Go.Proofs.Ytenmlgalcjkdbaa.AM
open Go

variable {Γ : FuncId → Contract}

noncomputable def pmkC : Contract := mkC (α := List Blk × List Ct × Int) (fun p => treeOK p.1 ∧ p.2.1.length ≤ 1048576) (fun p => [.ptr 6400000 0, .c (.sl (crows p.2.1)), .c (.int .i64 p.2.2)]) (fun p => [[.mp true (esOf p.1)]]) (fun p => ⟨[.pv (.agg [.c (.sl (texts (askL p.1 p.2.2 p.2.1))), .c (.sl (texts (rdyL p.1 p.2.1))), .c (.int .i64 (hgtL p.1 p.2.1))])], [[.mp true (esOf p.1)]]⟩)
theorem pmk_at (o : List Blk) (hs : List Ct) (m : Int) (g0 : treeOK o) (g1 : hs.length ≤ 1048576) : pmkC [.ptr 6400000 0, .c (.sl (crows hs)), .c (.int .i64 m)] [[.mp true (esOf o)]] = some ⟨[.pv (.agg [.c (.sl (texts (askL o m hs))), .c (.sl (texts (rdyL o hs))), .c (.int .i64 (hgtL o hs))])], [[.mp true (esOf o)]]⟩ := by
  exact mkC_at (α := List Blk × List Ct × Int) (o, hs, m) ⟨g0, g1⟩ (by
    rintro ⟨o', hs', m'⟩ _ h ho
    have hh := And.intro h ho
    clear h ho
    simp only [List.cons.injEq, AV.c.injEq, AV.agg.injEq, PC.int.injEq, PC.str.injEq, PC.bool.injEq, PC.sl.injEq, OV.c.injEq, OV.own.injEq, OV.mp.injEq, bytes_iff, texts_iff, true_and, and_true, and_self, beq_self_eq_true, esOf_iff, crows_iff] at hh
    simp only [hh])

set_option maxRecDepth 100000 in
set_option maxHeartbeats 4000000 in
theorem pmk_sound (hΓ : SoundG Try.prog Γ) (h1 : Γ 32 = misC) (h2 : Γ 62 = paskC) (h3 : Γ 21 = chnC) (h4 : Γ 63 = prdyC) : SoundC Try.prog 37 pmkC := by
  refine sound_fn Try.func37 (by kernel_rfl) rfl rfl ?_
  intro args objs r0 hr
  obtain ⟨⟨o, hs, m⟩, ⟨ho, hl⟩, rfl, rfl, rfl⟩ := mkC_inv hr
  refine ⟨rfl, by show 3 ≤ _; decide, fun E hN hns hF => ?_⟩
  refine vc_sound hΓ mixed _ _ _ ?_
  have hN := hN.trans nt_37
  have ho : treeOK o := ho
  have hl : hs.length ≤ 1048576 := hl
  have hbc := crows_length hs
  dsimp only
  simp only [runA, runB, runC, runD, runE, runF, fieldE, storeE, binE, ↓reduceIte, Nat.reduceLT, Nat.reduceLeDiff, Nat.reduceEqDiff, Nat.reduceAdd, Nat.reduceMul, Nat.reduceSub, reduceCtorEq, putAt, unE, Nat.reduceBEq, convE, buildE, List.replicate, Int.reduceLT, Int.reduceLE, Int.reduceToNat, mkE, mapSetE, hN, hF, ty_3, ty_9, ty_22, ty_24, ty_27, ty_32, ty_33, ty_62, ty_65, ty_68, ty_98, notIf, isEq, hbc]
  refine AWP.loop (fun k st => ∃ i : Nat, i ≤ hs.length ∧ k = hs.length - i ∧ st = ⟨[(0, .ptr 6400000 0), (1, .c (.sl (crows hs))), (2, .c (.int .i64 m)), (6, .ptr 384 0), (7, .ptr 832 0), (14, .c (.sl (crows hs))), (15, .c (.int .i64 (hs.length : Int))), (16, .c (.int .i64 (i : Int)))], [(384, .obj [.nilsl, .nilsl, .c (.int .i64 0)] false), (832, .obj [.own 833 1 (texts (askI o m hs i)), .own 834 1 (texts (rdyI o hs i)), .c (.int .i64 (hgtI o hs i))] false), (833, .row 1 (askI o m hs i).length), (834, .row 1 (rdyI o hs i).length), (6400000, .obj [.mp 6400001] false), (6400001, .mp true (esOf o))]⟩) ⟨hs.length, _, ?w, 0, Nat.zero_le _, rfl, rfl⟩ ?r
  case w =>
    have z1 : texts (askI o m hs 0) = [] := rfl
    have z2 : texts (rdyI o hs 0) = [] := rfl
    have z3 : hgtI o hs 0 = 0 := rfl
    have z4 : (askI o m hs 0).length = 0 := rfl
    have z5 : (rdyI o hs 0).length = 0 := rfl
    rw [hns]
    simp only [runB, finC, finD, AS.get, AS.mem, false_implies, implies_true, ↓reduceIte, Nat.reduceEqDiff, Option.isSome_some, Option.isSome_none, forall_eq_or_imp, forall_eq, reduceCtorEq, Nat.reduceAdd, Nat.reduceMul, List.zip_cons_cons, List.zip_nil_left, List.zip_nil_right, List.forall_mem_nil, z1, z2, z3, z4, z5]
    first | done | simp
  case r =>
    rintro k st ⟨i, hi, rfl, rfl⟩
    refine vc_sound hΓ mixed _ _ _ ?_
    have hA := askI_len o m hs i hi
    have hB := rdyI_len o hs i hi
    have hC := hgtI_bd o hs i hi
    by_cases hlt : i < hs.length
    · have k1 : decide ((i : Int) < (hs.length : Int)) = true := decide_eq_true (by omega)
      have e1 : IntKind.i64.wrap ((i : Int) + 1) = (i : Int) + 1 := wrapI (by omega)
      have hg := crowsD hs i hlt
      have sA := askI_succ (o := o) (most := m) hlt
      have sB := rdyI_succ (o := o) hlt
      have sC := hgtI_succ (o := o) hlt
      generalize hs.getD i zeroC = y at hg sA sB sC
      have q1 := mis_at o y.bl ho
      have q2 := pask_at (askI o m hs i) (rdyI o hs i) (hgtI o hs i) (missS o y.bl) m (by omega)
      have q3 := chn_at o y.bl ho
      have q4 := prdy_at (askI o m hs (i + 1)) (rdyI o hs i) (hgtI o hs i) y.bl ((walkS o y.bl).1.length : Int) (by omega)
      have hwl := brows_length (walkS o y.bl).1.reverse
      rw [List.length_reverse] at hwl
      rw [← sA] at q2
      unfold rdyS at sB
      unfold hgtS at sC
      have hl1 := texts_length (askI o m hs (i + 1))
      have hl2 := texts_length (rdyI o hs (i + 1))
      have hl3 := texts_length (rdyI o hs i)
      have hl4 := texts_length (askI o m hs i)
      cases hw : (walkS o y.bl).2 with
      | true =>
        rw [hw] at q3 sB sC
        rw [Bool.true_and] at sB
        rw [if_pos rfl] at sC
        have hr : rdP (rdyI o hs i) y.bl = rdyI o hs (i + 1) := sB.symm
        rw [hr, ← sC] at q4
        generalize brows (walkS o y.bl).1.reverse = wl at q3 hwl
        generalize ((walkS o y.bl).1.length) = wn at q4 hwl
        simp only [runA, runB, runC, runD, runE, runF, fieldE, storeE, binE, ↓reduceIte, Nat.reduceLT, Nat.reduceLeDiff, Nat.reduceEqDiff, Nat.reduceAdd, Nat.reduceMul, Nat.reduceSub, reduceCtorEq, putAt, unE, Nat.reduceBEq, convE, buildE, List.replicate, Int.reduceLT, Int.reduceLE, Int.reduceToNat, mkE, mapSetE, hN, hF, ty_3, ty_9, ty_22, ty_24, ty_27, ty_32, ty_33, ty_62, ty_65, ty_68, ty_98, notIf, isEq, hbc, k1, e1, hg, h1, q1, h2, q2, h3, q3, hwl, h4, q4, hl1, hl2, hl3, hl4]
        refine ⟨hs.length - (i + 1), _, by omega, ?_, i + 1, by omega, rfl, rfl⟩
        rw [hns]
        simp only [runB, finC, finD, AS.get, AS.mem, false_implies, implies_true, ↓reduceIte, Nat.reduceEqDiff, Option.isSome_some, Option.isSome_none, forall_eq_or_imp, forall_eq, reduceCtorEq, Nat.reduceAdd, Nat.reduceMul, List.zip_cons_cons, List.zip_nil_left, List.zip_nil_right, List.forall_mem_nil]
        first | done | simp
      | false =>
        rw [hw] at q3 sB sC
        rw [Bool.false_and, if_neg (by simp)] at sB
        rw [if_neg (by simp)] at sC
        generalize brows (walkS o y.bl).1.reverse = wl at q3 hwl
        simp only [runA, runB, runC, runD, runE, runF, fieldE, storeE, binE, ↓reduceIte, Nat.reduceLT, Nat.reduceLeDiff, Nat.reduceEqDiff, Nat.reduceAdd, Nat.reduceMul, Nat.reduceSub, reduceCtorEq, putAt, unE, Nat.reduceBEq, convE, buildE, List.replicate, Int.reduceLT, Int.reduceLE, Int.reduceToNat, mkE, mapSetE, hN, hF, ty_3, ty_9, ty_22, ty_24, ty_27, ty_32, ty_33, ty_62, ty_65, ty_68, ty_98, notIf, isEq, hbc, k1, e1, hg, h1, q1, h2, q2, h3, q3, hl1, hl2, hl3, hl4]
        refine ⟨hs.length - (i + 1), _, by omega, ?_, i + 1, by omega, rfl, rfl⟩
        rw [hns]
        simp only [runB, finC, finD, AS.get, AS.mem, false_implies, implies_true, ↓reduceIte, Nat.reduceEqDiff, Option.isSome_some, Option.isSome_none, forall_eq_or_imp, forall_eq, reduceCtorEq, Nat.reduceAdd, Nat.reduceMul, List.zip_cons_cons, List.zip_nil_left, List.zip_nil_right, List.forall_mem_nil, sB, sC]
        first | done | simp
    · obtain rfl : i = hs.length := by omega
      have k1 : decide (((hs.length : Nat) : Int) < (hs.length : Int)) = false := decide_eq_false (by omega)
      simp only [runA, runB, runC, runD, runE, runF, fieldE, storeE, binE, ↓reduceIte, Nat.reduceLT, Nat.reduceLeDiff, Nat.reduceEqDiff, Nat.reduceAdd, Nat.reduceMul, Nat.reduceSub, reduceCtorEq, putAt, unE, Nat.reduceBEq, convE, buildE, List.replicate, Int.reduceLT, Int.reduceLE, Int.reduceToNat, mkE, mapSetE, hN, hF, ty_3, ty_9, ty_22, ty_24, ty_27, ty_32, ty_33, ty_62, ty_65, ty_68, ty_98, notIf, isEq, hbc, k1]
      have eA : askL o m hs = askI o m hs hs.length := rfl
      have eB : rdyL o hs = rdyI o hs hs.length := rfl
      have eC : hgtL o hs = hgtI o hs hs.length := rfl
      simp only [runB, finC, finD, Option.isSome_some, Option.isSome_none, ↓reduceIte, Nat.reduceEqDiff, Nat.reduceAdd, Nat.reduceMul, forall_eq_or_imp, forall_eq, implies_true, Nat.reduceBEq, reduceCtorEq, false_implies, List.zip_cons_cons, List.zip_nil_left, List.zip_nil_right, Nat.reduceLeDiff, List.forall_mem_nil, rs_37, ty_3, ty_9, ty_22, ty_24, ty_27, ty_32, ty_33, ty_62, ty_65, ty_68, ty_98, eA, eB, eC]

end Go.Proofs.Ytenmlgalcjkdbaa.AM
set_option linter.unusedVariables false
set_option linter.unusedSimpArgs false
namespace Go.Proofs.Ytenmlgalcjkdbaa.AM
open Go

variable {Γ : FuncId → Contract}


noncomputable def lckI (o : List Blk) (hs : List Ct) (i : Nat) : Bool := (hs.take i).foldl (fun b c => b || !(missS o c.bl == [])) false
theorem lckI_succ {o : List Blk} {hs : List Ct} {i : Nat} (h : i < hs.length) : lckI o hs (i + 1) = (lckI o hs i || !(missS o (hs.getD i zeroC).bl == [])) := foldl_take _ _ _ _ h
theorem ask1_lck (o : List Blk) (hs : List Ct) : ∀ i, i ≤ hs.length → (((askI o 1 hs i).length : Int) == 0) = !lckI o hs i
  | 0, _ => rfl
  | i + 1, h => by
    have ih := ask1_lck o hs i (by omega)
    rw [askI_succ (by omega), lckI_succ (by omega)]
    generalize missS o (hs.getD i zeroC).bl = s
    generalize askI o 1 hs i = a at ih ⊢
    generalize lckI o hs i = k at ih ⊢
    unfold askS
    cases k with
    | true =>
      have hn : ((a.length : Int) == 0) = false := ih
      have hlt : decide ((a.length : Int) < 1) = false := by
        simp at hn ⊢
        have : a.length ≠ 0 := fun e => hn (List.length_eq_zero_iff.1 e)
        omega
      rw [hlt, Bool.false_and, Bool.and_false, if_neg (by simp)]
      exact ih
    | false =>
      have hn : ((a.length : Int) == 0) = true := ih
      have ha : a = [] := by
        simp at hn
        exact hn
      subst ha
      cases hs0 : s == [] with
      | true => simp
      | false => simp [hasS]
noncomputable def ownT (l : List Blk) : List Blk := ownI l (min 10 l.length)
noncomputable def pdnC : Contract := mkC (α := List Blk × List Ct) (fun p => treeOK p.1 ∧ p.2.length ≤ 1048576) (fun p => [.ptr 6400000 0, .c (.sl (crows p.2))]) (fun p => [[.mp true (esOf p.1)]]) (fun p => ⟨[.pv (.c (.bool (!lckI p.1 p.2 p.2.length)))], [[.mp true (esOf p.1)]]⟩)
theorem pdn_at (o : List Blk) (hs : List Ct) (g0 : treeOK o) (g1 : hs.length ≤ 1048576) : pdnC [.ptr 6400000 0, .c (.sl (crows hs))] [[.mp true (esOf o)]] = some ⟨[.pv (.c (.bool (!lckI o hs hs.length)))], [[.mp true (esOf o)]]⟩ := by
  exact mkC_at (α := List Blk × List Ct) (o, hs) ⟨g0, g1⟩ (by
    rintro ⟨o', hs'⟩ _ h ho
    have hh := And.intro h ho
    clear h ho
    simp only [List.cons.injEq, AV.c.injEq, AV.agg.injEq, PC.int.injEq, PC.str.injEq, PC.bool.injEq, PC.sl.injEq, OV.c.injEq, OV.own.injEq, OV.mp.injEq, bytes_iff, texts_iff, true_and, and_true, and_self, beq_self_eq_true, esOf_iff, crows_iff] at hh
    simp only [hh])

set_option maxRecDepth 100000 in
set_option maxHeartbeats 4000000 in
theorem pdn_sound (hΓ : SoundG Try.prog Γ) (h1 : Γ 37 = pmkC) : SoundC Try.prog 39 pdnC := by
  refine sound_fn Try.func39 (by kernel_rfl) rfl rfl ?_
  intro args objs r0 hr
  obtain ⟨⟨o, hs⟩, ⟨ho, hl⟩, rfl, rfl, rfl⟩ := mkC_inv hr
  refine ⟨rfl, by show 2 ≤ _; decide, fun E hN hns hF => ?_⟩
  refine vc_sound hΓ mixed _ _ _ ?_
  have hN := hN.trans nt_39
  have ho : treeOK o := ho
  have hl : hs.length ≤ 1048576 := hl
  have q1 := pmk_at o hs 1 ho hl
  have hk := ask1_lck o hs hs.length (Nat.le_refl _)
  have hlen := texts_length (askL o 1 hs)
  have eA : askL o 1 hs = askI o 1 hs hs.length := rfl
  rw [← eA] at hk
  dsimp only
  generalize askL o 1 hs = a at q1 hk hlen
  simp only [runA, runB, runC, runD, runE, runF, fieldE, storeE, binE, ↓reduceIte, Nat.reduceLT, Nat.reduceLeDiff, Nat.reduceEqDiff, Nat.reduceAdd, Nat.reduceMul, Nat.reduceSub, reduceCtorEq, putAt, unE, Nat.reduceBEq, convE, buildE, List.replicate, Int.reduceLT, Int.reduceLE, Int.reduceToNat, mkE, mapSetE, hN, hF, ty_3, ty_4, ty_9, ty_24, ty_33, ty_62, ty_65, ty_68, notIf, isEq, h1, q1, hlen, hk]
  simp only [runB, finC, finD, Option.isSome_some, Option.isSome_none, ↓reduceIte, Nat.reduceEqDiff, Nat.reduceAdd, Nat.reduceMul, forall_eq_or_imp, forall_eq, implies_true, Nat.reduceBEq, reduceCtorEq, false_implies, List.zip_cons_cons, List.zip_nil_left, List.zip_nil_right, Nat.reduceLeDiff, List.forall_mem_nil, rs_39, ty_3, ty_4, ty_9, ty_24, ty_33, ty_62, ty_65, ty_68]
noncomputable def laid43C : Contract := mkC (α := List Blk) (fun p => okBl p) (fun p => [.c (.sl (brows p))]) (fun p => []) (fun p => ⟨[.newobj [.mp true (esOf (ownT p))], .pv (.c (.sl (brows (ownT p))))], []⟩)
theorem laid43_at (l : List Blk) (g0 : okBl l) : laid43C [.c (.sl (brows l))] [] = some ⟨[.newobj [.mp true (esOf (ownT l))], .pv (.c (.sl (brows (ownT l))))], []⟩ := by
  exact mkC_at (α := List Blk) l g0 (by
    rintro l' _ h ho
    have hh := And.intro h ho
    clear h ho
    simp only [List.cons.injEq, AV.c.injEq, AV.agg.injEq, PC.int.injEq, PC.str.injEq, PC.bool.injEq, PC.sl.injEq, OV.c.injEq, OV.own.injEq, OV.mp.injEq, bytes_iff, texts_iff, true_and, and_true, and_self, beq_self_eq_true, brows_iff] at hh
    simp only [hh])

set_option maxRecDepth 100000 in
set_option maxHeartbeats 4000000 in
theorem laid43_sound (hΓ : SoundG Try.prog Γ) (h1 : Γ 19 = newTC) (h5 : Γ 20 = putTC) : SoundC Try.prog 35 laid43C := by
  refine sound_fn Try.func35 (by kernel_rfl) rfl rfl ?_
  intro args objs r0 hr
  obtain ⟨l, hl, rfl, rfl, rfl⟩ := mkC_inv hr
  refine ⟨rfl, by show 1 ≤ _; decide, fun E hN hns hF => ?_⟩
  refine vc_sound hΓ mixed _ _ _ ?_
  have hN := hN.trans nt_35
  have hl : okBl l := hl
  have hl1 := hl.1
  simp only [runA, runB, runC, runD, runE, runF, fieldE, storeE, binE, ↓reduceIte, Nat.reduceLT, Nat.reduceLeDiff, Nat.reduceEqDiff, Nat.reduceAdd, Nat.reduceMul, Nat.reduceSub, reduceCtorEq, putAt, unE, Nat.reduceBEq, convE, buildE, List.replicate, Int.reduceLT, Int.reduceLE, Int.reduceToNat, mkE, mapSetE, hN, hF, ty_3, ty_9, ty_24, ty_25, ty_27, ty_32, ty_33, notIf, isEq, h1, newT_at]
  refine AWP.loop (fun k st => ∃ (i : Nat) (o : List Blk), i ≤ min 10 l.length ∧ k = min 10 l.length - i ∧ o = ownI l i ∧ ((o = [] ∧ st = ⟨[(0, .c (.sl (brows l))), (4, .ptr 450 0), (5, .nilsl), (6, .c (.int .i64 (i : Int)))], [(450, .obj [.mp 458] false), (458, .mp true [])]⟩) ∨ st = ⟨[(0, .c (.sl (brows l))), (4, .ptr 450 0), (5, .own 1921 9 (brows o)), (6, .c (.int .i64 (i : Int)))], [(450, .obj [.mp 458] false), (458, .mp true (esOf o)), (1921, .row 9 o.length)]⟩)) ⟨min 10 l.length, _, ?w, 0, [], Nat.zero_le _, rfl, rfl, .inl ⟨rfl, rfl⟩⟩ ?r
  case w =>
    rw [hns]
    simp only [runB, finC, finD, AS.get, AS.mem, false_implies, implies_true, ↓reduceIte, Nat.reduceEqDiff, Option.isSome_some, Option.isSome_none, forall_eq_or_imp, forall_eq, reduceCtorEq, Nat.reduceAdd, Nat.reduceMul, List.zip_cons_cons, List.zip_nil_left, List.zip_nil_right, List.forall_mem_nil, esOf_nil]
    first | done | simp
  case r =>
    rintro k st ⟨i, o, hi, rfl, ho, h⟩
    refine vc_sound hΓ mixed _ _ _ ?_
    have e1 : IntKind.i64.wrap ((i : Int) + 1) = (i : Int) + 1 := wrapI (by omega)
    have hol := (ownI_ok hl i (by omega)).1
    rw [← ho] at hol
    have hbo := brows_length o
    by_cases hlt : i < min 10 l.length
    · have k1 : decide ((i : Int) < (l.length : Int)) = true := decide_eq_true (by omega)
      have k2 : decide ((i : Int) < 10) = true := decide_eq_true (by omega)
      have hlt' : i < l.length := by omega
      have hg := browsD l i hlt'
      have hsm := okBl_getD hl hlt'
      have hsucc := ownI_succ hlt'
      rw [← ho] at hsucc
      unfold Blk.pcs at hg
      generalize l.getD i zeroBk = y at hg hsm hsucc
      have q5 := putT_p o y ⟨by omega, by omega⟩
      cases hP : putB' o y with
      | false =>
        have hO : putO o y = o := by unfold putO; rw [hP]; rfl
        rw [hP, hO] at q5
        rw [hO] at hsucc
        rcases h with ⟨rfl, rfl⟩ | rfl
        · rw [esOf_nil] at q5
          simp only [runA, runB, runC, runD, runE, runF, fieldE, storeE, binE, ↓reduceIte, Nat.reduceLT, Nat.reduceLeDiff, Nat.reduceEqDiff, Nat.reduceAdd, Nat.reduceMul, Nat.reduceSub, reduceCtorEq, putAt, unE, Nat.reduceBEq, convE, buildE, List.replicate, Int.reduceLT, Int.reduceLE, Int.reduceToNat, mkE, mapSetE, hN, hF, ty_3, ty_9, ty_24, ty_25, ty_27, ty_32, ty_33, notIf, isEq, k1, k2, e1, hg, h5, q5, brows_length, esOf_nil]
          refine ⟨min 10 l.length - (i + 1), _, by omega, ?_, i + 1, [], by omega, rfl, hsucc.symm, .inl ⟨rfl, rfl⟩⟩
          rw [hns]
          simp only [runB, finC, finD, AS.get, AS.mem, false_implies, implies_true, ↓reduceIte, Nat.reduceEqDiff, Option.isSome_some, Option.isSome_none, forall_eq_or_imp, forall_eq, reduceCtorEq, Nat.reduceAdd, Nat.reduceMul, List.zip_cons_cons, List.zip_nil_left, List.zip_nil_right, List.forall_mem_nil, esOf_nil]
          first | done | simp
        · simp only [runA, runB, runC, runD, runE, runF, fieldE, storeE, binE, ↓reduceIte, Nat.reduceLT, Nat.reduceLeDiff, Nat.reduceEqDiff, Nat.reduceAdd, Nat.reduceMul, Nat.reduceSub, reduceCtorEq, putAt, unE, Nat.reduceBEq, convE, buildE, List.replicate, Int.reduceLT, Int.reduceLE, Int.reduceToNat, mkE, mapSetE, hN, hF, ty_3, ty_9, ty_24, ty_25, ty_27, ty_32, ty_33, notIf, isEq, k1, k2, e1, hg, h5, q5, brows_length]
          refine ⟨min 10 l.length - (i + 1), _, by omega, ?_, i + 1, o, by omega, rfl, hsucc.symm, .inr rfl⟩
          rw [hns]
          simp only [runB, finC, finD, AS.get, AS.mem, false_implies, implies_true, ↓reduceIte, Nat.reduceEqDiff, Option.isSome_some, Option.isSome_none, forall_eq_or_imp, forall_eq, reduceCtorEq, Nat.reduceAdd, Nat.reduceMul, List.zip_cons_cons, List.zip_nil_left, List.zip_nil_right, List.forall_mem_nil]
          first | done | simp
      | true =>
        have hO : putO o y = o ++ [y] := by unfold putO; rw [hP]; rfl
        rw [hP, hO] at q5
        rw [hO] at hsucc
        have hsn := brows_snoc o y
        have hone := brows_one y
        have hrow := rowsOK_brows [y]
        have h1l : (brows [y]).length = 1 := rfl
        rcases h with ⟨rfl, rfl⟩ | rfl
        · rw [esOf_nil] at q5
          rw [List.nil_append] at q5 hsucc
          simp only [runA, runB, runC, runD, runE, runF, fieldE, storeE, binE, ↓reduceIte, Nat.reduceLT, Nat.reduceLeDiff, Nat.reduceEqDiff, Nat.reduceAdd, Nat.reduceMul, Nat.reduceSub, reduceCtorEq, putAt, unE, Nat.reduceBEq, convE, buildE, List.replicate, Int.reduceLT, Int.reduceLE, Int.reduceToNat, mkE, mapSetE, hN, hF, ty_3, ty_9, ty_24, ty_25, ty_27, ty_32, ty_33, notIf, isEq, k1, k2, e1, hg, h5, q5, brows_length, hone, hrow, h1l, esOf_nil]
          refine ⟨min 10 l.length - (i + 1), _, by omega, ?_, i + 1, [y], by omega, rfl, hsucc.symm, .inr rfl⟩
          rw [hns]
          simp only [runB, finC, finD, AS.get, AS.mem, false_implies, implies_true, ↓reduceIte, Nat.reduceEqDiff, Option.isSome_some, Option.isSome_none, forall_eq_or_imp, forall_eq, reduceCtorEq, Nat.reduceAdd, Nat.reduceMul, List.zip_cons_cons, List.zip_nil_left, List.zip_nil_right, List.forall_mem_nil, List.length_cons, List.length_nil, Nat.zero_add]
          first | done | simp
        · have hrow2 : rowsOK 9 [[.int .i64 y.vw, .int .i64 y.ht, .str y.pa, .int .i64 y.ju.vw, .int .i64 y.ju.ht, .str y.ju.bl, .sl (votes y.ju.vs), .sl (trows y.txs), .str y.sig]] := rowsOK_brows [y]
          have hby : (o.length + 1) * 128 ≤ 140737488355328 := by omega
          simp only [runA, runB, runC, runD, runE, runF, fieldE, storeE, binE, ↓reduceIte, Nat.reduceLT, Nat.reduceLeDiff, Nat.reduceEqDiff, Nat.reduceAdd, Nat.reduceMul, Nat.reduceSub, reduceCtorEq, putAt, unE, Nat.reduceBEq, convE, buildE, List.replicate, Int.reduceLT, Int.reduceLE, Int.reduceToNat, mkE, mapSetE, hN, hF, ty_3, ty_9, ty_24, ty_25, ty_27, ty_32, ty_33, notIf, isEq, k1, k2, e1, hg, h5, q5, brows_length, hrow2, hby, hsn]
          refine ⟨min 10 l.length - (i + 1), _, by omega, ?_, i + 1, o ++ [y], by omega, rfl, hsucc.symm, .inr rfl⟩
          rw [hns]
          simp only [runB, finC, finD, AS.get, AS.mem, false_implies, implies_true, ↓reduceIte, Nat.reduceEqDiff, Option.isSome_some, Option.isSome_none, forall_eq_or_imp, forall_eq, reduceCtorEq, Nat.reduceAdd, Nat.reduceMul, List.zip_cons_cons, List.zip_nil_left, List.zip_nil_right, List.forall_mem_nil, List.length_append, List.length_cons, List.length_nil, Nat.zero_add]
          first | done | simp
    · have hii : i = min 10 l.length := by omega
      have hS : ownT l = o := by rw [ho, hii]; rfl
      rw [hS]
      by_cases hll : i < l.length
      · have k1 : decide ((i : Int) < (l.length : Int)) = true := decide_eq_true (by omega)
        have k2 : decide ((i : Int) < 10) = false := decide_eq_false (by omega)
        rcases h with ⟨rfl, rfl⟩ | rfl
        · rw [esOf_nil]
          rw [brows_nil]
          simp only [runA, runB, runC, runD, runE, runF, fieldE, storeE, binE, ↓reduceIte, Nat.reduceLT, Nat.reduceLeDiff, Nat.reduceEqDiff, Nat.reduceAdd, Nat.reduceMul, Nat.reduceSub, reduceCtorEq, putAt, unE, Nat.reduceBEq, convE, buildE, List.replicate, Int.reduceLT, Int.reduceLE, Int.reduceToNat, mkE, mapSetE, hN, hF, ty_3, ty_9, ty_24, ty_25, ty_27, ty_32, ty_33, notIf, isEq, k1, k2, brows_length, esOf_nil]
          simp only [runB, finC, finD, Option.isSome_some, Option.isSome_none, ↓reduceIte, Nat.reduceEqDiff, Nat.reduceAdd, Nat.reduceMul, forall_eq_or_imp, forall_eq, implies_true, Nat.reduceBEq, reduceCtorEq, false_implies, List.zip_cons_cons, List.zip_nil_left, List.zip_nil_right, Nat.reduceLeDiff, List.forall_mem_nil, rs_35, ty_3, ty_9, ty_24, ty_25, ty_27, ty_32, ty_33, esOf_nil]
        · simp only [runA, runB, runC, runD, runE, runF, fieldE, storeE, binE, ↓reduceIte, Nat.reduceLT, Nat.reduceLeDiff, Nat.reduceEqDiff, Nat.reduceAdd, Nat.reduceMul, Nat.reduceSub, reduceCtorEq, putAt, unE, Nat.reduceBEq, convE, buildE, List.replicate, Int.reduceLT, Int.reduceLE, Int.reduceToNat, mkE, mapSetE, hN, hF, ty_3, ty_9, ty_24, ty_25, ty_27, ty_32, ty_33, notIf, isEq, k1, k2, brows_length]
          simp only [runB, finC, finD, Option.isSome_some, Option.isSome_none, ↓reduceIte, Nat.reduceEqDiff, Nat.reduceAdd, Nat.reduceMul, forall_eq_or_imp, forall_eq, implies_true, Nat.reduceBEq, reduceCtorEq, false_implies, List.zip_cons_cons, List.zip_nil_left, List.zip_nil_right, Nat.reduceLeDiff, List.forall_mem_nil, rs_35, ty_3, ty_9, ty_24, ty_25, ty_27, ty_32, ty_33]
      · have k1 : decide ((i : Int) < (l.length : Int)) = false := decide_eq_false (by omega)
        rcases h with ⟨rfl, rfl⟩ | rfl
        · rw [esOf_nil]
          rw [brows_nil]
          simp only [runA, runB, runC, runD, runE, runF, fieldE, storeE, binE, ↓reduceIte, Nat.reduceLT, Nat.reduceLeDiff, Nat.reduceEqDiff, Nat.reduceAdd, Nat.reduceMul, Nat.reduceSub, reduceCtorEq, putAt, unE, Nat.reduceBEq, convE, buildE, List.replicate, Int.reduceLT, Int.reduceLE, Int.reduceToNat, mkE, mapSetE, hN, hF, ty_3, ty_9, ty_24, ty_25, ty_27, ty_32, ty_33, notIf, isEq, k1, brows_length, esOf_nil]
          simp only [runB, finC, finD, Option.isSome_some, Option.isSome_none, ↓reduceIte, Nat.reduceEqDiff, Nat.reduceAdd, Nat.reduceMul, forall_eq_or_imp, forall_eq, implies_true, Nat.reduceBEq, reduceCtorEq, false_implies, List.zip_cons_cons, List.zip_nil_left, List.zip_nil_right, Nat.reduceLeDiff, List.forall_mem_nil, rs_35, ty_3, ty_9, ty_24, ty_25, ty_27, ty_32, ty_33, esOf_nil]
        · simp only [runA, runB, runC, runD, runE, runF, fieldE, storeE, binE, ↓reduceIte, Nat.reduceLT, Nat.reduceLeDiff, Nat.reduceEqDiff, Nat.reduceAdd, Nat.reduceMul, Nat.reduceSub, reduceCtorEq, putAt, unE, Nat.reduceBEq, convE, buildE, List.replicate, Int.reduceLT, Int.reduceLE, Int.reduceToNat, mkE, mapSetE, hN, hF, ty_3, ty_9, ty_24, ty_25, ty_27, ty_32, ty_33, notIf, isEq, k1, brows_length]
          simp only [runB, finC, finD, Option.isSome_some, Option.isSome_none, ↓reduceIte, Nat.reduceEqDiff, Nat.reduceAdd, Nat.reduceMul, forall_eq_or_imp, forall_eq, implies_true, Nat.reduceBEq, reduceCtorEq, false_implies, List.zip_cons_cons, List.zip_nil_left, List.zip_nil_right, Nat.reduceLeDiff, List.forall_mem_nil, rs_35, ty_3, ty_9, ty_24, ty_25, ty_27, ty_32, ty_33]

theorem ask_x : askL [] 3 [⟨0, 0, [120], []⟩] = [[120]] := by
  have h1 : missS [] [120] = [120] := by
    have e : missS [] [120] = missL [] 1 [120] := rfl
    rw [e]
    unfold missL
    rfl
  show askS 3 [] (missS [] [120]) = [[120]]
  rw [h1]
  rfl
theorem rdy_x : rdyL [] [⟨0, 0, [120], []⟩] = [] := by
  show rdyS [] [] [120] = []
  have h : (walkS [] [120]).2 = false := by
    unfold walkS
    rw [walkL_none (by rfl), walkE_nil]
    rfl
  unfold rdyS
  rw [h]
  rfl
theorem hgt_x : hgtL [] [⟨0, 0, [120], []⟩] = 0 := by
  show hgtS [] 0 [120] = 0
  have h : (walkS [] [120]).2 = false := by
    unfold walkS
    rw [walkL_none (by rfl), walkE_nil]
    rfl
  unfold hgtS
  rw [h]
  rfl
def alive43C : Contract := fun args objs => match args, objs with | [], [] => some ⟨[.pv (.c (.bool true))], []⟩ | _, _ => none
set_option maxHeartbeats 4000000 in
theorem alive43_sound (hΓ : SoundG Try.prog Γ) (h1 : Γ 19 = newTC) (h2 : Γ 37 = pmkC) (h3 : Γ 39 = pdnC) : SoundC Try.prog 34 alive43C := by
  refine sound_fn Try.func34 (by kernel_rfl) rfl rfl ?_
  intro args objs r hr
  unfold alive43C at hr
  split at hr
  · cases hr
    refine ⟨rfl, by show 0 ≤ _; decide, fun E hN hns hF => ?_⟩
    refine vc_sound hΓ mixed _ _ _ ?_
    have hN := hN.trans nt_34
    have q2 : pmkC [.ptr 6400000 0, .c (.sl [[.int .i64 0, .int .i64 0, .str [120], .sl []]]), .c (.int .i64 3)] [[.mp true []]] = some ⟨[.pv (.agg [.c (.sl [[.str [120]]]), .c (.sl []), .c (.int .i64 0)])], [[.mp true []]]⟩ := by
      have h := pmk_at [] [⟨0, 0, [120], []⟩] 3 treeOK_nil (by simp)
      rw [ask_x, rdy_x, hgt_x] at h
      exact h
    have q3 : pdnC [.ptr 6400000 0, .c (.sl [])] [[.mp true []]] = some ⟨[.pv (.c (.bool true))], [[.mp true []]]⟩ := pdn_at [] [] treeOK_nil (by simp)
    have b1 : (((1 : Nat) : Int) == 1) = true := rfl
    have b2 : (([120] : List UInt8) == [120]) = true := rfl
    have hrow : rowsOK 4 [[.int .i64 0, .int .i64 0, .str [120], .sl []]] := rowsOK_crows [⟨0, 0, [120], []⟩]
    simp only [runA, runB, runC, runD, runE, runF, fieldE, storeE, binE, ↓reduceIte, Nat.reduceLT, Nat.reduceLeDiff, Nat.reduceEqDiff, Nat.reduceAdd, Nat.reduceMul, Nat.reduceSub, reduceCtorEq, putAt, unE, Nat.reduceBEq, convE, buildE, List.replicate, Int.reduceLT, Int.reduceLE, Int.reduceToNat, mkE, mapSetE, hN, hF, ty_3, ty_4, ty_9, ty_22, ty_24, ty_33, ty_62, ty_65, ty_68, notIf, isEq, h1, newT_at, h2, q2, h3, q3, b1, b2, hrow]
    simp only [runB, finC, finD, Option.isSome_some, Option.isSome_none, ↓reduceIte, Nat.reduceEqDiff, Nat.reduceAdd, Nat.reduceMul, forall_eq_or_imp, forall_eq, implies_true, Nat.reduceBEq, reduceCtorEq, false_implies, List.zip_cons_cons, List.zip_nil_left, List.zip_nil_right, Nat.reduceLeDiff, List.forall_mem_nil, rs_34, ty_3, ty_4, ty_9, ty_22, ty_24, ty_33, ty_62, ty_65, ty_68]
  · cases hr

end Go.Proofs.Ytenmlgalcjkdbaa.AM
