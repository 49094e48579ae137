/-
  QD: So1 Sn8 Sn9 So2.
-/
import Derived.Test.YtldehcnaepgamaaQC
import Derived.Test.YtldehcnaepgamaaQB
set_option linter.unusedVariables false
set_option linter.unusedSimpArgs false
namespace Go.Proofs.Ytldehcnaepgamaa.AM
open Go

variable {Γ : FuncId → Contract}


noncomputable def pathRC : Contract := mkC (α := Pa) paOK (fun p => [.c (.sl (texts p.l)), .c (.int .i64 p.a)]) (fun _ => []) (fun p => ⟨[.fresh 1 (texts (pathS p.l p.a).1), .pv (.c (.int .i64 (pathS p.l p.a).2))], []⟩)
theorem pathR_at (l : List (List UInt8)) (a : Int) (h : Okl l) : pathRC [.c (.sl (texts l)), .c (.int .i64 a)] [] = some ⟨[.fresh 1 (texts (pathS l a).1), .pv (.c (.int .i64 (pathS l a).2))], []⟩ :=
  mkC_at (α := Pa) ⟨l, a⟩ h (by
    rintro ⟨l', a'⟩ _ h' _
    simp only [List.cons.injEq, AV.c.injEq, PC.int.injEq, PC.sl.injEq, true_and, and_true] at h'
    obtain ⟨h', rfl⟩ := h'
    obtain rfl := texts_inj h'
    rfl)
set_option maxRecDepth 100000 in
set_option maxHeartbeats 2000000 in
theorem pathR_sound (hΓ : SoundG Try.prog Γ) (h2 : Γ 131 = upC) (hS : SoundC Try.prog 131 upC) : SoundC Try.prog 56 pathRC := by
  refine sound_fnM ⟨[], []⟩ Try.func56 (by kernel_rfl) rfl rfl ?_ ?_
  · rw [rs_56]; intro r hr; simp at hr; rcases hr with rfl | rfl <;> exact ⟨_, rfl⟩
  intro args objs r hr
  obtain ⟨⟨l, a⟩, hl, rfl, rfl, rfl⟩ := mkC_inv hr
  have hl : Okl l := hl
  have hl1 : l.length ≤ 1099511627 := hl.1
  refine ⟨rfl, by show 2 ≤ _; decide, fun E hro hN hns hF => ?_⟩
  have hN := hN.trans nt_56
  dsimp only
  refine AWPm.seq (AWPm.of fun E' hE hns' => vc_sound hΓ mixed _ _ _ ?_)
  have hN' : E'.N.n = _ := (congrArg Lim.n hE).trans hN
  have hF' : E'.N.adv = _ := (congrArg Lim.adv hE).trans hF
  simp only [runA, runB, runC, runD, runE, runF, fieldE, storeE, binE, ↓reduceIte, Nat.reduceLT, Nat.reduceLeDiff, Nat.reduceEqDiff, Nat.reduceAdd, Nat.reduceMul, Nat.reduceSub, reduceCtorEq, putAt, unE, Nat.reduceBEq, convE, buildE, List.replicate, Int.reduceLT, Int.reduceLE, Int.reduceToNat, mkE, mapSetE, hN', hF', ty_3, ty_9, ty_22, ty_27, notIf, isEq, thenM_normal]
  refine AWPm.seq (AWPm.of fun E' hE hns' => vc_sound hΓ mixed _ _ _ ?_)
  have hN' : E'.N.n = _ := (congrArg Lim.n hE).trans hN
  have hF' : E'.N.adv = _ := (congrArg Lim.adv hE).trans hF
  simp only [runA, runB, runC, runD, runE, runF, fieldE, storeE, binE, ↓reduceIte, Nat.reduceLT, Nat.reduceLeDiff, Nat.reduceEqDiff, Nat.reduceAdd, Nat.reduceMul, Nat.reduceSub, reduceCtorEq, putAt, unE, Nat.reduceBEq, convE, buildE, List.replicate, Int.reduceLT, Int.reduceLE, Int.reduceToNat, mkE, mapSetE, hN', hF', ty_3, ty_9, ty_22, ty_27, notIf, isEq, thenM_normal, texts_length]
  refine AWPm.seq (AWPm.of fun E' hE hns' => vc_sound hΓ mixed _ _ _ ?_)
  have hN' : E'.N.n = _ := (congrArg Lim.n hE).trans hN
  have hF' : E'.N.adv = _ := (congrArg Lim.adv hE).trans hF
  by_cases hneg : a < 0
  · have hS : pathS l a = ([], 4) := by unfold pathS; rw [if_pos (.inl hneg)]
    have g1 : decide (a < 0) = true := by simpa using hneg
    simp only [runA, runB, runC, runD, runE, runF, fieldE, storeE, binE, ↓reduceIte, Nat.reduceLT, Nat.reduceLeDiff, Nat.reduceEqDiff, Nat.reduceAdd, Nat.reduceMul, Nat.reduceSub, reduceCtorEq, putAt, unE, Nat.reduceBEq, convE, buildE, List.replicate, Int.reduceLT, Int.reduceLE, Int.reduceToNat, mkE, mapSetE, hN', hF', ty_3, ty_9, ty_22, ty_27, notIf, isEq, g1, thenM_ret]
    simp only [runB, finC, finD, Option.isSome_some, Option.isSome_none, ↓reduceIte, Nat.reduceEqDiff, Nat.reduceAdd, Nat.reduceMul, forall_eq_or_imp, forall_eq, implies_true, Nat.reduceBEq, reduceCtorEq, false_implies, List.zip_cons_cons, List.zip_nil_left, List.zip_nil_right, Nat.reduceLeDiff, List.forall_mem_nil, rs_56, hS, texts, List.map_nil]
  have g1 : decide (a < 0) = false := by simpa using hneg
  by_cases hge : (l.length : Int) ≤ a
  · have hS : pathS l a = ([], 4) := by unfold pathS; rw [if_pos (.inr hge)]
    have g2 : decide (a ≥ (l.length : Int)) = true := by simpa using hge
    simp only [runA, runB, runC, runD, runE, runF, fieldE, storeE, binE, ↓reduceIte, Nat.reduceLT, Nat.reduceLeDiff, Nat.reduceEqDiff, Nat.reduceAdd, Nat.reduceMul, Nat.reduceSub, reduceCtorEq, putAt, unE, Nat.reduceBEq, convE, buildE, List.replicate, Int.reduceLT, Int.reduceLE, Int.reduceToNat, mkE, mapSetE, hN', hF', ty_3, ty_9, ty_22, ty_27, notIf, isEq, g1, g2, thenM_ret]
    simp only [runB, finC, finD, Option.isSome_some, Option.isSome_none, ↓reduceIte, Nat.reduceEqDiff, Nat.reduceAdd, Nat.reduceMul, forall_eq_or_imp, forall_eq, implies_true, Nat.reduceBEq, reduceCtorEq, false_implies, List.zip_cons_cons, List.zip_nil_left, List.zip_nil_right, Nat.reduceLeDiff, List.forall_mem_nil, rs_56, hS, texts, List.map_nil]
  have g2 : decide (a ≥ (l.length : Int)) = false := by simpa using hge
  obtain ⟨A, rfl⟩ : ∃ A : Nat, a = (A : Int) := ⟨a.toNat, by omega⟩
  have hAl : A < l.length := by omega
  have e1 : IntKind.i64.wrap ((l.length : Int) - 1) = ((l.length - 1 : Nat) : Int) := by rw [wrapI (by omega)]; omega
  have g3 := and_pred l.length (by omega) (by omega)
  cases hpow : powN l.length
  · have hS : pathS l (A : Int) = ([], 3) := by unfold pathS; rw [if_neg (by omega), if_neg (by rw [hpow]; decide)]
    rw [hpow] at g3
    simp only [runA, runB, runC, runD, runE, runF, fieldE, storeE, binE, ↓reduceIte, Nat.reduceLT, Nat.reduceLeDiff, Nat.reduceEqDiff, Nat.reduceAdd, Nat.reduceMul, Nat.reduceSub, reduceCtorEq, putAt, unE, Nat.reduceBEq, convE, buildE, List.replicate, Int.reduceLT, Int.reduceLE, Int.reduceToNat, mkE, mapSetE, hN', hF', ty_3, ty_9, ty_22, ty_27, notIf, isEq, g1, g2, e1, g3, thenM_ret]
    simp only [runB, finC, finD, Option.isSome_some, Option.isSome_none, ↓reduceIte, Nat.reduceEqDiff, Nat.reduceAdd, Nat.reduceMul, forall_eq_or_imp, forall_eq, implies_true, Nat.reduceBEq, reduceCtorEq, false_implies, List.zip_cons_cons, List.zip_nil_left, List.zip_nil_right, Nat.reduceLeDiff, List.forall_mem_nil, rs_56, hS, texts, List.map_nil]
  have hPS : pathS l (A : Int) = (pathP l A, 0) := by unfold pathS; rw [if_neg (by omega), if_pos hpow]; rfl
  rw [hpow] at g3
  simp only [runA, runB, runC, runD, runE, runF, fieldE, storeE, binE, ↓reduceIte, Nat.reduceLT, Nat.reduceLeDiff, Nat.reduceEqDiff, Nat.reduceAdd, Nat.reduceMul, Nat.reduceSub, reduceCtorEq, putAt, unE, Nat.reduceBEq, convE, buildE, List.replicate, Int.reduceLT, Int.reduceLE, Int.reduceToNat, mkE, mapSetE, hN', hF', ty_3, ty_9, ty_22, ty_27, notIf, isEq, g1, g2, e1, g3, thenM_normal]
  refine AWPm.seq (AWPm.of fun E' hE hns' => vc_sound hΓ mixed _ _ _ ?_)
  have hN' : E'.N.n = _ := (congrArg Lim.n hE).trans hN
  have hF' : E'.N.adv = _ := (congrArg Lim.adv hE).trans hF
  simp only [runA, runB, runC, runD, runE, runF, fieldE, storeE, binE, ↓reduceIte, Nat.reduceLT, Nat.reduceLeDiff, Nat.reduceEqDiff, Nat.reduceAdd, Nat.reduceMul, Nat.reduceSub, reduceCtorEq, putAt, unE, Nat.reduceBEq, convE, buildE, List.replicate, Int.reduceLT, Int.reduceLE, Int.reduceToNat, mkE, mapSetE, hN', hF', ty_3, ty_9, ty_22, ty_27, notIf, isEq, thenM_normal]
  obtain ⟨k, hk1, hk2⟩ := depth l.length l (Nat.le_refl _)
  have hpath := path_upN hAl hpow hk1
  refine AWPm.weak (s2 := ⟨[(3, .ptr 192 0), (7, .ptr 448 0), (0, .c (.sl (texts l)))], memP l A k 0⟩) ?wk ?_
  case wk =>
    rw [hns]
    have e0 : min 0 k = 0 := by omega
    have e2 : A / 2 ^ 0 = A := by simp
    simp only [memP, e0, e2, outN, texts, List.map_nil]
    simp only [runB, finC, finD, AS.get, AS.mem, false_implies, implies_true, ↓reduceIte, Nat.reduceEqDiff, Option.isSome_some, Option.isSome_none, forall_eq_or_imp, forall_eq, reduceCtorEq, Nat.reduceAdd, Nat.reduceMul, List.zip_cons_cons, List.zip_nil_left, List.zip_nil_right, List.forall_mem_nil]
    first | done | simp
  refine AWPm.seq (AWPm.rows hS hro (l := l) rfl rfl rfl rfl rfl rfl rfl rfl rfl (by rw [hN]; decide) (by rw [hN]; decide) (by rw [hN]; decide) rfl k 1664 (upN l) rfl (fun _ => rfl) (upN_ok hl) hk1 hk2 rfl
    (memP l A k) rfl
    (fun i => ⟨[(8, .c (.sl (texts (upN l i)))), (27, .c (.sl (texts (upN l i)))), (26, .undef), (25, .undef), (3, .ptr 192 0), (7, .ptr 448 0), (0, .c (.sl (texts l)))], (1664, .obj [.c (.sl (texts (upN l i)))] false) :: memP l A k i⟩) ?hA ?hB ?hQ)
  case hA =>
    intro i hi E' hE hns'
    have hN' : E'.N.n = _ := (congrArg Lim.n hE).trans hN
    have hF' : E'.N.adv = _ := (congrArg Lim.adv hE).trans hF
    refine vc_sound hΓ mixed _ _ _ ?_
    simp only [runA, runB, runC, runD, runE, runF, fieldE, storeE, binE, ↓reduceIte, Nat.reduceLT, Nat.reduceLeDiff, Nat.reduceEqDiff, Nat.reduceAdd, Nat.reduceMul, Nat.reduceSub, reduceCtorEq, putAt, unE, Nat.reduceBEq, convE, buildE, List.replicate, Int.reduceLT, Int.reduceLE, Int.reduceToNat, mkE, mapSetE, hN', hF', ty_3, ty_9, ty_22, ty_27, notIf, isEq]
  case hB =>
    intro i hi E' hE hns'
    have hN' : E'.N.n = _ := (congrArg Lim.n hE).trans hN
    have hF' : E'.N.adv = _ := (congrArg Lim.adv hE).trans hF
    refine vc_sound hΓ mixed _ _ _ ?_
    have hi2 : min i k = i := by omega
    obtain ⟨q1, q2, q3, q4⟩ := hpath i hi
    by_cases hik : i < k
    · have hi3 : min (i + 1) k = i + 1 := by omega
      have hg := hk1 i hik
      obtain ⟨B, hB⟩ : ∃ B, A / 2 ^ i = B := ⟨_, rfl⟩
      have hB2 : A / 2 ^ (i + 1) = B / 2 := by rw [← hB, Nat.pow_succ, ← Nat.div_div_eq_div_mul]
      have hout : outN l A (i + 1) = outN l A i ++ [(upN l i).getD (nb B) []] := by rw [outN, hB]
      have hol := outN_length l A i
      obtain ⟨p1, p2⟩ := powN_half q3 hg
      rw [hB] at q2
      have hnb : nb B < (upN l i).length := by unfold nb; split <;> omega
      obtain ⟨s, hs⟩ : ∃ s, (upN l i)[nb B]? = some s := ⟨(upN l i)[nb B], by simp [hnb]⟩
      rw [show (upN l i).getD (nb B) [] = s from by simp [List.getD, hs]] at hout
      have hsr : (texts (upN l i))[nb B]? = some [PC.str s] := by simp [texts, hs]
      simp only [memP, hi2, hi3, hB, hB2]
      generalize upN l i = m at hg q1 q2 q3 q4 p1 p2 hnb hs hsr ⊢
      have g4 : decide ((m.length : Int) > 1) = true := by simp; omega
      have e4 := xor_one B (by omega)
      rw [show (if B % 2 = 1 then B - 1 else B + 1 : Nat) = nb B from rfl] at e4
      have e5 := shr_one B
      have hb : (1 : Int) < 0 ↔ False := by decide
      have hz := rowsOK_texts
      have hL : (i + 1) * 16 ≤ 140737488355328 := by omega
      simp only [runA, runB, runC, runD, runE, runF, fieldE, storeE, binE, ↓reduceIte, Nat.reduceLT, Nat.reduceLeDiff, Nat.reduceEqDiff, Nat.reduceAdd, Nat.reduceMul, Nat.reduceSub, reduceCtorEq, putAt, unE, Nat.reduceBEq, convE, buildE, List.replicate, Int.reduceLT, Int.reduceLE, Int.reduceToNat, mkE, mapSetE, hN', hF', ty_3, ty_9, ty_22, ty_27, notIf, isEq, g4, e4, hsr, hz, hL, hol, texts1, texts_app, ← hout, texts_length, shOp, hb, e5]
      refine drawnP_intro (by kernel_rfl) (by kernel_rfl) ?_
      simp only [runA, runB, runC, runD, runE, runF, fieldE, storeE, binE, ↓reduceIte, Nat.reduceLT, Nat.reduceLeDiff, Nat.reduceEqDiff, Nat.reduceAdd, Nat.reduceMul, Nat.reduceSub, reduceCtorEq, putAt, unE, Nat.reduceBEq, convE, buildE, List.replicate, Int.reduceLT, Int.reduceLE, Int.reduceToNat, mkE, mapSetE, hN', hF', ty_3, ty_9, ty_22, ty_27, notIf, isEq, shOp, hb, e5]
      simp only [runB, finC, finD, AS.get, AS.mem, false_implies, implies_true, ↓reduceIte, Nat.reduceEqDiff, Option.isSome_some, Option.isSome_none, forall_eq_or_imp, forall_eq, reduceCtorEq, Nat.reduceAdd, Nat.reduceMul, List.zip_cons_cons, List.zip_nil_left, List.zip_nil_right, List.forall_mem_nil]
      first | done | simp
    · obtain rfl : i = k := by omega
      have hi3 : min (i + 1) i = i := by omega
      simp only [memP, hi2, hi3]
      have g4 : decide (((upN l i).length : Int) > 1) = false := by simp; omega
      simp only [runA, runB, runC, runD, runE, runF, fieldE, storeE, binE, ↓reduceIte, Nat.reduceLT, Nat.reduceLeDiff, Nat.reduceEqDiff, Nat.reduceAdd, Nat.reduceMul, Nat.reduceSub, reduceCtorEq, putAt, unE, Nat.reduceBEq, convE, buildE, List.replicate, Int.reduceLT, Int.reduceLE, Int.reduceToNat, mkE, mapSetE, hN', hF', ty_3, ty_9, ty_22, ty_27, notIf, isEq, g4, texts_length]
      simp only [runB, finC, finD, AS.get, AS.mem, false_implies, implies_true, ↓reduceIte, Nat.reduceEqDiff, Option.isSome_some, Option.isSome_none, forall_eq_or_imp, forall_eq, reduceCtorEq, Nat.reduceAdd, Nat.reduceMul, List.zip_cons_cons, List.zip_nil_left, List.zip_nil_right, List.forall_mem_nil]
      first | done | simp
  case hQ =>
    obtain ⟨q1, q2, q3, q4⟩ := hpath k (Nat.le_refl _)
    rw [pathP_le (l := upN l k) hk2, List.append_nil] at q1
    have hi3 : min (k + 1) k = k := by omega
    rw [thenM_normal]
    refine AWPm.of fun E' hE hns' => vc_sound hΓ mixed _ _ _ ?_
    have hN' : E'.N.n = _ := (congrArg Lim.n hE).trans hN
    have hF' : E'.N.adv = _ := (congrArg Lim.adv hE).trans hF
    simp only [memP, hi3, ← q1]
    simp only [runA, runB, runC, runD, runE, runF, fieldE, storeE, binE, ↓reduceIte, Nat.reduceLT, Nat.reduceLeDiff, Nat.reduceEqDiff, Nat.reduceAdd, Nat.reduceMul, Nat.reduceSub, reduceCtorEq, putAt, unE, Nat.reduceBEq, convE, buildE, List.replicate, Int.reduceLT, Int.reduceLE, Int.reduceToNat, mkE, mapSetE, hN', hF', ty_3, ty_9, ty_22, ty_27, notIf, isEq]
    have hkl : k = (pathP l A).length := by rw [q1]; exact (outN_length l A k).symm
    simp only [runB, finC, finD, Option.isSome_some, Option.isSome_none, ↓reduceIte, Nat.reduceEqDiff, Nat.reduceAdd, Nat.reduceMul, forall_eq_or_imp, forall_eq, implies_true, Nat.reduceBEq, reduceCtorEq, false_implies, List.zip_cons_cons, List.zip_nil_left, List.zip_nil_right, Nat.reduceLeDiff, List.forall_mem_nil, rs_56, hPS, texts_length]
    first | done | exact hkl


theorem texts_flat_inj {a b : List (List UInt8)} (h : (texts a).flatten = (texts b).flatten) : a = b := texts_inj (flat_rows_inj (z := 1) (by decide) (rowsOK_texts a) (rowsOK_texts b) h)
theorem lendS (l : List (List UInt8)) : lendR (texts l).flatten l.length = some (texts l) := by
  have := lendR_rows (z := 1) (by decide) (rowsOK_texts l)
  rwa [texts_length] at this
theorem scR_texts (l : List (List UInt8)) : scRows (texts l) = true := scRows_of fun r hr c hc => by
  obtain ⟨s, _, rfl⟩ := List.mem_map.1 hr
  rw [List.mem_singleton] at hc
  subst hc
  rfl
/-- A key whose leaves lie in an object. -/
def Ky.mv (k : Ky) (n : Nat) : AV := .agg [.c (.str k.seed), .msl n 0 k.leaves.length false, .c (.int .i64 k.next)]
theorem kmv_inj {a b : Ky} {n : Nat} (h : a.mv n = b.mv n) (ht : a.leaves = b.leaves) : a = b := by
  obtain ⟨s, l, x⟩ := a
  obtain ⟨s2, l2, x2⟩ := b
  simp only [Ky.mv, AV.agg.injEq, List.cons.injEq, AV.c.injEq, PC.int.injEq, PC.str.injEq, true_and, and_true] at h
  obtain ⟨rfl, _, rfl⟩ := h
  have ht : l = l2 := ht
  rw [ht]
noncomputable def signM : Contract := mkC (α := Sk) (fun p => skOK p ∧ 0 < p.k.leaves.length) (fun p => [p.k.mv (inObj 0), .c (.sl (bytes p.text))]) (fun p => [(texts p.k.leaves).flatten.map .c]) (fun p => ⟨[.pv (.c (.str (signS p.k p.text).1)), .pv (signS p.k p.text).2.1.av, .pv (.c (.int .i64 (signS p.k p.text).2.2))], [(texts p.k.leaves).flatten.map .c]⟩)
theorem signM_at (k : Ky) (text : List UInt8) (h1 : k.leaves.length ≤ 9223372036854775807) (h2 : text.length ≤ 1099511627776) (h3 : 0 < k.leaves.length) :
    signM [.agg [.c (.str k.seed), .msl 6400000 0 k.leaves.length false, .c (.int .i64 k.next)], .c (.sl (bytes text))] [(texts k.leaves).flatten.map .c] = some ⟨[.pv (.c (.str (signS k text).1)), .pv (signS k text).2.1.av, .pv (.c (.int .i64 (signS k text).2.2))], [(texts k.leaves).flatten.map .c]⟩ :=
  mkC_at (α := Sk) ⟨k, text⟩ ⟨⟨h1, h2⟩, h3⟩ (by
    rintro ⟨k', t'⟩ _ h ho
    simp only [List.cons.injEq, AV.c.injEq, PC.sl.injEq, and_true] at h ho
    have e2 := bytes_inj h.2
    rw [kmv_inj (show k'.mv _ = k.mv _ from h.1) (texts_flat_inj (ovc_inj ho)), e2])
theorem key_no (xs : List AV) (o : List OV) (os : List (List OV)) : keyC xs (o :: os) = none := mkC_noobj xs o os
theorem pathR_no (xs : List AV) (o : List OV) (os : List (List OV)) : pathRC xs (o :: os) = none := mkC_noobj xs o os
theorem cloneT_no (xs : List AV) (o : List OV) (os : List (List OV)) : cloneTC xs (o :: os) = none := mkC_noobj xs o os
set_option maxRecDepth 100000 in
set_option maxHeartbeats 4000000 in
theorem signM_sound (hΓ : SoundG Try.prog Γ) (h1 : Γ 19 = keyC) (h2 : Γ 56 = pathRC) (h3 : Γ 57 = putC) (h4 : Γ 58 = sgnC) (h5 : Γ 59 = cloneTC) : SoundC Try.prog 13 signM := by
  refine sound_fn Try.func13 (by kernel_rfl) rfl rfl ?_
  intro args objs r hr
  obtain ⟨⟨⟨seed, leaves, next⟩, text⟩, ⟨⟨hl1, hl2⟩, h0⟩, rfl, rfl, rfl⟩ := mkC_inv hr
  have hl1 : leaves.length ≤ 9223372036854775807 := hl1
  have hl2 : text.length ≤ 1099511627776 := hl2
  refine ⟨rfl, by show 2 ≤ _; decide, fun E hN hns hF => ?_⟩
  refine vc_sound hΓ mixed _ _ _ ?_
  have hN := hN.trans nt_13
  have q1 := key_at ⟨seed, leaves, next⟩ hl1
  have h0 : 0 < leaves.length := h0
  have hT := toPCs_c (texts leaves).flatten
  have hLd := lendS leaves
  unfold Ky.av Ky.mv
  dsimp only at q1 ⊢
  generalize (texts leaves).flatten = fl at *
  by_cases hg : goodK ⟨seed, leaves, next⟩
  case neg =>
    have hK : keyS ⟨seed, leaves, next⟩ = 9 := if_neg hg
    have hS : signS ⟨seed, leaves, next⟩ text = ([], zeroK, 9) := if_neg hg
    rw [hK] at q1
    rw [hS]
    have b0 : ((9 : Int) != 0) = true := rfl
    simp only [runA, runB, runC, runD, runE, runF, fieldE, storeE, binE, ↓reduceIte, Nat.reduceLT, Nat.reduceLeDiff, Nat.reduceEqDiff, Nat.reduceAdd, Nat.reduceMul, Nat.reduceSub, reduceCtorEq, putAt, unE, Nat.reduceBEq, convE, buildE, List.replicate, Int.reduceLT, Int.reduceLE, Int.reduceToNat, mkE, mapSetE, hN, hF, ty_3, ty_5, ty_9, ty_22, ty_24, ty_25, ty_27, notIf, isEq, hT, hLd, key_no, pathR_no, cloneT_no, callA, argsA, cellsA, c_At, c_E, c_back, callB, lendE, lendC, lendM, scRes, scAV, scPC, scR_texts, h1, q1, b0]
    simp only [runB, finC, finD, Option.isSome_some, Option.isSome_none, ↓reduceIte, Nat.reduceEqDiff, Nat.reduceAdd, Nat.reduceMul, forall_eq_or_imp, forall_eq, implies_true, Nat.reduceBEq, reduceCtorEq, false_implies, List.zip_cons_cons, List.zip_nil_left, List.zip_nil_right, Nat.reduceLeDiff, List.forall_mem_nil, c_At, c_pairs, c_amds, rs_13, agg_24, sz_24, zeroK, texts, List.map_nil]
  have hK : keyS ⟨seed, leaves, next⟩ = 0 := if_pos hg
  rw [hK] at q1
  have b0 : ((0 : Int) != 0) = false := rfl
  by_cases hn : next = (leaves.length : Int)
  case pos =>
    have hS : signS ⟨seed, leaves, next⟩ text = ([], zeroK, 17) := by unfold signS; rw [if_pos hg, if_pos hn]
    rw [hS]
    have g1 : (next == (leaves.length : Int)) = true := by simpa using hn
    simp only [runA, runB, runC, runD, runE, runF, fieldE, storeE, binE, ↓reduceIte, Nat.reduceLT, Nat.reduceLeDiff, Nat.reduceEqDiff, Nat.reduceAdd, Nat.reduceMul, Nat.reduceSub, reduceCtorEq, putAt, unE, Nat.reduceBEq, convE, buildE, List.replicate, Int.reduceLT, Int.reduceLE, Int.reduceToNat, mkE, mapSetE, hN, hF, ty_3, ty_5, ty_9, ty_22, ty_24, ty_25, ty_27, notIf, isEq, hT, hLd, key_no, pathR_no, cloneT_no, callA, argsA, cellsA, c_At, c_E, c_back, callB, lendE, lendC, lendM, scRes, scAV, scPC, scR_texts, texts_length, h1, q1, b0, g1]
    simp only [runB, finC, finD, Option.isSome_some, Option.isSome_none, ↓reduceIte, Nat.reduceEqDiff, Nat.reduceAdd, Nat.reduceMul, forall_eq_or_imp, forall_eq, implies_true, Nat.reduceBEq, reduceCtorEq, false_implies, List.zip_cons_cons, List.zip_nil_left, List.zip_nil_right, Nat.reduceLeDiff, List.forall_mem_nil, c_At, c_pairs, c_amds, rs_13, agg_24, sz_24, zeroK, texts, List.map_nil]
  have g1 : (next == (leaves.length : Int)) = false := by simpa using hn
  have hS : signS ⟨seed, leaves, next⟩ text = (sigB ⟨seed, leaves, next⟩ text, ⟨seed, leaves, next + 1⟩, 0) := by unfold signS; rw [if_pos hg, if_neg hn]; rfl
  rw [hS]
  obtain ⟨_, p8, pl⟩ := path_good hg hn
  have hg0 := hg
  obtain ⟨a1, a2, a3, a4, a5⟩ := hg
  dsimp only at a1 a2 a3 a4 a5 p8 pl
  have q2 := pathR_at leaves next hg0.okl
  have q3 := sgn_at seed next text (by omega) hl2
  have hlg := (okN16_log a2).1
  have hle : leaves.length ≤ 16 := by unfold okN16 at a2; omega
  have hne : leaves ≠ [] := fun e => by rw [e] at a2; exact absurd a2 (by decide)
  have q4 := cloneT_at leaves hne (by omega)
  have hsl : (texts (sgnS seed next text)).length = 11 := by rw [texts_length]; exact sgnT_length _ _ _ _
  have hL8 : all8 (sigL ⟨seed, leaves, next⟩ text) := all8_app (sgnT_all8 _ _ _ _) p8
  have hLl : (sigL ⟨seed, leaves, next⟩ text).length = 11 + leaves.length.log2 := by
    show (sgnS seed next text ++ (pathS leaves next).1).length = _
    rw [List.length_append, pl, show (sgnS seed next text).length = 11 from sgnT_length _ _ _ _]
  have hap : texts (sgnS seed next text) ++ texts (pathS leaves next).1 = texts (sigL ⟨seed, leaves, next⟩ text) := texts_app _ _
  have hsb : sigB ⟨seed, leaves, next⟩ text = putB next 2 ++ (sigL ⟨seed, leaves, next⟩ text).flatten := rfl
  have hpl : (texts (pathS leaves next).1).length = leaves.length.log2 := by rw [texts_length, pl]
  rw [hsb]
  generalize sigL ⟨seed, leaves, next⟩ text = L at hL8 hLl hap ⊢
  generalize (pathS leaves next).1 = pth at q2 hap hpl
  generalize (pathS leaves next).2 = pe at q2
  generalize leaves.length.log2 = h at hLl hpl hlg
  have hz := rowsOK_texts
  have hc1 : ((11 + h) * 16 ≤ 140737488355328) = True := eq_true (by omega)
  have e9 : IntKind.i64.wrap (next + 1) = next + 1 := wrapI (by omega)
  have hpb := putB2 next
  have q5 : putC [.c (.int .i64 next), .c (.int .i64 2)] [] = some ⟨[.fresh 1 (bytes (putB next 2))], []⟩ := by simp [putC]
  generalize putB next 2 = pb at hpb q5 ⊢
  simp only [runA, runB, runC, runD, runE, runF, fieldE, storeE, binE, ↓reduceIte, Nat.reduceLT, Nat.reduceLeDiff, Nat.reduceEqDiff, Nat.reduceAdd, Nat.reduceMul, Nat.reduceSub, reduceCtorEq, putAt, unE, Nat.reduceBEq, convE, buildE, List.replicate, Int.reduceLT, Int.reduceLE, Int.reduceToNat, mkE, mapSetE, hN, hF, ty_3, ty_5, ty_9, ty_22, ty_24, ty_25, ty_27, notIf, isEq, hT, hLd, key_no, pathR_no, cloneT_no, callA, argsA, cellsA, c_At, c_E, c_back, callB, lendE, lendC, lendM, scRes, scAV, scPC, scR_texts, texts_length, h1, q1, b0, g1, h2, q2, h3, q5, h4, q3, hsl, hz, hpl, hc1, hap, bytes_length, hpb]
  refine AWP.loop (fun k st => ∃ i : Nat, i ≤ 11 + h ∧ k = 11 + h - i ∧ st = ⟨[(2, .ptr 128 0), (5, .ptr 320 0), (10, .own 2434 1 (bytes (pb ++ (L.take i).flatten))), (46, .own 2818 1 (texts L)), (47, .c (.int .i64 ((11 + h : Nat) : Int))), (48, .c (.int .i64 (i : Int)))],
    [(128, .obj [.c (.str seed), .msl 6400000 0 leaves.length false, .c (.int .i64 next)] false), (320, .obj [.c (.str []), .nilsl, .c (.int .i64 0)] false), (2434, .row 1 (2 + 8 * i)), (2818, .row 1 (11 + h)), (6400000, .obj (fl.map .c) false)]⟩) ⟨11 + h, _, ?w, 0, Nat.zero_le _, rfl, rfl⟩ ?r
  case w =>
    rw [hns]
    simp only [runB, finC, finD, AS.get, AS.mem, false_implies, implies_true, ↓reduceIte, Nat.reduceEqDiff, Option.isSome_some, Option.isSome_none, forall_eq_or_imp, forall_eq, reduceCtorEq, Nat.reduceAdd, Nat.reduceMul, List.zip_cons_cons, List.zip_nil_left, List.zip_nil_right, List.forall_mem_nil, c_amds, c_At]
    first | exact ⟨by simp, by rw [hLl], rfl⟩ | simp [hLl]
  case r =>
    rintro k st ⟨i, hi, rfl, rfl⟩
    refine vc_sound hΓ mixed _ _ _ ?_
    by_cases hlt : i < 11 + h
    · have k1 : decide ((i : Int) < ((11 + h : Nat) : Int)) = true := by simp; omega
      have e1 : IntKind.i64.wrap ((i : Int) + 1) = (i : Int) + 1 := wrapI (by omega)
      have hgx := textsD L i (by omega)
      have h8 := all8_getD hL8 (i := i) (by omega)
      have hft := flatD_take L i (by omega)
      have hfl : (pb ++ (L.take i).flatten).length = 2 + 8 * i := by rw [List.length_append, hpb, all8_flat _ (all8_take hL8 i), List.length_take]; omega
      have hap2 : (pb ++ (L.take i).flatten) ++ L.getD i [] = pb ++ (L.take (i + 1)).flatten := by rw [List.append_assoc, hft]
      generalize L.getD i [] = s at hgx h8 hap2
      have hzb := rowsOK_bytes
      have hc2 : (2 + 8 * i + 8 ≤ 140737488355328) = True := eq_true (by omega)
      generalize pb ++ (L.take i).flatten = bi at hfl hap2 ⊢
      simp only [runA, runB, runC, runD, runE, runF, fieldE, storeE, binE, ↓reduceIte, Nat.reduceLT, Nat.reduceLeDiff, Nat.reduceEqDiff, Nat.reduceAdd, Nat.reduceMul, Nat.reduceSub, reduceCtorEq, putAt, unE, Nat.reduceBEq, convE, buildE, List.replicate, Int.reduceLT, Int.reduceLE, Int.reduceToNat, mkE, mapSetE, hN, hF, ty_3, ty_5, ty_9, ty_22, ty_24, ty_25, ty_27, notIf, isEq, hT, hLd, key_no, pathR_no, cloneT_no, callA, argsA, cellsA, c_At, c_E, c_back, callB, lendE, lendC, lendM, scRes, scAV, scPC, scR_texts, k1, e1, hgx, h8, hzb, hc2, hfl, bytes_length, bytes_app, hap2]
      refine ⟨11 + h - (i + 1), _, by omega, ?_, i + 1, by omega, rfl, rfl⟩
      rw [hns]
      simp only [runB, finC, finD, AS.get, AS.mem, false_implies, implies_true, ↓reduceIte, Nat.reduceEqDiff, Option.isSome_some, Option.isSome_none, forall_eq_or_imp, forall_eq, reduceCtorEq, Nat.reduceAdd, Nat.reduceMul, List.zip_cons_cons, List.zip_nil_left, List.zip_nil_right, List.forall_mem_nil, c_amds, c_At]
      first | done | (simp; omega)
    · have k1 : decide ((i : Int) < ((11 + h : Nat) : Int)) = false := by simp; omega
      obtain rfl : i = 11 + h := by omega
      have htk : L.take (11 + h) = L := List.take_of_length_le (by omega)
      rw [htk]
      have hfl : (pb ++ L.flatten).length = 2 + 8 * (11 + h) := by rw [List.length_append, hpb, all8_flat _ hL8, hLl]
      generalize pb ++ L.flatten = bi at hfl ⊢
      simp only [runA, runB, runC, runD, runE, runF, fieldE, storeE, binE, ↓reduceIte, Nat.reduceLT, Nat.reduceLeDiff, Nat.reduceEqDiff, Nat.reduceAdd, Nat.reduceMul, Nat.reduceSub, reduceCtorEq, putAt, unE, Nat.reduceBEq, convE, buildE, List.replicate, Int.reduceLT, Int.reduceLE, Int.reduceToNat, mkE, mapSetE, hN, hF, ty_3, ty_5, ty_9, ty_22, ty_24, ty_25, ty_27, notIf, isEq, hT, hLd, key_no, pathR_no, cloneT_no, callA, argsA, cellsA, c_At, c_E, c_back, callB, lendE, lendC, lendM, scRes, scAV, scPC, scR_texts, k1, h5, q4, e9, bytesOf_bytes]
      refine drawnP_intro (by kernel_rfl) (by kernel_rfl) ?_
      simp only [runA, runB, runC, runD, runE, runF, fieldE, storeE, binE, ↓reduceIte, Nat.reduceLT, Nat.reduceLeDiff, Nat.reduceEqDiff, Nat.reduceAdd, Nat.reduceMul, Nat.reduceSub, reduceCtorEq, putAt, unE, Nat.reduceBEq, convE, buildE, List.replicate, Int.reduceLT, Int.reduceLE, Int.reduceToNat, mkE, mapSetE, hN, hF, ty_3, ty_5, ty_9, ty_22, ty_24, ty_25, ty_27, notIf, isEq, hT, hLd, key_no, pathR_no, cloneT_no, callA, argsA, cellsA, c_At, c_E, c_back, callB, lendE, lendC, lendM, scRes, scAV, scPC, scR_texts, bytesOf_bytes]
      simp only [runB, finC, finD, Option.isSome_some, Option.isSome_none, ↓reduceIte, Nat.reduceEqDiff, Nat.reduceAdd, Nat.reduceMul, forall_eq_or_imp, forall_eq, implies_true, Nat.reduceBEq, reduceCtorEq, false_implies, List.zip_cons_cons, List.zip_nil_left, List.zip_nil_right, Nat.reduceLeDiff, List.forall_mem_nil, c_At, c_pairs, c_amds, rs_13, agg_24, sz_24, keyAV]


variable {Γ : FuncId → Contract}

noncomputable def refSigC : Contract := mkC (α := Sk) skOK (fun p => [p.k.av, .c (.sl (bytes p.text))]) (fun _ => []) (fun p => ⟨[.pv (.c (.str (signS p.k p.text).1)), .pv (.c (.int .i64 (signS p.k p.text).2.2))], []⟩)
theorem refSig_at (k : Ky) (text : List UInt8) (h1 : k.leaves.length ≤ 9223372036854775807) (h2 : text.length ≤ 1099511627776) :
    refSigC [.agg [.c (.str k.seed), .c (.sl (texts k.leaves)), .c (.int .i64 k.next)], .c (.sl (bytes text))] [] = some ⟨[.pv (.c (.str (signS k text).1)), .pv (.c (.int .i64 (signS k text).2.2))], []⟩ :=
  mkC_at (α := Sk) ⟨k, text⟩ ⟨h1, h2⟩ (by
    rintro ⟨k', t'⟩ _ h _
    simp only [List.cons.injEq, AV.c.injEq, PC.sl.injEq, and_true] at h
    have e : k' = k := Ky.av_inj (show k'.av = k.av from h.1)
    have e2 := bytes_inj h.2
    rw [e, e2])

set_option maxRecDepth 100000 in
set_option maxHeartbeats 4000000 in
theorem refSig_sound (hΓ : SoundG Try.prog Γ) (h1 : Γ 20 = keyC) (h2 : Γ 60 = pathC) (h3 : Γ 61 = putC) (h4 : Γ 62 = sgnC) : SoundC Try.prog 15 refSigC := by
  refine sound_fn Try.func15 (by kernel_rfl) rfl rfl ?_
  intro args objs r hr
  obtain ⟨⟨⟨seed, leaves, next⟩, text⟩, ⟨hl1, hl2⟩, rfl, rfl, rfl⟩ := mkC_inv hr
  have hl1 : leaves.length ≤ 9223372036854775807 := hl1
  have hl2 : text.length ≤ 1099511627776 := hl2
  refine ⟨rfl, by show 2 ≤ _; decide, fun E hN hns hF => ?_⟩
  refine vc_sound hΓ mixed _ _ _ ?_
  have hN := hN.trans nt_15
  have q1 := key_at ⟨seed, leaves, next⟩ hl1
  unfold Ky.av
  dsimp only at q1 ⊢
  by_cases hg : goodK ⟨seed, leaves, next⟩
  case neg =>
    have hK : keyS ⟨seed, leaves, next⟩ = 9 := if_neg hg
    have hS : signS ⟨seed, leaves, next⟩ text = ([], zeroK, 9) := if_neg hg
    rw [hK] at q1
    rw [hS]
    have b0 : ((9 : Int) != 0) = true := rfl
    simp only [runA, runB, runC, runD, runE, runF, fieldE, storeE, binE, ↓reduceIte, Nat.reduceLT, Nat.reduceLeDiff, Nat.reduceEqDiff, Nat.reduceAdd, Nat.reduceMul, Nat.reduceSub, reduceCtorEq, putAt, unE, Nat.reduceBEq, convE, buildE, List.replicate, Int.reduceLT, Int.reduceLE, Int.reduceToNat, mkE, mapSetE, hN, hF, ty_3, ty_5, ty_9, ty_22, ty_24, ty_25, notIf, isEq, h1, q1, b0]
    simp only [runB, finC, finD, Option.isSome_some, Option.isSome_none, ↓reduceIte, Nat.reduceEqDiff, Nat.reduceAdd, Nat.reduceMul, forall_eq_or_imp, forall_eq, implies_true, Nat.reduceBEq, reduceCtorEq, false_implies, List.zip_cons_cons, List.zip_nil_left, List.zip_nil_right, Nat.reduceLeDiff, List.forall_mem_nil, rs_15]
  have hK : keyS ⟨seed, leaves, next⟩ = 0 := if_pos hg
  rw [hK] at q1
  have b0 : ((0 : Int) != 0) = false := rfl
  by_cases hn : next = (leaves.length : Int)
  case pos =>
    have hS : signS ⟨seed, leaves, next⟩ text = ([], zeroK, 17) := by unfold signS; rw [if_pos hg, if_pos hn]
    rw [hS]
    have g1 : (next == (leaves.length : Int)) = true := by simpa using hn
    simp only [runA, runB, runC, runD, runE, runF, fieldE, storeE, binE, ↓reduceIte, Nat.reduceLT, Nat.reduceLeDiff, Nat.reduceEqDiff, Nat.reduceAdd, Nat.reduceMul, Nat.reduceSub, reduceCtorEq, putAt, unE, Nat.reduceBEq, convE, buildE, List.replicate, Int.reduceLT, Int.reduceLE, Int.reduceToNat, mkE, mapSetE, hN, hF, ty_3, ty_5, ty_9, ty_22, ty_24, ty_25, notIf, isEq, texts_length, h1, q1, b0, g1]
    simp only [runB, finC, finD, Option.isSome_some, Option.isSome_none, ↓reduceIte, Nat.reduceEqDiff, Nat.reduceAdd, Nat.reduceMul, forall_eq_or_imp, forall_eq, implies_true, Nat.reduceBEq, reduceCtorEq, false_implies, List.zip_cons_cons, List.zip_nil_left, List.zip_nil_right, Nat.reduceLeDiff, List.forall_mem_nil, rs_15]
  have g1 : (next == (leaves.length : Int)) = false := by simpa using hn
  have hS : signS ⟨seed, leaves, next⟩ text = (sigB ⟨seed, leaves, next⟩ text, ⟨seed, leaves, next + 1⟩, 0) := by unfold signS; rw [if_pos hg, if_neg hn]; rfl
  rw [hS]
  obtain ⟨_, p8, pl⟩ := path_good hg hn
  have hg0 := hg
  obtain ⟨a1, a2, a3, a4, a5⟩ := hg
  dsimp only at a1 a2 a3 a4 a5 p8 pl
  have q2 := path_at leaves next hg0.okl
  have q3 := sgn_at seed next text (by omega) hl2
  have hlg := (okN16_log a2).1
  have hsl : (sgnS seed next text).length = 11 := sgnT_length _ _ _ _
  have hs8 : all8 (sgnS seed next text) := sgnT_all8 _ _ _ _
  have hsb : sigB ⟨seed, leaves, next⟩ text = putB next 2 ++ (sgnS seed next text ++ (pathS leaves next).1).flatten := rfl
  rw [List.flatten_append] at hsb
  rw [hsb]
  generalize sgnS seed next text = L at hsl hs8 q3 ⊢
  generalize (pathS leaves next).1 = pth at q2 p8 pl ⊢
  generalize (pathS leaves next).2 = pe at q2
  generalize leaves.length.log2 = h at pl hlg
  have hpb := putB2 next
  have q5 : putC [.c (.int .i64 next), .c (.int .i64 2)] [] = some ⟨[.fresh 1 (bytes (putB next 2))], []⟩ := by simp [putC]
  generalize putB next 2 = pb at hpb q5 ⊢
  simp only [runA, runB, runC, runD, runE, runF, fieldE, storeE, binE, ↓reduceIte, Nat.reduceLT, Nat.reduceLeDiff, Nat.reduceEqDiff, Nat.reduceAdd, Nat.reduceMul, Nat.reduceSub, reduceCtorEq, putAt, unE, Nat.reduceBEq, convE, buildE, List.replicate, Int.reduceLT, Int.reduceLE, Int.reduceToNat, mkE, mapSetE, hN, hF, ty_3, ty_5, ty_9, ty_22, ty_24, ty_25, notIf, isEq, texts_length, h1, q1, b0, g1, h2, q2, h3, q5, h4, q3, bytesOf_bytes]
  refine AWP.loop (fun k st => ∃ i : Nat, i ≤ 11 ∧ k = 11 - i ∧ st = ⟨[(6, .c (.sl (texts pth))), (8, .c (.str (pb ++ (L.take i).flatten))), (9, .own 2434 1 (texts L)), (10, .c (.int .i64 (i : Int)))], [(2434, .row 1 11)]⟩) ⟨11, _, ?w, 0, Nat.zero_le _, rfl, rfl⟩ ?r
  case w =>
    rw [hns]
    simp only [runB, finC, finD, AS.get, AS.mem, false_implies, implies_true, ↓reduceIte, Nat.reduceEqDiff, Option.isSome_some, Option.isSome_none, forall_eq_or_imp, forall_eq, reduceCtorEq, Nat.reduceAdd, Nat.reduceMul, List.zip_cons_cons, List.zip_nil_left, List.zip_nil_right, List.forall_mem_nil, texts_length, hsl]
    first | done | simp
  case r =>
    rintro k st ⟨i, hi, rfl, rfl⟩
    refine vc_sound hΓ mixed _ _ _ ?_
    by_cases hlt : i < 11
    · have k1 : decide ((i : Int) < ((11 : Nat) : Int)) = true := by simp; omega
      have e1 : IntKind.i64.wrap ((i : Int) + 1) = (i : Int) + 1 := wrapI (by omega)
      have hgx := textsD L i (by omega)
      have h8 := all8_getD hs8 (i := i) (by omega)
      have hft := flatD_take L i (by omega)
      have hfl : (pb ++ (L.take i).flatten).length = 2 + 8 * i := by rw [List.length_append, hpb, all8_flat _ (all8_take hs8 i), List.length_take]; omega
      have hap2 : (pb ++ (L.take i).flatten) ++ L.getD i [] = pb ++ (L.take (i + 1)).flatten := by rw [List.append_assoc, hft]
      generalize L.getD i [] = s at hgx h8 hap2
      have hc2 : ((pb ++ (L.take i).flatten).length + s.length ≤ 9223372036854775807) = True := eq_true (by omega)
      generalize pb ++ (L.take i).flatten = bi at hfl hap2 hc2 ⊢
      simp only [runA, runB, runC, runD, runE, runF, fieldE, storeE, binE, ↓reduceIte, Nat.reduceLT, Nat.reduceLeDiff, Nat.reduceEqDiff, Nat.reduceAdd, Nat.reduceMul, Nat.reduceSub, reduceCtorEq, putAt, unE, Nat.reduceBEq, convE, buildE, List.replicate, Int.reduceLT, Int.reduceLE, Int.reduceToNat, mkE, mapSetE, hN, hF, ty_3, ty_5, ty_9, ty_22, ty_24, ty_25, notIf, isEq, texts_length, hsl, k1, e1, hgx, hc2, hap2]
      refine ⟨11 - (i + 1), _, by omega, ?_, i + 1, by omega, rfl, rfl⟩
      rw [hns]
      simp only [runB, finC, finD, AS.get, AS.mem, false_implies, implies_true, ↓reduceIte, Nat.reduceEqDiff, Option.isSome_some, Option.isSome_none, forall_eq_or_imp, forall_eq, reduceCtorEq, Nat.reduceAdd, Nat.reduceMul, List.zip_cons_cons, List.zip_nil_left, List.zip_nil_right, List.forall_mem_nil]
      first | done | simp
    · have k1 : decide ((i : Int) < ((11 : Nat) : Int)) = false := by simp; omega
      obtain rfl : i = 11 := by omega
      have htk : L.take 11 = L := List.take_of_length_le (by omega)
      rw [htk, ← List.append_assoc]
      have hfl : (pb ++ L.flatten).length = 90 := by rw [List.length_append, hpb, all8_flat _ hs8, hsl]
      generalize pb ++ L.flatten = b1 at hfl ⊢
      simp only [runA, runB, runC, runD, runE, runF, fieldE, storeE, binE, ↓reduceIte, Nat.reduceLT, Nat.reduceLeDiff, Nat.reduceEqDiff, Nat.reduceAdd, Nat.reduceMul, Nat.reduceSub, reduceCtorEq, putAt, unE, Nat.reduceBEq, convE, buildE, List.replicate, Int.reduceLT, Int.reduceLE, Int.reduceToNat, mkE, mapSetE, hN, hF, ty_3, ty_5, ty_9, ty_22, ty_24, ty_25, notIf, isEq, texts_length, hsl, k1]
      refine AWP.loop (fun k st => ∃ i : Nat, i ≤ h ∧ k = h - i ∧ st = ⟨[(6, .c (.sl (texts pth))), (8, .c (.str (b1 ++ (pth.take i).flatten))), (11, .c (.int .i64 (i : Int)))], []⟩) ⟨h, _, ?w2, 0, Nat.zero_le _, rfl, rfl⟩ ?r2
      case w2 =>
        rw [hns]
        simp only [runB, finC, finD, AS.get, AS.mem, false_implies, implies_true, ↓reduceIte, Nat.reduceEqDiff, Option.isSome_some, Option.isSome_none, forall_eq_or_imp, forall_eq, reduceCtorEq, Nat.reduceAdd, Nat.reduceMul, List.zip_cons_cons, List.zip_nil_left, List.zip_nil_right, List.forall_mem_nil]
        first | done | simp
      case r2 =>
        rintro k st ⟨i, hi, rfl, rfl⟩
        refine vc_sound hΓ mixed _ _ _ ?_
        by_cases hlt : i < h
        · have k1 : decide ((i : Int) < (h : Int)) = true := by simp; omega
          have e1 : IntKind.i64.wrap ((i : Int) + 1) = (i : Int) + 1 := wrapI (by omega)
          have hgx := textsD pth i (by omega)
          have h8 := all8_getD p8 (i := i) (by omega)
          have hft := flatD_take pth i (by omega)
          have hfl2 : (b1 ++ (pth.take i).flatten).length = 90 + 8 * i := by rw [List.length_append, hfl, all8_flat _ (all8_take p8 i), List.length_take]; omega
          have hap2 : (b1 ++ (pth.take i).flatten) ++ pth.getD i [] = b1 ++ (pth.take (i + 1)).flatten := by rw [List.append_assoc, hft]
          generalize pth.getD i [] = s at hgx h8 hap2
          have hc2 : ((b1 ++ (pth.take i).flatten).length + s.length ≤ 9223372036854775807) = True := eq_true (by omega)
          generalize b1 ++ (pth.take i).flatten = bi at hfl2 hap2 hc2 ⊢
          simp only [runA, runB, runC, runD, runE, runF, fieldE, storeE, binE, ↓reduceIte, Nat.reduceLT, Nat.reduceLeDiff, Nat.reduceEqDiff, Nat.reduceAdd, Nat.reduceMul, Nat.reduceSub, reduceCtorEq, putAt, unE, Nat.reduceBEq, convE, buildE, List.replicate, Int.reduceLT, Int.reduceLE, Int.reduceToNat, mkE, mapSetE, hN, hF, ty_3, ty_5, ty_9, ty_22, ty_24, ty_25, notIf, isEq, texts_length, pl, k1, e1, hgx, hc2, hap2]
          refine ⟨h - (i + 1), _, by omega, ?_, i + 1, by omega, rfl, rfl⟩
          rw [hns]
          simp only [runB, finC, finD, AS.get, AS.mem, false_implies, implies_true, ↓reduceIte, Nat.reduceEqDiff, Option.isSome_some, Option.isSome_none, forall_eq_or_imp, forall_eq, reduceCtorEq, Nat.reduceAdd, Nat.reduceMul, List.zip_cons_cons, List.zip_nil_left, List.zip_nil_right, List.forall_mem_nil]
          first | done | simp
        · have k1 : decide ((i : Int) < (h : Int)) = false := by simp; omega
          obtain rfl : i = h := by omega
          have htk : pth.take i = pth := List.take_of_length_le (by omega)
          rw [htk]
          simp only [runA, runB, runC, runD, runE, runF, fieldE, storeE, binE, ↓reduceIte, Nat.reduceLT, Nat.reduceLeDiff, Nat.reduceEqDiff, Nat.reduceAdd, Nat.reduceMul, Nat.reduceSub, reduceCtorEq, putAt, unE, Nat.reduceBEq, convE, buildE, List.replicate, Int.reduceLT, Int.reduceLE, Int.reduceToNat, mkE, mapSetE, hN, hF, ty_3, ty_5, ty_9, ty_22, ty_24, ty_25, notIf, isEq, texts_length, pl, k1]
          simp only [runB, finC, finD, Option.isSome_some, Option.isSome_none, ↓reduceIte, Nat.reduceEqDiff, Nat.reduceAdd, Nat.reduceMul, forall_eq_or_imp, forall_eq, implies_true, Nat.reduceBEq, reduceCtorEq, false_implies, List.zip_cons_cons, List.zip_nil_left, List.zip_nil_right, Nat.reduceLeDiff, List.forall_mem_nil, rs_15]

noncomputable def sameKC : Contract := mkC (α := Ky × Ky) (fun p => p.1.leaves.length ≤ 1099511627776) (fun p => [p.1.av, p.2.av]) (fun _ => []) (fun p => ⟨[.pv (.c (.bool (decide (p.1 = p.2))))], []⟩)
theorem sameK_at (a b : Ky) (h : a.leaves.length ≤ 1099511627776) : sameKC [.agg [.c (.str a.seed), .c (.sl (texts a.leaves)), .c (.int .i64 a.next)], .agg [.c (.str b.seed), .c (.sl (texts b.leaves)), .c (.int .i64 b.next)]] [] = some ⟨[.pv (.c (.bool (decide (a = b))))], []⟩ :=
  mkC_at (α := Ky × Ky) (a, b) h (by
    rintro ⟨a', b'⟩ _ h _
    simp only [List.cons.injEq, and_true] at h
    have e : a' = a := Ky.av_inj (show a'.av = a.av from h.1)
    have e2 : b' = b := Ky.av_inj (show b'.av = b.av from h.2)
    rw [e, e2])
theorem getD_ext {a b : List (List UInt8)} (hl : a.length = b.length) (h : ∀ k, k < a.length → a.getD k [] = b.getD k []) : a = b := by
  refine List.ext_getElem hl fun i h1 h2 => ?_
  have := h i h1
  rw [List.getD, List.getD, List.getElem?_eq_getElem h1, List.getElem?_eq_getElem h2] at this
  exact this
set_option maxRecDepth 100000 in
set_option maxHeartbeats 4000000 in
theorem sameK_sound : SoundC Try.prog 14 sameKC := by
  refine sound_fn Try.func14 (by kernel_rfl) rfl rfl ?_
  intro args objs r hr
  obtain ⟨⟨⟨s1, l1, n1⟩, ⟨s2, l2, n2⟩⟩, hl, rfl, rfl, rfl⟩ := mkC_inv hr
  have hl : l1.length ≤ 1099511627776 := hl
  refine ⟨rfl, by show 2 ≤ _; decide, fun E hN hns hF => ?_⟩
  refine vc_sound none0_sound mixed _ _ _ ?_
  have hN := hN.trans nt_14
  unfold Ky.av
  dsimp only
  by_cases c1 : s1 = s2
  case neg =>
    have g1 : (s1 == s2) = false := by simpa using c1
    have hS : decide ((⟨s1, l1, n1⟩ : Ky) = ⟨s2, l2, n2⟩) = false := by simp [c1]
    simp only [runA, runB, runC, runD, runE, runF, fieldE, storeE, binE, ↓reduceIte, Nat.reduceLT, Nat.reduceLeDiff, Nat.reduceEqDiff, Nat.reduceAdd, Nat.reduceMul, Nat.reduceSub, reduceCtorEq, putAt, unE, Nat.reduceBEq, convE, buildE, List.replicate, Int.reduceLT, Int.reduceLE, Int.reduceToNat, mkE, mapSetE, hN, hF, ty_3, ty_4, ty_9, ty_22, ty_24, notIf, isEq, g1]
    simp only [runB, finC, finD, Option.isSome_some, Option.isSome_none, ↓reduceIte, Nat.reduceEqDiff, Nat.reduceAdd, Nat.reduceMul, forall_eq_or_imp, forall_eq, implies_true, Nat.reduceBEq, reduceCtorEq, false_implies, List.zip_cons_cons, List.zip_nil_left, List.zip_nil_right, Nat.reduceLeDiff, List.forall_mem_nil, rs_14, hS]
  have g1 : (s1 == s2) = true := by simpa using c1
  by_cases c2 : n1 = n2
  case neg =>
    have g2 : (n1 != n2) = true := by simpa using c2
    have hS : decide ((⟨s1, l1, n1⟩ : Ky) = ⟨s2, l2, n2⟩) = false := by simp [c2]
    simp only [runA, runB, runC, runD, runE, runF, fieldE, storeE, binE, ↓reduceIte, Nat.reduceLT, Nat.reduceLeDiff, Nat.reduceEqDiff, Nat.reduceAdd, Nat.reduceMul, Nat.reduceSub, reduceCtorEq, putAt, unE, Nat.reduceBEq, convE, buildE, List.replicate, Int.reduceLT, Int.reduceLE, Int.reduceToNat, mkE, mapSetE, hN, hF, ty_3, ty_4, ty_9, ty_22, ty_24, notIf, isEq, g1, g2]
    simp only [runB, finC, finD, Option.isSome_some, Option.isSome_none, ↓reduceIte, Nat.reduceEqDiff, Nat.reduceAdd, Nat.reduceMul, forall_eq_or_imp, forall_eq, implies_true, Nat.reduceBEq, reduceCtorEq, false_implies, List.zip_cons_cons, List.zip_nil_left, List.zip_nil_right, Nat.reduceLeDiff, List.forall_mem_nil, rs_14, hS]
  have g2 : (n1 != n2) = false := by simpa using c2
  by_cases c3 : l1.length = l2.length
  case neg =>
    have g3 : ((l1.length : Int) != (l2.length : Int)) = true := by rw [bne_iff_ne]; omega
    have hS : decide ((⟨s1, l1, n1⟩ : Ky) = ⟨s2, l2, n2⟩) = false := by
      rw [decide_eq_false_iff_not]
      intro e
      rw [Ky.mk.injEq] at e
      exact c3 (by rw [e.2.1])
    simp only [runA, runB, runC, runD, runE, runF, fieldE, storeE, binE, ↓reduceIte, Nat.reduceLT, Nat.reduceLeDiff, Nat.reduceEqDiff, Nat.reduceAdd, Nat.reduceMul, Nat.reduceSub, reduceCtorEq, putAt, unE, Nat.reduceBEq, convE, buildE, List.replicate, Int.reduceLT, Int.reduceLE, Int.reduceToNat, mkE, mapSetE, hN, hF, ty_3, ty_4, ty_9, ty_22, ty_24, notIf, isEq, texts_length, g1, g2, g3]
    simp only [runB, finC, finD, Option.isSome_some, Option.isSome_none, ↓reduceIte, Nat.reduceEqDiff, Nat.reduceAdd, Nat.reduceMul, forall_eq_or_imp, forall_eq, implies_true, Nat.reduceBEq, reduceCtorEq, false_implies, List.zip_cons_cons, List.zip_nil_left, List.zip_nil_right, Nat.reduceLeDiff, List.forall_mem_nil, rs_14, hS]
  have g3 : ((l1.length : Int) != (l2.length : Int)) = false := by rw [c3, bne_self_eq_false]
  simp only [runA, runB, runC, runD, runE, runF, fieldE, storeE, binE, ↓reduceIte, Nat.reduceLT, Nat.reduceLeDiff, Nat.reduceEqDiff, Nat.reduceAdd, Nat.reduceMul, Nat.reduceSub, reduceCtorEq, putAt, unE, Nat.reduceBEq, convE, buildE, List.replicate, Int.reduceLT, Int.reduceLE, Int.reduceToNat, mkE, mapSetE, hN, hF, ty_3, ty_4, ty_9, ty_22, ty_24, notIf, isEq, texts_length, g1, g2, g3]
  refine AWP.loop (fun k st => ∃ i : Nat, (i ≤ l1.length ∧ ∀ k, k < i → l1.getD k [] = l2.getD k []) ∧ k = l1.length - i ∧ st = ⟨[(2, .ptr 128 0), (3, .ptr 192 0), (5, .c (.int .i64 (i : Int)))], [(128, .obj [.c (.str s1), .c (.sl (texts l1)), .c (.int .i64 n1)] false), (192, .obj [.c (.str s2), .c (.sl (texts l2)), .c (.int .i64 n2)] false)]⟩) ⟨l1.length, _, ?w, 0, ⟨Nat.zero_le _, fun k hk => absurd hk (Nat.not_lt_zero k)⟩, rfl, rfl⟩ ?r
  case w =>
    rw [hns]
    simp only [runB, finC, finD, AS.get, AS.mem, false_implies, implies_true, ↓reduceIte, Nat.reduceEqDiff, Option.isSome_some, Option.isSome_none, forall_eq_or_imp, forall_eq, reduceCtorEq, Nat.reduceAdd, Nat.reduceMul, List.zip_cons_cons, List.zip_nil_left, List.zip_nil_right, List.forall_mem_nil]
    first | done | simp
  case r =>
    rintro k st ⟨i, ⟨hi, h8⟩, rfl, rfl⟩
    refine vc_sound none0_sound mixed _ _ _ ?_
    by_cases hlt : i < l1.length
    · have k1 : decide ((i : Int) < (l1.length : Int)) = true := by simpa using hlt
      have e1 : IntKind.i64.wrap ((i : Int) + 1) = (i : Int) + 1 := wrapI (by omega)
      have hg1 := textsD l1 i hlt
      have hg2 := textsD l2 i (by omega)
      by_cases he : l1.getD i [] = l2.getD i []
      · have k2 : (l1.getD i [] == l2.getD i []) = true := by simpa using he
        have h8' : ∀ k, k < i + 1 → l1.getD k [] = l2.getD k [] := fun k hk => by
          by_cases e : k = i
          · rw [e]; exact he
          · exact h8 k (by omega)
        generalize l1.getD i [] = x1 at hg1 k2
        generalize l2.getD i [] = x2 at hg2 k2
        simp only [runA, runB, runC, runD, runE, runF, fieldE, storeE, binE, ↓reduceIte, Nat.reduceLT, Nat.reduceLeDiff, Nat.reduceEqDiff, Nat.reduceAdd, Nat.reduceMul, Nat.reduceSub, reduceCtorEq, putAt, unE, Nat.reduceBEq, convE, buildE, List.replicate, Int.reduceLT, Int.reduceLE, Int.reduceToNat, mkE, mapSetE, hN, hF, ty_3, ty_4, ty_9, ty_22, ty_24, notIf, isEq, texts_length, k1, k2, e1, hg1, hg2]
        refine drawnP_intro (by kernel_rfl) (by kernel_rfl) ?_
        simp only [runA, runB, runC, runD, runE, runF, fieldE, storeE, binE, ↓reduceIte, Nat.reduceLT, Nat.reduceLeDiff, Nat.reduceEqDiff, Nat.reduceAdd, Nat.reduceMul, Nat.reduceSub, reduceCtorEq, putAt, unE, Nat.reduceBEq, convE, buildE, List.replicate, Int.reduceLT, Int.reduceLE, Int.reduceToNat, mkE, mapSetE, hN, hF, ty_3, ty_4, ty_9, ty_22, ty_24, notIf, isEq, texts_length, k2, e1]
        refine ⟨l1.length - (i + 1), _, by omega, ?_, i + 1, ⟨by omega, h8'⟩, rfl, rfl⟩
        rw [hns]
        simp only [runB, finC, finD, AS.get, AS.mem, false_implies, implies_true, ↓reduceIte, Nat.reduceEqDiff, Option.isSome_some, Option.isSome_none, forall_eq_or_imp, forall_eq, reduceCtorEq, Nat.reduceAdd, Nat.reduceMul, List.zip_cons_cons, List.zip_nil_left, List.zip_nil_right, List.forall_mem_nil]
        first | done | simp
      · have k2 : (l1.getD i [] == l2.getD i []) = false := by simpa using he
        have hS : decide ((⟨s1, l1, n1⟩ : Ky) = ⟨s2, l2, n2⟩) = false := by
          rw [decide_eq_false_iff_not]
          intro e
          rw [Ky.mk.injEq] at e
          exact he (by rw [e.2.1])
        generalize l1.getD i [] = x1 at hg1 k2
        generalize l2.getD i [] = x2 at hg2 k2
        simp only [runA, runB, runC, runD, runE, runF, fieldE, storeE, binE, ↓reduceIte, Nat.reduceLT, Nat.reduceLeDiff, Nat.reduceEqDiff, Nat.reduceAdd, Nat.reduceMul, Nat.reduceSub, reduceCtorEq, putAt, unE, Nat.reduceBEq, convE, buildE, List.replicate, Int.reduceLT, Int.reduceLE, Int.reduceToNat, mkE, mapSetE, hN, hF, ty_3, ty_4, ty_9, ty_22, ty_24, notIf, isEq, texts_length, k1, k2, e1, hg1, hg2]
        refine drawnP_intro (by kernel_rfl) (by kernel_rfl) ?_
        simp only [runA, runB, runC, runD, runE, runF, fieldE, storeE, binE, ↓reduceIte, Nat.reduceLT, Nat.reduceLeDiff, Nat.reduceEqDiff, Nat.reduceAdd, Nat.reduceMul, Nat.reduceSub, reduceCtorEq, putAt, unE, Nat.reduceBEq, convE, buildE, List.replicate, Int.reduceLT, Int.reduceLE, Int.reduceToNat, mkE, mapSetE, hN, hF, ty_3, ty_4, ty_9, ty_22, ty_24, notIf, isEq, texts_length, k2, e1]
        simp only [runB, finC, finD, Option.isSome_some, Option.isSome_none, ↓reduceIte, Nat.reduceEqDiff, Nat.reduceAdd, Nat.reduceMul, forall_eq_or_imp, forall_eq, implies_true, Nat.reduceBEq, reduceCtorEq, false_implies, List.zip_cons_cons, List.zip_nil_left, List.zip_nil_right, Nat.reduceLeDiff, List.forall_mem_nil, rs_14, hS]
    · have k1 : decide ((i : Int) < (l1.length : Int)) = false := by simpa using hlt
      have hll : l1 = l2 := getD_ext c3 (fun k hk => h8 k (by omega))
      have hS : decide ((⟨s1, l1, n1⟩ : Ky) = ⟨s2, l2, n2⟩) = true := by rw [c1, c2, hll]; simp
      simp only [runA, runB, runC, runD, runE, runF, fieldE, storeE, binE, ↓reduceIte, Nat.reduceLT, Nat.reduceLeDiff, Nat.reduceEqDiff, Nat.reduceAdd, Nat.reduceMul, Nat.reduceSub, reduceCtorEq, putAt, unE, Nat.reduceBEq, convE, buildE, List.replicate, Int.reduceLT, Int.reduceLE, Int.reduceToNat, mkE, mapSetE, hN, hF, ty_3, ty_4, ty_9, ty_22, ty_24, notIf, isEq, texts_length, k1]
      simp only [runB, finC, finD, Option.isSome_some, Option.isSome_none, ↓reduceIte, Nat.reduceEqDiff, Nat.reduceAdd, Nat.reduceMul, forall_eq_or_imp, forall_eq, implies_true, Nat.reduceBEq, reduceCtorEq, false_implies, List.zip_cons_cons, List.zip_nil_left, List.zip_nil_right, Nat.reduceLeDiff, List.forall_mem_nil, rs_14, hS]


variable {Γ : FuncId → Contract}

noncomputable def num05C : Contract := mkC (α := Int) (fun _ => True) (fun h => [.c (.int .i64 h)]) (fun _ => []) (fun h => ⟨[.pv (.c (.int .i64 h))], []⟩)
theorem num05_at (n : Int) : num05C [.c (.int .i64 n)] [] = some ⟨[.pv (.c (.int .i64 n))], []⟩ :=
  mkC_at (α := Int) n trivial (by
    rintro m _ h _
    simp only [List.cons.injEq, AV.c.injEq, PC.int.injEq, true_and, and_true] at h
    rw [h])
set_option maxHeartbeats 1000000 in
theorem num05_sound : SoundC Try.prog 16 num05C := by
  refine sound_fn Try.func16 (by kernel_rfl) rfl rfl ?_
  intro args objs r hr
  obtain ⟨n, _, rfl, rfl, rfl⟩ := mkC_inv hr
  refine ⟨rfl, by show 1 ≤ _; decide, fun E hN hns hF => ?_⟩
  refine vc_sound none0_sound mixed _ _ _ ?_
  have hN := hN.trans nt_16
  simp only [runA, runB, runC, runD, runE, runF, fieldE, storeE, binE, ↓reduceIte, Nat.reduceLT, Nat.reduceLeDiff, Nat.reduceEqDiff, Nat.reduceAdd, Nat.reduceMul, Nat.reduceSub, reduceCtorEq, putAt, unE, Nat.reduceBEq, convE, buildE, List.replicate, Int.reduceLT, Int.reduceLE, Int.reduceToNat, mkE, mapSetE, hN, hF, ty_3, notIf, isEq]
  simp only [runB, finC, finD, Option.isSome_some, Option.isSome_none, ↓reduceIte, Nat.reduceEqDiff, Nat.reduceAdd, Nat.reduceMul, forall_eq_or_imp, forall_eq, implies_true, Nat.reduceBEq, reduceCtorEq, false_implies, List.zip_cons_cons, List.zip_nil_left, List.zip_nil_right, Nat.reduceLeDiff, List.forall_mem_nil, rs_16]

structure Tl where
  k : Ky
  text : List UInt8
  h : Int

variable {Γ : FuncId → Contract}


/-- A loop that its first round leaves. -/
theorem AWP.loop1 {P : Program} {E : Env} {c : Code} {Q : Exit → AS → Prop} {s : AS} (h : AWP P E c (thenA (fun _ => False) Q) s) : AWP P E (.loop c) Q s := by
  intro G a w R b k cs hro hb hrm
  obtain ⟨e, a₁, w₁, ⟨G1, s1, g2, g3⟩, harr⟩ := h G a w R b (.inLoop c :: k) cs hro hb hrm
  have hx : ∃ e a' w', (∃ G' s', Q e s' ∧ Rel E G' s' a' w') ∧ ArrivesIn (Machine.fenced P (rF E.ro)) P (lone (b.atR a (.code c :: .inLoop c :: k)) cs w) b k cs e a' w' := by
    cases e with
    | normal => exact g2.elim
    | exit id => exact ⟨_, a₁, w₁, ⟨G1, s1, g2, g3⟩, .pass (x := .inLoop c) rfl (fun _ _ => .inl (by simp)) harr⟩
    | goto l => exact ⟨_, a₁, w₁, ⟨G1, s1, g2, g3⟩, .pass (x := .inLoop c) rfl (fun _ _ => .inl (by simp)) harr⟩
    | ret => exact ⟨_, a₁, w₁, ⟨G1, s1, g2, g3⟩, .pass (x := .inLoop c) rfl (fun _ _ => .inl (by simp)) harr⟩
    | panic ch => exact ⟨_, a₁, w₁, ⟨G1, s1, g2, g3⟩, .pass (x := .inLoop c) rfl (fun _ _ => .inl (by simp)) harr⟩
    | outgrown => exact ⟨_, a₁, w₁, ⟨G1, s1, g2, g3⟩, .pass (x := .inLoop c) rfl (fun _ _ => .inl (by simp)) harr⟩
  obtain ⟨e, a', w', hq, harr⟩ := hx
  exact ⟨e, a', w', hq, .of_steps (.one (fenced_calm hb hrm rfl) stepR_loop) harr⟩

def orC (C D : Contract) : Contract := fun args objs => match C args objs with | some r => some r | none => D args objs
theorem orC_sound {P : Program} {f : FuncId} {C D : Contract} (h1 : SoundC P f C) (h2 : SoundC P f D) : SoundC P f (orC C D) := by
  refine ⟨h1.1, fun args objs r h => ?_⟩
  unfold orC at h
  split at h
  · rename_i r' hr; cases h; exact h1.2 args objs r hr
  · exact h2.2 args objs r h
theorem orC_l {C D : Contract} {a : List AV} {o : List (List OV)} {r : CRes} (h : C a o = some r) : orC C D a o = some r := by simp only [orC, h]
theorem orC_r {C D : Contract} {a : List AV} {o : List (List OV)} (h : C a o = none) : orC C D a o = D a o := by simp only [orC, h]
noncomputable def signA : Contract := orC signC signM
theorem signA_p (k : Ky) (text : List UInt8) (h1 : k.leaves.length ≤ 9223372036854775807) (h2 : text.length ≤ 1099511627776) :
    signA [.agg [.c (.str k.seed), .c (.sl (texts k.leaves)), .c (.int .i64 k.next)], .c (.sl (bytes text))] [] = some ⟨[.pv (.c (.str (signS k text).1)), .pv (signS k text).2.1.av, .pv (.c (.int .i64 (signS k text).2.2))], []⟩ := orC_l (sign_at k text h1 h2)
theorem signA_m (k : Ky) (text : List UInt8) (h1 : k.leaves.length ≤ 9223372036854775807) (h2 : text.length ≤ 1099511627776) (h3 : 0 < k.leaves.length) :
    signA [.agg [.c (.str k.seed), .msl 6400000 0 k.leaves.length false, .c (.int .i64 k.next)], .c (.sl (bytes text))] [(texts k.leaves).flatten.map .c] = some ⟨[.pv (.c (.str (signS k text).1)), .pv (signS k text).2.1.av, .pv (.c (.int .i64 (signS k text).2.2))], [(texts k.leaves).flatten.map .c]⟩ := by
  unfold signA
  rw [orC_r (C := signC) (mkC_noobj _ _ _)]
  exact signM_at k text h1 h2 h3
theorem sameK_no (xs : List AV) (o : List OV) (os : List (List OV)) : sameKC xs (o :: os) = none := mkC_noobj xs o os
theorem sign_leaves (k : Ky) (text : List UInt8) : (signS k text).2.2 ≠ 0 ∨ ((signS k text).2.2 = 0 ∧ (signS k text).2.1.leaves = k.leaves) := by
  unfold signS
  split
  · split
    · exact .inl (by show (17 : Int) ≠ 0; decide)
    · exact .inr ⟨rfl, rfl⟩
  · exact .inl (by show (9 : Int) ≠ 0; decide)
noncomputable def soC : Contract := mkC (α := Sk) (fun p => p.k.leaves.length ≤ 1048576 ∧ p.text.length ≤ 1048576) (fun p => [p.k.av, .c (.sl (bytes p.text))]) (fun _ => []) (fun _ => ⟨[.pv (.c (.bool true))], []⟩)

set_option maxRecDepth 100000 in
set_option maxHeartbeats 16000000 in
theorem so_sound (hΓ : SoundG Try.prog Γ) (h1 : Γ 12 = alive5C) (h2 : Γ 13 = signA) (h3 : Γ 14 = sameKC) (h4 : Γ 15 = refSigC) (h5 : Γ 16 = num05C) (h6 : Γ 17 = textsC) : SoundC Try.prog 3 soC := by
  refine sound_fnA ⟨[16], []⟩ Try.func3 (by kernel_rfl) rfl rfl ?_
  intro args objs r0 hr
  obtain ⟨⟨⟨seed, leaves, next⟩, text⟩, ⟨hl1, hl2⟩, rfl, rfl, rfl⟩ := mkC_inv hr
  refine ⟨rfl, by show 2 ≤ _; decide, fun E hN hns hF => ?_⟩
  refine vc_sound hΓ mixed _ _ _ ?_
  have hN := hN.trans nt_3
  have hl1 : leaves.length ≤ 1048576 := hl1
  have hl2 : text.length ≤ 1048576 := hl2
  have qa : alive5C [] [] = some ⟨[.pv (.c (.bool true))], []⟩ := rfl
  have hz := rowsOK_texts leaves
  have hT := toPCs_c (texts leaves).flatten
  have hLd := lendS leaves
  have q3 := sameK_at ⟨seed, leaves, next⟩ ⟨seed, leaves, next⟩ (show leaves.length ≤ _ by omega)
  rw [decide_eq_true (rfl : (⟨seed, leaves, next⟩ : Ky) = ⟨seed, leaves, next⟩)] at q3
  have q4 := refSig_at ⟨seed, leaves, next⟩ text (show leaves.length ≤ _ by omega) (by omega)
  have q5 := num05_at
  have qp := signA_p ⟨seed, leaves, next⟩ text (show leaves.length ≤ _ by omega) (by omega)
  have qm := signA_m ⟨seed, leaves, next⟩ text (show leaves.length ≤ _ by omega) (by omega)
  have hsl := sign_leaves ⟨seed, leaves, next⟩ text
  unfold Ky.av at qp qm ⊢
  dsimp only at q3 q4 qp qm hsl ⊢
  generalize (signS ⟨seed, leaves, next⟩ text).1 = sg at *
  generalize (signS ⟨seed, leaves, next⟩ text).2.2 = er at *
  generalize (signS ⟨seed, leaves, next⟩ text).2.1 = nk at *
  obtain ⟨ns, nl, nn⟩ := nk
  dsimp only at qp qm hsl
  refine (Decidable.em (leaves.length = 0)).elim (fun h0 => ?e) (fun h0 => ?f)
  case' e =>
    have h0 : leaves = [] := List.length_eq_zero_iff.1 h0
    have ht0 : texts leaves = [] := by rw [h0]; rfl
    have q2 := qp
    clear qm
    rw [ht0] at q2 q3 q4
    clear qp
    have k1 : decide (0 < leaves.length) = false := by rw [h0]; rfl
    have k2 : (leaves.length * 16 ≤ 140737488355328) = True := eq_true (by omega)
    replace hT : toPCs (([] : List PC).map AV.c) = some [] := rfl
    rw [ht0] at hz ⊢
    simp only [runA, runB, runC, runD, runE, runF, fieldE, storeE, binE, ↓reduceIte, Nat.reduceLT, Nat.reduceLeDiff, Nat.reduceEqDiff, Nat.reduceAdd, Nat.reduceMul, Nat.reduceSub, reduceCtorEq, putAt, unE, Nat.reduceBEq, convE, buildE, List.replicate, Int.reduceLT, Int.reduceLE, Int.reduceToNat, mkE, mapSetE, hN, hF, ty_3, ty_4, ty_5, ty_9, ty_22, ty_24, ty_25, ty_27, notIf, isEq, Option.isSome_some, Option.bind_some, appendM, newLooseE, texts_length, Nat.zero_lt_succ, hT, hLd, sameK_no, callA, argsA, cellsA, c_At, c_E, c_back, callB, lendE, lendC, lendM, scRes, scAV, scPC, scR_texts, h1, qa, h2, q2, h3, q3, h4, q4, h5, q5, h6, hz, k1, k2]
    iterate 2 (try (refine drawnP_intro (by kernel_rfl) (by kernel_rfl) ?_; simp only [runA, runB, runC, runD, runE, runF, fieldE, storeE, binE, ↓reduceIte, Nat.reduceLT, Nat.reduceLeDiff, Nat.reduceEqDiff, Nat.reduceAdd, Nat.reduceMul, Nat.reduceSub, reduceCtorEq, putAt, unE, Nat.reduceBEq, convE, buildE, List.replicate, Int.reduceLT, Int.reduceLE, Int.reduceToNat, mkE, mapSetE, hN, hF, ty_3, ty_4, ty_5, ty_9, ty_22, ty_24, ty_25, ty_27, notIf, isEq, Option.isSome_some, Option.bind_some, appendM, newLooseE, texts_length, Nat.zero_lt_succ, hT, hLd, sameK_no, callA, argsA, cellsA, c_At, c_E, c_back, callB, lendE, lendC, lendM, scRes, scAV, scPC, scR_texts, h1, qa, h2, q2, h3, q3, h4, q4, h5, q5, h6, hz, k1, k2]))
  case' f =>
    have h0 : 0 < leaves.length := by omega
    have q2 := qm h0
    have k1 : decide (0 < leaves.length) = true := decide_eq_true h0
    have k2 : (leaves.length * 16 ≤ 140737488355328) = True := eq_true (by omega)
    simp only [runA, runB, runC, runD, runE, runF, fieldE, storeE, binE, ↓reduceIte, Nat.reduceLT, Nat.reduceLeDiff, Nat.reduceEqDiff, Nat.reduceAdd, Nat.reduceMul, Nat.reduceSub, reduceCtorEq, putAt, unE, Nat.reduceBEq, convE, buildE, List.replicate, Int.reduceLT, Int.reduceLE, Int.reduceToNat, mkE, mapSetE, hN, hF, ty_3, ty_4, ty_5, ty_9, ty_22, ty_24, ty_25, ty_27, notIf, isEq, Option.isSome_some, Option.bind_some, appendM, newLooseE, texts_length, Nat.zero_lt_succ, hT, hLd, sameK_no, callA, argsA, cellsA, c_At, c_E, c_back, callB, lendE, lendC, lendM, scRes, scAV, scPC, scR_texts, h1, qa, h2, q2, h3, q3, h4, q4, h5, q5, h6, hz, k1, k2]
    iterate 2 (try (refine drawnP_intro (by kernel_rfl) (by kernel_rfl) ?_; simp only [runA, runB, runC, runD, runE, runF, fieldE, storeE, binE, ↓reduceIte, Nat.reduceLT, Nat.reduceLeDiff, Nat.reduceEqDiff, Nat.reduceAdd, Nat.reduceMul, Nat.reduceSub, reduceCtorEq, putAt, unE, Nat.reduceBEq, convE, buildE, List.replicate, Int.reduceLT, Int.reduceLE, Int.reduceToNat, mkE, mapSetE, hN, hF, ty_3, ty_4, ty_5, ty_9, ty_22, ty_24, ty_25, ty_27, notIf, isEq, Option.isSome_some, Option.bind_some, appendM, newLooseE, texts_length, Nat.zero_lt_succ, hT, hLd, sameK_no, callA, argsA, cellsA, c_At, c_E, c_back, callB, lendE, lendC, lendM, scRes, scAV, scPC, scR_texts, h1, qa, h2, q2, h3, q3, h4, q4, h5, q5, h6, hz, k1, k2]))
  case' e =>
    refine AWP.loop1 ?_
    refine vc_sound hΓ mixed _ _ _ ?_
    have c0 : decide ((0 : Int) < ((0 : Nat) : Int)) = false := rfl
  case' f =>
    refine AWP.loop (fun c st => ∃ (i : Nat) (rows : List (List PC)), i ≤ leaves.length ∧ c = leaves.length - i ∧ rowsOK 1 rows ∧ rows.length = leaves.length ∧ st = ⟨[(1, .c (.sl (bytes text))), (2, .ptr 128 0), (5, .ptr 320 0), (6, .c (.str sg)), (7, .ptr 448 0), (8, .c (.int .i64 er)), (9, .c (.bool true)), (10, .c (.int .i64 (i : Int)))], [(128, .obj [.c (.str seed), .c (.sl (texts leaves)), .c (.int .i64 next)] false), (320, .obj [.c (.str seed), .msl 1216 0 leaves.length false, .c (.int .i64 next)] false), (448, .obj [.c (.str ns), .c (.sl (texts nl)), .c (.int .i64 nn)] false), (1216, .obj (rows.flatten.map .c) false)]⟩) ⟨leaves.length, _, ?w, 0, texts leaves, Nat.zero_le _, rfl, hz, texts_length leaves, rfl⟩ ?r
  case w =>
    rw [hns]
    simp only [runB, finC, finD, AS.get, AS.mem, false_implies, implies_true, ↓reduceIte, Nat.reduceEqDiff, Option.isSome_some, Option.isSome_none, forall_eq_or_imp, forall_eq, reduceCtorEq, Nat.reduceAdd, Nat.reduceMul, List.zip_cons_cons, List.zip_nil_left, List.zip_nil_right, List.forall_mem_nil, c_amds]
    first | done | simp
  case' r =>
    rintro c st ⟨i, rows, hi, rfl, hro, hrl, rfl⟩
    refine vc_sound hΓ mixed _ _ _ ?_
    have hfl := flat_len hro
    rw [hrl] at hfl
    refine (Decidable.em (i < leaves.length)).elim (fun hlt => ?inn) (fun hlt => ?out)
  case inn =>
    have c0 : decide ((i : Int) < (leaves.length : Int)) = true := decide_eq_true (by omega)
    have hi2 : ((i : Int) < (leaves.length : Int)) = True := eq_true (by omega)
    have hi3 : (i + 1 ≤ leaves.length) = True := eq_true (by omega)
    have e1 : IntKind.i64.wrap ((i : Int) + 1) = (i : Int) + 1 := wrapI (by omega)
    have hput : putAt (rows.flatten.map AV.c) i [.c (.str [115, 112, 111, 105, 108, 116])] = (rows.set i [.str [115, 112, 111, 105, 108, 116]]).flatten.map .c := by
      have := @flat_put 1 (by decide) rows i [.str [115, 112, 111, 105, 108, 116]] hro rfl (by omega)
      rwa [Nat.mul_one] at this
    have hro2 : rowsOK 1 (rows.set i [.str [115, 112, 111, 105, 108, 116]]) := fun r hr => by
      rcases List.mem_or_eq_of_mem_set hr with h | h
      · exact hro r h
      · rw [h]; rfl
    simp only [runA, runB, runC, runD, runE, runF, fieldE, storeE, binE, ↓reduceIte, Nat.reduceLT, Nat.reduceLeDiff, Nat.reduceEqDiff, Nat.reduceAdd, Nat.reduceMul, Nat.reduceSub, reduceCtorEq, unE, Nat.reduceBEq, convE, buildE, List.replicate, Int.reduceLT, Int.reduceLE, Int.reduceToNat, mkE, mapSetE, hN, hF, ty_3, ty_4, ty_5, ty_9, ty_22, ty_24, ty_25, ty_27, notIf, isEq, c0, hi2, hi3, hfl, hput, e1]
    iterate 2 (try (refine drawnP_intro (by kernel_rfl) (by kernel_rfl) ?_; simp only [runA, runB, runC, runD, runE, runF, fieldE, storeE, binE, ↓reduceIte, Nat.reduceLT, Nat.reduceLeDiff, Nat.reduceEqDiff, Nat.reduceAdd, Nat.reduceMul, Nat.reduceSub, reduceCtorEq, unE, Nat.reduceBEq, convE, buildE, List.replicate, Int.reduceLT, Int.reduceLE, Int.reduceToNat, mkE, mapSetE, hN, hF, ty_3, ty_4, ty_5, ty_9, ty_22, ty_24, ty_25, ty_27, notIf, isEq, c0, hi2, hi3, hfl, hput, e1]))
    refine ⟨leaves.length - (i + 1), _, by omega, ?_, i + 1, rows.set i [.str [115, 112, 111, 105, 108, 116]], by omega, rfl, hro2, by rw [List.length_set]; exact hrl, rfl⟩
    rw [hns]
    simp only [runB, finC, finD, AS.get, AS.mem, false_implies, implies_true, ↓reduceIte, Nat.reduceEqDiff, Option.isSome_some, Option.isSome_none, forall_eq_or_imp, forall_eq, reduceCtorEq, Nat.reduceAdd, Nat.reduceMul, List.zip_cons_cons, List.zip_nil_left, List.zip_nil_right, List.forall_mem_nil, c_amds]
    first | done | (simp; done) | (refine ⟨by omega, by simp⟩; done) | (simp; omega) | omega
  case' out =>
    have c0 : decide ((i : Int) < (leaves.length : Int)) = false := decide_eq_false (by omega)
  all_goals
    have bsg : (sg == sg) = true := beq_self_eq_true sg
    have ber : (er == er) = true := beq_self_eq_true er
    refine hsl.elim (fun hh => ?_) (fun hh => ?_)
    · have b0 : (er != 0) = true := by simpa using hh
      simp only [runA, runB, runC, runD, runE, runF, fieldE, storeE, binE, ↓reduceIte, Nat.reduceLT, Nat.reduceLeDiff, Nat.reduceEqDiff, Nat.reduceAdd, Nat.reduceMul, Nat.reduceSub, reduceCtorEq, putAt, unE, Nat.reduceBEq, convE, buildE, List.replicate, Int.reduceLT, Int.reduceLE, Int.reduceToNat, mkE, mapSetE, hN, hF, ty_3, ty_4, ty_5, ty_9, ty_22, ty_24, ty_25, ty_27, notIf, isEq, Option.isSome_some, Option.bind_some, appendM, newLooseE, texts_length, Nat.zero_lt_succ, hT, hLd, sameK_no, callA, argsA, cellsA, c_At, c_E, c_back, callB, lendE, lendC, lendM, scRes, scAV, scPC, scR_texts, h1, qa, h2, q2, h3, q3, h4, q4, h5, q5, h6, c0, bsg, ber, b0]
      iterate 2 (try (refine drawnP_intro (by kernel_rfl) (by kernel_rfl) ?_; simp only [runA, runB, runC, runD, runE, runF, fieldE, storeE, binE, ↓reduceIte, Nat.reduceLT, Nat.reduceLeDiff, Nat.reduceEqDiff, Nat.reduceAdd, Nat.reduceMul, Nat.reduceSub, reduceCtorEq, putAt, unE, Nat.reduceBEq, convE, buildE, List.replicate, Int.reduceLT, Int.reduceLE, Int.reduceToNat, mkE, mapSetE, hN, hF, ty_3, ty_4, ty_5, ty_9, ty_22, ty_24, ty_25, ty_27, notIf, isEq, Option.isSome_some, Option.bind_some, appendM, newLooseE, texts_length, Nat.zero_lt_succ, hT, hLd, sameK_no, callA, argsA, cellsA, c_At, c_E, c_back, callB, lendE, lendC, lendM, scRes, scAV, scPC, scR_texts, h1, qa, h2, q2, h3, q3, h4, q4, h5, q5, h6, c0, bsg, ber, b0]))
      simp only [runB, finC, finD, Option.isSome_some, Option.isSome_none, ↓reduceIte, Nat.reduceEqDiff, Nat.reduceAdd, Nat.reduceMul, forall_eq_or_imp, forall_eq, implies_true, Nat.reduceBEq, reduceCtorEq, false_implies, List.zip_cons_cons, List.zip_nil_left, List.zip_nil_right, Nat.reduceLeDiff, List.forall_mem_nil, rs_3]
    · obtain ⟨her, hnl⟩ := hh
      subst hnl
      have b0 : (er != 0) = false := by rw [her]; rfl
      have q6 := texts_at nl nl (by omega)
      rw [decide_eq_true (rfl : nl = nl)] at q6
      try rw [ht0] at q6
      try rw [ht0]
      simp only [runA, runB, runC, runD, runE, runF, fieldE, storeE, binE, ↓reduceIte, Nat.reduceLT, Nat.reduceLeDiff, Nat.reduceEqDiff, Nat.reduceAdd, Nat.reduceMul, Nat.reduceSub, reduceCtorEq, putAt, unE, Nat.reduceBEq, convE, buildE, List.replicate, Int.reduceLT, Int.reduceLE, Int.reduceToNat, mkE, mapSetE, hN, hF, ty_3, ty_4, ty_5, ty_9, ty_22, ty_24, ty_25, ty_27, notIf, isEq, Option.isSome_some, Option.bind_some, appendM, newLooseE, texts_length, Nat.zero_lt_succ, hT, hLd, sameK_no, callA, argsA, cellsA, c_At, c_E, c_back, callB, lendE, lendC, lendM, scRes, scAV, scPC, scR_texts, h1, qa, h2, q2, h3, q3, h4, q4, h5, q5, h6, c0, bsg, ber, b0, q6]
      iterate 2 (try (refine drawnP_intro (by kernel_rfl) (by kernel_rfl) ?_; simp only [runA, runB, runC, runD, runE, runF, fieldE, storeE, binE, ↓reduceIte, Nat.reduceLT, Nat.reduceLeDiff, Nat.reduceEqDiff, Nat.reduceAdd, Nat.reduceMul, Nat.reduceSub, reduceCtorEq, putAt, unE, Nat.reduceBEq, convE, buildE, List.replicate, Int.reduceLT, Int.reduceLE, Int.reduceToNat, mkE, mapSetE, hN, hF, ty_3, ty_4, ty_5, ty_9, ty_22, ty_24, ty_25, ty_27, notIf, isEq, Option.isSome_some, Option.bind_some, appendM, newLooseE, texts_length, Nat.zero_lt_succ, hT, hLd, sameK_no, callA, argsA, cellsA, c_At, c_E, c_back, callB, lendE, lendC, lendM, scRes, scAV, scPC, scR_texts, h1, qa, h2, q2, h3, q3, h4, q4, h5, q5, h6, c0, bsg, ber, b0, q6]))
      simp only [runB, finC, finD, Option.isSome_some, Option.isSome_none, ↓reduceIte, Nat.reduceEqDiff, Nat.reduceAdd, Nat.reduceMul, forall_eq_or_imp, forall_eq, implies_true, Nat.reduceBEq, reduceCtorEq, false_implies, List.zip_cons_cons, List.zip_nil_left, List.zip_nil_right, Nat.reduceLeDiff, List.forall_mem_nil, rs_3]

end Go.Proofs.Ytldehcnaepgamaa.AM
