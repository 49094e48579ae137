/-
  QF: Sn4 Sn5 Sn6 Sn7 Sn8 SbA SbB Sn9 SbC.
-/
import Derived.Test.YtenmlgalcjkdbaaGreatQD
import Derived.Test.YtenmlgalcjkdbaaGreatQC
import Derived.Test.YtenmlgalcjkdbaaGreatQE
import Derived.Test.YtenmlgalcjkdbaaGreatQP
set_option linter.unusedVariables false
set_option linter.unusedSimpArgs false
namespace Go.Proofs.YtenmlgalcjkdbaaGreat.AM
open Go

variable {Γ : FuncId → Contract}

structure Ky where
  seed : List UInt8
  leaves : List (List UInt8)
  next : Int
  deriving DecidableEq
def okN16 (n : Nat) : Prop := n = 1 ∨ n = 2 ∨ n = 4 ∨ n = 8 ∨ n = 16
instance (n : Nat) : Decidable (okN16 n) := inferInstanceAs (Decidable (_ ∨ _))
def goodK (k : Ky) : Prop := k.seed.length ≤ 64 ∧ okN16 k.leaves.length ∧ all8 k.leaves ∧ 0 ≤ k.next ∧ k.next ≤ (k.leaves.length : Int)
instance (k : Ky) : Decidable (goodK k) := inferInstanceAs (Decidable (_ ∧ _))

variable {Γ : FuncId → Contract}

def sizeS (h : Int) : Int := if h < 0 ∨ 4 < h then 0 else 90 + 8 * h
noncomputable def sizeGC : Contract := mkC (α := Int) (fun _ => True) (fun h => [.c (.int .i64 h)]) (fun _ => []) (fun h => ⟨[.pv (.c (.int .i64 (sizeS h)))], []⟩)
theorem sizeG_at (n : Int) : sizeGC [.c (.int .i64 n)] [] = some ⟨[.pv (.c (.int .i64 (sizeS n)))], []⟩ :=
  mkC_at (α := Int) n trivial (by
    rintro m _ h _
    simp only [List.cons.injEq, AV.c.injEq, PC.int.injEq, true_and, and_true] at h
    rw [h])
set_option maxHeartbeats 1000000 in
theorem sizeG_sound : SoundC Tryz.prog 164 sizeGC := by
  refine sound_fn Tryz.func164 (by kernel_rfl) rfl rfl ?_
  intro args objs r hr
  obtain ⟨n, _, rfl, rfl, rfl⟩ := mkC_inv hr
  refine ⟨rfl, by show 1 ≤ _; decide, fun E hN hns hF => ?_⟩
  refine vc_sound none0_sound mixed _ _ _ ?_
  have hN := hN.trans nt_164
  by_cases c1 : n < 0
  · have g1 : decide (n < 0) = true := by simpa using c1
    have hS : sizeS n = 0 := if_pos (.inl c1)
    simp only [runA, runB, runC, runD, runE, runF, fieldE, storeE, binE, ↓reduceIte, Nat.reduceLT, Nat.reduceLeDiff, Nat.reduceEqDiff, Nat.reduceAdd, Nat.reduceMul, Nat.reduceSub, reduceCtorEq, putAt, unE, Nat.reduceBEq, convE, buildE, List.replicate, Int.reduceLT, Int.reduceLE, Int.reduceToNat, mkE, mapSetE, hN, hF, ty_3, notIf, isEq, g1]
    simp only [runB, finC, finD, Option.isSome_some, Option.isSome_none, ↓reduceIte, Nat.reduceEqDiff, Nat.reduceAdd, Nat.reduceMul, forall_eq_or_imp, forall_eq, implies_true, Nat.reduceBEq, reduceCtorEq, false_implies, List.zip_cons_cons, List.zip_nil_left, List.zip_nil_right, Nat.reduceLeDiff, List.forall_mem_nil, rs_164, hS]
  have g1 : decide (n < 0) = false := by simpa using c1
  by_cases c2 : 4 < n
  · have g2 : decide (n > 4) = true := by simpa using c2
    have hS : sizeS n = 0 := if_pos (.inr c2)
    simp only [runA, runB, runC, runD, runE, runF, fieldE, storeE, binE, ↓reduceIte, Nat.reduceLT, Nat.reduceLeDiff, Nat.reduceEqDiff, Nat.reduceAdd, Nat.reduceMul, Nat.reduceSub, reduceCtorEq, putAt, unE, Nat.reduceBEq, convE, buildE, List.replicate, Int.reduceLT, Int.reduceLE, Int.reduceToNat, mkE, mapSetE, hN, hF, ty_3, notIf, isEq, g1, g2]
    simp only [runB, finC, finD, Option.isSome_some, Option.isSome_none, ↓reduceIte, Nat.reduceEqDiff, Nat.reduceAdd, Nat.reduceMul, forall_eq_or_imp, forall_eq, implies_true, Nat.reduceBEq, reduceCtorEq, false_implies, List.zip_cons_cons, List.zip_nil_left, List.zip_nil_right, Nat.reduceLeDiff, List.forall_mem_nil, rs_164, hS]
  have g2 : decide (n > 4) = false := by simpa using c2
  have hS : sizeS n = 90 + 8 * n := if_neg (by omega)
  have e1 : IntKind.i64.wrap (11 + n) = 11 + n := wrapI (by omega)
  have e2 : IntKind.i64.wrap (8 * (11 + n)) = 8 * (11 + n) := wrapI (by omega)
  have e3 : IntKind.i64.wrap (2 + 8 * (11 + n)) = 90 + 8 * n := by rw [wrapI (by omega)]; omega
  simp only [runA, runB, runC, runD, runE, runF, fieldE, storeE, binE, ↓reduceIte, Nat.reduceLT, Nat.reduceLeDiff, Nat.reduceEqDiff, Nat.reduceAdd, Nat.reduceMul, Nat.reduceSub, reduceCtorEq, putAt, unE, Nat.reduceBEq, convE, buildE, List.replicate, Int.reduceLT, Int.reduceLE, Int.reduceToNat, mkE, mapSetE, hN, hF, ty_3, notIf, isEq, g1, g2, e1, e2, e3]
  simp only [runB, finC, finD, Option.isSome_some, Option.isSome_none, ↓reduceIte, Nat.reduceEqDiff, Nat.reduceAdd, Nat.reduceMul, forall_eq_or_imp, forall_eq, implies_true, Nat.reduceBEq, reduceCtorEq, false_implies, List.zip_cons_cons, List.zip_nil_left, List.zip_nil_right, Nat.reduceLeDiff, List.forall_mem_nil, rs_164, hS]


variable {Γ : FuncId → Contract}


variable {Γ : FuncId → Contract}

structure Sk where
  k : Ky
  text : List UInt8

variable {Γ : FuncId → Contract}


/-- So many texts of eight octets. -/
def chk (s : List UInt8) (m : Nat) : List (List UInt8) := (List.range m).map fun i : Nat => (s.drop (8 * i)).take 8
theorem chk_length (s : List UInt8) (m : Nat) : (chk s m).length = m := by simp [chk]
theorem chk_succ (s : List UInt8) (m : Nat) : chk s (m + 1) = chk s m ++ [(s.drop (8 * m)).take 8] := by simp [chk, List.range_succ]
noncomputable def verS (root : List UInt8) (h : Int) (text sig : List UInt8) : Int × Bool :=
  if sizeS h = 0 ∨ (sig.length : Int) ≠ sizeS h then (0, false)
  else if getB (sig.take 2) ≥ ((2 ^ h.toNat : Nat) : Int) ∨ climbS (opnS text ((chk (sig.drop 2) (11 + h.toNat)).take 11)) (getB (sig.take 2)).toNat ((chk (sig.drop 2) (11 + h.toNat)).drop 11) ≠ root then (0, false)
  else (getB (sig.take 2), true)

variable {Γ : FuncId → Contract}

noncomputable def chkC : Contract := mkC (α := List UInt8) (fun s => s.length ≤ 1000000) (fun s => [.c (.str s)]) (fun _ => []) (fun s => ⟨[.fresh 1 (texts (chk s (s.length / 8)))], []⟩)
theorem chk_at (s : List UInt8) (h : s.length ≤ 1000000) : chkC [.c (.str s)] [] = some ⟨[.fresh 1 (texts (chk s (s.length / 8)))], []⟩ :=
  mkC_at (α := List UInt8) s h (by
    rintro y _ h _
    simp only [List.cons.injEq, AV.c.injEq, PC.str.injEq, and_true] at h
    rw [h])

set_option maxRecDepth 100000 in
set_option maxHeartbeats 1000000 in
theorem chk_sound : SoundC Tryz.prog 165 chkC := by
  refine sound_fn Tryz.func165 (by kernel_rfl) rfl rfl ?_
  intro args objs r hr
  obtain ⟨s, hl, rfl, rfl, rfl⟩ := mkC_inv hr
  have hl : s.length ≤ 1000000 := hl
  refine ⟨rfl, by show 1 ≤ _; decide, fun E hN hns hF => ?_⟩
  refine vc_sound none0_sound mixed _ _ _ ?_
  have hN := hN.trans nt_165
  simp only [runA, runB, runC, runD, runE, runF, fieldE, storeE, binE, ↓reduceIte, Nat.reduceLT, Nat.reduceLeDiff, Nat.reduceEqDiff, Nat.reduceAdd, Nat.reduceMul, Nat.reduceSub, reduceCtorEq, putAt, unE, Nat.reduceBEq, convE, buildE, List.replicate, Int.reduceLT, Int.reduceLE, Int.reduceToNat, mkE, mapSetE, hN, hF, ty_3, ty_9, ty_24, notIf, isEq]
  refine AWP.loop (fun k st => ∃ i : Nat, i ≤ s.length / 8 ∧ k = s.length / 8 - i ∧ st = ⟨[(0, .c (.str (s.drop (8 * i)))), (3, .own 833 1 (texts (chk s i)))], [(833, .row 1 i)]⟩) ⟨s.length / 8, _, ?w, 0, Nat.zero_le _, rfl, rfl⟩ ?r
  case w =>
    rw [hns]
    simp only [runB, finC, finD, AS.get, AS.mem, false_implies, implies_true, ↓reduceIte, Nat.reduceEqDiff, Option.isSome_some, Option.isSome_none, forall_eq_or_imp, forall_eq, reduceCtorEq, Nat.reduceAdd, Nat.reduceMul, List.zip_cons_cons, List.zip_nil_left, List.zip_nil_right, List.forall_mem_nil]
    first | done | simp [chk, texts]
  case r =>
    rintro k st ⟨i, hi, rfl, rfl⟩
    refine vc_sound none0_sound mixed _ _ _ ?_
    have hul : (s.drop (8 * i)).length = s.length - 8 * i := List.length_drop
    by_cases hlt : i < s.length / 8
    · have k1 : decide (((s.drop (8 * i)).length : Int) ≥ 8) = true := by simp only [hul, decide_eq_true_eq, ge_iff_le]; omega
      have hdd : (s.drop (8 * i)).drop 8 = s.drop (8 * (i + 1)) := by rw [List.drop_drop, show 8 * i + 8 = 8 * (i + 1) from by omega]
      have hsucc := chk_succ s i
      have hcl := chk_length s i
      have hz := rowsOK_texts
      have hL : ((i + 1) * 16 ≤ 140737488355328) = True := eq_true (by omega)
      have c1 : (((0 : Nat) : Int) ≤ 8) = True := eq_true (by decide)
      have c3 : ((0 : Int) ≤ 8) = True := eq_true (by decide)
      have c2 : ((8 : Int) ≤ ((s.drop (8 * i)).length : Int)) = True := eq_true (by omega)
      have ht : (s.drop (8 * i)).take (s.drop (8 * i)).length = s.drop (8 * i) := List.take_length
      generalize s.drop (8 * i) = u at k1 hdd hsucc c2 ht ⊢
      simp only [runA, runB, runC, runD, runE, runF, fieldE, storeE, binE, ↓reduceIte, Nat.reduceLT, Nat.reduceLeDiff, Nat.reduceEqDiff, Nat.reduceAdd, Nat.reduceMul, Nat.reduceSub, reduceCtorEq, putAt, unE, Nat.reduceBEq, convE, buildE, List.replicate, Int.reduceLT, Int.reduceLE, Int.reduceToNat, mkE, mapSetE, hN, hF, ty_3, ty_9, ty_24, notIf, isEq, sliceE, boundE, k1, c1, c2, c3, Int.le_refl, List.drop_zero, ht, hdd, texts1, texts_app, ← hsucc, hz, hL, texts_length, hcl]
      refine ⟨s.length / 8 - (i + 1), _, by omega, ?_, i + 1, by omega, rfl, rfl⟩
      rw [hns]
      simp only [runB, finC, finD, AS.get, AS.mem, false_implies, implies_true, ↓reduceIte, Nat.reduceEqDiff, Option.isSome_some, Option.isSome_none, forall_eq_or_imp, forall_eq, reduceCtorEq, Nat.reduceAdd, Nat.reduceMul, List.zip_cons_cons, List.zip_nil_left, List.zip_nil_right, List.forall_mem_nil]
      first | done | simp
    · have k1 : decide (((s.drop (8 * i)).length : Int) ≥ 8) = false := by simp only [hul, decide_eq_false_iff_not, ge_iff_le]; omega
      obtain rfl : i = s.length / 8 := by omega
      have hcl := chk_length s (s.length / 8)
      simp only [runA, runB, runC, runD, runE, runF, fieldE, storeE, binE, ↓reduceIte, Nat.reduceLT, Nat.reduceLeDiff, Nat.reduceEqDiff, Nat.reduceAdd, Nat.reduceMul, Nat.reduceSub, reduceCtorEq, putAt, unE, Nat.reduceBEq, convE, buildE, List.replicate, Int.reduceLT, Int.reduceLE, Int.reduceToNat, mkE, mapSetE, hN, hF, ty_3, ty_9, ty_24, notIf, isEq, k1]
      simp only [runB, finC, finD, Option.isSome_some, Option.isSome_none, ↓reduceIte, Nat.reduceEqDiff, Nat.reduceAdd, Nat.reduceMul, forall_eq_or_imp, forall_eq, implies_true, Nat.reduceBEq, reduceCtorEq, false_implies, List.zip_cons_cons, List.zip_nil_left, List.zip_nil_right, Nat.reduceLeDiff, List.forall_mem_nil, rs_165, texts_length, hcl]

structure Sv where
  root : List UInt8
  h : Int
  text : List UInt8
  sig : List UInt8
noncomputable def sverC : Contract := mkC (α := Sv) (fun p => p.text.length ≤ 1099511627776) (fun p => [.c (.str p.root), .c (.int .i64 p.h), .c (.sl (bytes p.text)), .c (.str p.sig)]) (fun _ => []) (fun p => ⟨[.pv (.c (.int .i64 (verS p.root p.h p.text p.sig).1)), .pv (.c (.bool (verS p.root p.h p.text p.sig).2))], []⟩)
theorem sver_at (root : List UInt8) (h : Int) (text sig : List UInt8) (ht : text.length ≤ 1099511627776) : sverC [.c (.str root), .c (.int .i64 h), .c (.sl (bytes text)), .c (.str sig)] [] = some ⟨[.pv (.c (.int .i64 (verS root h text sig).1)), .pv (.c (.bool (verS root h text sig).2))], []⟩ :=
  mkC_at (α := Sv) ⟨root, h, text, sig⟩ ht (by
    rintro ⟨a, b, c, d⟩ _ h _
    simp only [List.cons.injEq, AV.c.injEq, PC.int.injEq, PC.str.injEq, PC.sl.injEq, true_and, and_true] at h
    obtain ⟨rfl, rfl, h, rfl⟩ := h
    rw [bytes_inj h])
theorem texts_takeS (l : List (List UInt8)) (n : Nat) : (texts l).take n = texts (l.take n) := by simp [texts, List.map_take]
theorem texts_dropS (l : List (List UInt8)) (n : Nat) : (texts l).drop n = texts (l.drop n) := by simp [texts, List.map_drop]
theorem getB_lt (l : List UInt8) : getB l < 4611686018427387904 := by
  have : ∀ (l : List UInt8) (u : Nat), u < 4611686018427387904 → l.foldl (fun (u : Nat) c => (u * 256 + c.toNat) % 4611686018427387904) u < 4611686018427387904 := by
    intro l
    induction l with
    | nil => intro u h; exact h
    | cons c l ih => intro u h; exact ih _ (Nat.mod_lt _ (by decide))
  have h := this l 0 (by decide)
  unfold getB
  omega
theorem opnS_le (text : List UInt8) (l : List (List UInt8)) : (opnS text l).length ≤ 8 := by
  unfold opnS
  split
  · rw [shortS_length]; decide
  · simp
theorem chk_ok (s : List UInt8) (n : Nat) (hn : n ≤ 1000) : Okl ((chk s n).drop 11) := by
  refine ⟨by rw [List.length_drop, chk_length]; omega, fun x hx => ?_⟩
  have hx := List.mem_of_mem_drop hx
  simp only [chk, List.mem_map] at hx
  obtain ⟨i, _, rfl⟩ := hx
  rw [List.length_take]; omega

set_option maxRecDepth 100000 in
set_option maxHeartbeats 4000000 in
theorem sver_sound (hΓ : SoundG Tryz.prog Γ) (h1 : Γ 164 = sizeGC) (h2 : Γ 113 = getC) (h3 : Γ 165 = chkC) (h4 : Γ 167 = opnC) (h5 : Γ 166 = climbC) : SoundC Tryz.prog 119 sverC := by
  refine sound_fn Tryz.func119 (by kernel_rfl) rfl rfl ?_
  intro args objs r hr
  obtain ⟨⟨root, h, text, sig⟩, hl, rfl, rfl, rfl⟩ := mkC_inv hr
  have hl : text.length ≤ 1099511627776 := hl
  refine ⟨rfl, by show 4 ≤ _; decide, fun E hN hns hF => ?_⟩
  refine vc_sound hΓ mixed _ _ _ ?_
  have hN := hN.trans nt_119
  have q1 := sizeG_at h
  dsimp only
  by_cases c1 : (sig.length : Int) = sizeS h
  case neg =>
    have g1 : ((sig.length : Int) != sizeS h) = true := by rw [bne_iff_ne]; exact c1
    have hS : verS root h text sig = (0, false) := if_pos (.inr c1)
    rw [hS]
    simp only [runA, runB, runC, runD, runE, runF, fieldE, storeE, binE, ↓reduceIte, Nat.reduceLT, Nat.reduceLeDiff, Nat.reduceEqDiff, Nat.reduceAdd, Nat.reduceMul, Nat.reduceSub, reduceCtorEq, putAt, unE, Nat.reduceBEq, convE, buildE, List.replicate, Int.reduceLT, Int.reduceLE, Int.reduceToNat, mkE, mapSetE, hN, hF, ty_3, ty_4, ty_5, ty_9, ty_24, ty_47, notIf, isEq, h1, q1, g1]
    simp only [runB, finC, finD, Option.isSome_some, Option.isSome_none, ↓reduceIte, Nat.reduceEqDiff, Nat.reduceAdd, Nat.reduceMul, forall_eq_or_imp, forall_eq, implies_true, Nat.reduceBEq, reduceCtorEq, false_implies, List.zip_cons_cons, List.zip_nil_left, List.zip_nil_right, Nat.reduceLeDiff, List.forall_mem_nil, rs_119]
  have g1 : ((sig.length : Int) != sizeS h) = false := by rw [c1, bne_self_eq_false]
  by_cases c2 : sizeS h = 0
  case pos =>
    have hs0 : sig = [] := by
      rw [c2] at c1
      exact List.length_eq_zero_iff.1 (by omega)
    have hS : verS root h text sig = (0, false) := if_pos (.inl c2)
    rw [hS]
    subst hs0
    have g0 : (((0 : Nat) : Int) != sizeS h) = false := g1
    simp only [runA, runB, runC, runD, runE, runF, fieldE, storeE, binE, ↓reduceIte, Nat.reduceLT, Nat.reduceLeDiff, Nat.reduceEqDiff, Nat.reduceAdd, Nat.reduceMul, Nat.reduceSub, reduceCtorEq, putAt, unE, Nat.reduceBEq, convE, buildE, List.replicate, Int.reduceLT, Int.reduceLE, Int.reduceToNat, mkE, mapSetE, hN, hF, ty_3, ty_4, ty_5, ty_9, ty_24, ty_47, notIf, isEq, h1, q1, g0]
    simp only [runB, finC, finD, Option.isSome_some, Option.isSome_none, ↓reduceIte, Nat.reduceEqDiff, Nat.reduceAdd, Nat.reduceMul, forall_eq_or_imp, forall_eq, implies_true, Nat.reduceBEq, reduceCtorEq, false_implies, List.zip_cons_cons, List.zip_nil_left, List.zip_nil_right, Nat.reduceLeDiff, List.forall_mem_nil, rs_119]
  have hh : 0 ≤ h ∧ h ≤ 4 ∧ sizeS h = 90 + 8 * h := by
    unfold sizeS at c2 ⊢
    split at c2
    · exact absurd rfl c2
    · rename_i hc
      rw [if_neg hc]
      omega
  obtain ⟨hh0, hh4, hhs⟩ := hh
  obtain ⟨H, rfl⟩ : ∃ H : Nat, h = (H : Int) := ⟨h.toNat, by omega⟩
  have hH : H ≤ 4 := by omega
  have hsl : sig.length = 90 + 8 * H := by omega
  have hne : (sig == []) = false := by
    rw [beq_eq_false_iff_ne]
    intro e
    rw [e] at hsl
    simp at hsl
    omega
  have d1 : ((0 : Int) ≤ 2) = True := eq_true (by decide)
  have d2 : ((2 : Int) ≤ (sig.length : Int)) = True := eq_true (by omega)
  have ht2 : (sig.take 2).length = 2 := by rw [List.length_take]; omega
  have hdl : (sig.drop 2).length = 88 + 8 * H := by rw [List.length_drop]; omega
  have q2 : getC [.c (.sl (bytes (sig.take 2)))] [] = some ⟨[.pv (.c (.int .i64 (getB (sig.take 2))))], []⟩ := by
    have : (sig.take 2).length ≤ 9223372036854775807 := by omega
    simp only [getC, asB_bytes, this, if_true]
  have q3 := chk_at (sig.drop 2) (by omega)
  rw [hdl, show (88 + 8 * H) / 8 = 11 + H from by omega] at q3
  have hcl := chk_length (sig.drop 2) (11 + H)
  have hok := chk_ok (sig.drop 2) (11 + H) (by omega)
  have hgl := getB_lt (sig.take 2)
  have hg0 := getB_nonneg (sig.take 2)
  have e1 := shl_pow H hH
  have hV : verS root (H : Int) text sig = if getB (sig.take 2) ≥ ((2 ^ H : Nat) : Int) ∨ climbS (opnS text ((chk (sig.drop 2) (11 + H)).take 11)) (getB (sig.take 2)).toNat ((chk (sig.drop 2) (11 + H)).drop 11) ≠ root then (0, false) else (getB (sig.take 2), true) := by
    unfold verS
    rw [if_neg (by rw [hhs]; omega), Int.toNat_natCast]
  rw [hV]
  have htl : sig.take sig.length = sig := List.take_length
  generalize chk (sig.drop 2) (11 + H) = L at q3 hcl hok ⊢
  generalize hsd : sig.drop 2 = sd at q3 hdl ⊢
  generalize hs2 : sig.take 2 = s2 at q2 ht2 hgl hg0 ⊢
  generalize getB s2 = lf at q2 hgl hg0 ⊢
  have hz := rowsOK_texts
  have d3 : ((0 : Int) ≤ 11) = True := eq_true (by decide)
  have d4 : ((11 : Int) ≤ ((11 + H : Nat) : Int)) = True := eq_true (by omega)
  have htk : (texts L).take (11 + H) = texts L := by rw [← hcl, ← texts_length L, List.take_length]
  have htt := texts_takeS L 11
  have htd := texts_dropS L 11
  have q4 := opn_at text (L.take 11) hl
  have q5 := climb_at (opnS text (L.take 11)) lf (L.drop 11) ⟨Nat.le_trans (opnS_le _ _) (by decide), by show lf < _; omega, hok⟩
  rw [show (max lf 0) = lf from by omega] at q5
  have d1' : (((0 : Nat) : Int) ≤ 2) = True := eq_true (by decide)
  have d3' : (((0 : Nat) : Int) ≤ 11) = True := eq_true (by decide)
  by_cases c3 : lf ≥ ((2 ^ H : Nat) : Int)
  · have g3 : decide (lf ≥ ((2 ^ H : Nat) : Int)) = true := by simpa using c3
    rw [if_pos (.inl c3)]
    simp only [runA, runB, runC, runD, runE, runF, fieldE, storeE, binE, ↓reduceIte, Nat.reduceLT, Nat.reduceLeDiff, Nat.reduceEqDiff, Nat.reduceAdd, Nat.reduceMul, Nat.reduceSub, reduceCtorEq, putAt, unE, Nat.reduceBEq, convE, buildE, List.replicate, Int.reduceLT, Int.reduceLE, Int.reduceToNat, mkE, mapSetE, hN, hF, ty_3, ty_4, ty_5, ty_9, ty_24, ty_47, notIf, isEq, sliceE, boundE, Int.le_refl, List.drop_zero, h1, q1, g1, hne, d1, d1', d2, hs2, hsd, htl, h2, q2, h3, q3, e1, g3]
    refine drawnP_intro (by kernel_rfl) (by kernel_rfl) ?_
    simp only [runA, runB, runC, runD, runE, runF, fieldE, storeE, binE, ↓reduceIte, Nat.reduceLT, Nat.reduceLeDiff, Nat.reduceEqDiff, Nat.reduceAdd, Nat.reduceMul, Nat.reduceSub, reduceCtorEq, putAt, unE, Nat.reduceBEq, convE, buildE, List.replicate, Int.reduceLT, Int.reduceLE, Int.reduceToNat, mkE, mapSetE, hN, hF, ty_3, ty_4, ty_5, ty_9, ty_24, ty_47, notIf, isEq]
    simp only [runB, finC, finD, Option.isSome_some, Option.isSome_none, ↓reduceIte, Nat.reduceEqDiff, Nat.reduceAdd, Nat.reduceMul, forall_eq_or_imp, forall_eq, implies_true, Nat.reduceBEq, reduceCtorEq, false_implies, List.zip_cons_cons, List.zip_nil_left, List.zip_nil_right, Nat.reduceLeDiff, List.forall_mem_nil, rs_119]
  have g3 : decide (lf ≥ ((2 ^ H : Nat) : Int)) = false := by simpa using c3
  generalize climbS (opnS text (L.take 11)) lf.toNat (L.drop 11) = rt at q5 ⊢
  generalize opnS text (L.take 11) = op at q4 q5
  by_cases c4 : rt = root
  · have g4 : (rt == root) = true := by simpa using c4
    rw [if_neg (by rintro (h | h); exact c3 h; exact h c4)]
    simp only [runA, runB, runC, runD, runE, runF, fieldE, storeE, binE, ↓reduceIte, Nat.reduceLT, Nat.reduceLeDiff, Nat.reduceEqDiff, Nat.reduceAdd, Nat.reduceMul, Nat.reduceSub, reduceCtorEq, putAt, unE, Nat.reduceBEq, convE, buildE, List.replicate, Int.reduceLT, Int.reduceLE, Int.reduceToNat, mkE, mapSetE, hN, hF, ty_3, ty_4, ty_5, ty_9, ty_24, ty_47, notIf, isEq, sliceE, boundE, Int.le_refl, List.drop_zero, h1, q1, g1, hne, d1, d1', d2, d3, d3', d4, hs2, hsd, htl, h2, q2, h3, q3, e1, g3, hz, texts_length, hcl, htt, htd, htk, h4, q4, h5, q5, g4]
    refine drawnP_intro (by kernel_rfl) (by kernel_rfl) ?_
    simp only [runA, runB, runC, runD, runE, runF, fieldE, storeE, binE, ↓reduceIte, Nat.reduceLT, Nat.reduceLeDiff, Nat.reduceEqDiff, Nat.reduceAdd, Nat.reduceMul, Nat.reduceSub, reduceCtorEq, putAt, unE, Nat.reduceBEq, convE, buildE, List.replicate, Int.reduceLT, Int.reduceLE, Int.reduceToNat, mkE, mapSetE, hN, hF, ty_3, ty_4, ty_5, ty_9, ty_24, ty_47, notIf, isEq]
    simp only [runB, finC, finD, Option.isSome_some, Option.isSome_none, ↓reduceIte, Nat.reduceEqDiff, Nat.reduceAdd, Nat.reduceMul, forall_eq_or_imp, forall_eq, implies_true, Nat.reduceBEq, reduceCtorEq, false_implies, List.zip_cons_cons, List.zip_nil_left, List.zip_nil_right, Nat.reduceLeDiff, List.forall_mem_nil, rs_119]
  · have g4 : (rt == root) = false := by simpa using c4
    rw [if_pos (.inr c4)]
    simp only [runA, runB, runC, runD, runE, runF, fieldE, storeE, binE, ↓reduceIte, Nat.reduceLT, Nat.reduceLeDiff, Nat.reduceEqDiff, Nat.reduceAdd, Nat.reduceMul, Nat.reduceSub, reduceCtorEq, putAt, unE, Nat.reduceBEq, convE, buildE, List.replicate, Int.reduceLT, Int.reduceLE, Int.reduceToNat, mkE, mapSetE, hN, hF, ty_3, ty_4, ty_5, ty_9, ty_24, ty_47, notIf, isEq, sliceE, boundE, Int.le_refl, List.drop_zero, h1, q1, g1, hne, d1, d1', d2, d3, d3', d4, hs2, hsd, htl, h2, q2, h3, q3, e1, g3, hz, texts_length, hcl, htt, htd, htk, h4, q4, h5, q5, g4]
    refine drawnP_intro (by kernel_rfl) (by kernel_rfl) ?_
    simp only [runA, runB, runC, runD, runE, runF, fieldE, storeE, binE, ↓reduceIte, Nat.reduceLT, Nat.reduceLeDiff, Nat.reduceEqDiff, Nat.reduceAdd, Nat.reduceMul, Nat.reduceSub, reduceCtorEq, putAt, unE, Nat.reduceBEq, convE, buildE, List.replicate, Int.reduceLT, Int.reduceLE, Int.reduceToNat, mkE, mapSetE, hN, hF, ty_3, ty_4, ty_5, ty_9, ty_24, ty_47, notIf, isEq]
    simp only [runB, finC, finD, Option.isSome_some, Option.isSome_none, ↓reduceIte, Nat.reduceEqDiff, Nat.reduceAdd, Nat.reduceMul, forall_eq_or_imp, forall_eq, implies_true, Nat.reduceBEq, reduceCtorEq, false_implies, List.zip_cons_cons, List.zip_nil_left, List.zip_nil_right, Nat.reduceLeDiff, List.forall_mem_nil, rs_119]


variable {Γ : FuncId → Contract}

structure Tl where
  k : Ky
  text : List UInt8
  h : Int

variable {Γ : FuncId → Contract}

structure Bk where
  seed : List UInt8
  h : Int
  l : List (List UInt8)
end Go.Proofs.YtenmlgalcjkdbaaGreat.AM
