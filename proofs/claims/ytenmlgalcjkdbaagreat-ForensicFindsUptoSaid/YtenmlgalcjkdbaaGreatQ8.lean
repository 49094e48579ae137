/-
  Q8: Ta Tx1 Tx2 Bk0 Bk1 Bk2.
-/
import Derived.Test.YtenmlgalcjkdbaaGreatQP
import Derived.Test.YtenmlgalcjkdbaaGreatQ7
set_option linter.unusedVariables false
set_option linter.unusedSimpArgs false
namespace Go.Proofs.YtenmlgalcjkdbaaGreat.AM
open Go

theorem len6 (n : Int) : (putB n 6).length = 6 := by rw [putB_length]; rfl
theorem len2 (n : Int) : (putB n 2).length = 2 := by rw [putB_length]; rfl
def okN (n : Int) : Prop := 0 ≤ n ∧ n ≤ 1099511627776
theorem wNum_okN {b : List UInt8} {n : Int} (h : okN n) (hl : b.length ≤ 16384) : wNum ⟨b, 0⟩ n = ⟨b ++ putB n 6, 0⟩ := by
  unfold okN at h
  unfold wNum
  rw [if_neg (by omega), if_pos hl]
theorem rText_ok {b s : List UInt8} (h : s.length ≤ 4096) (hl : b.length ≤ 16384) : rText ⟨b, 0⟩ s = ⟨b ++ putB s.length 2 ++ s, 0⟩ := by
  unfold rText
  rw [if_neg (by omega), if_pos hl]
theorem wNum_len (w : WS) (n : Int) : (wNum w n).b.length ≤ w.b.length + 6 := by
  unfold wNum
  split
  · simp
  · split
    · show (w.b ++ putB n 6).length ≤ _
      rw [List.length_append, len6]; omega
    · omega
theorem rText_len (w : WS) (s : List UInt8) : (rText w s).b.length ≤ w.b.length + 2 + s.length ∧ (rText w s).b.length ≤ w.b.length + 4098 := by
  unfold rText
  split
  · simp only; omega
  · split
    · show (w.b ++ putB s.length 2 ++ s).length ≤ _ ∧ (w.b ++ putB s.length 2 ++ s).length ≤ _
      rw [List.length_append, List.length_append, len2]; omega
    · omega
theorem num_atw (w : WS) (n : Int) (h : w.b.length ≤ 100000) : numC [.ptr 6400000 0, .c (.int .i64 n)] [[.own 1 (bytes w.b), .c (.int .i64 w.e), .c (.bool true)]] = some ⟨[], [[.own 1 (bytes (wNum w n).b), .c (.int .i64 (wNum w n).e), .c (.bool true)]]⟩ := by
  simp [numC, asB_bytes, inObj, h, wOV]
theorem text_atw (w : WS) (s : List UInt8) (h : w.b.length ≤ 100000) (h2 : s.length ≤ 9223372036854775807) : textC [.ptr 6400000 0, .c (.str s)] [[.own 1 (bytes w.b), .c (.int .i64 w.e), .c (.bool true)]] = some ⟨[], [[.own 1 (bytes (rText w s).b), .c (.int .i64 (rText w s).e), .c (.bool true)]]⟩ := by
  simp [textC, asB_bytes, inObj, h, h2, wOV]
theorem done_atw (w : WS) : doneC [.ptr 6400000 0] [[.own 1 (bytes w.b), .c (.int .i64 w.e), .c (.bool true)]] = some ⟨[.fresh 1 (bytes (doneR w).1), .pv (.c (.int .i64 (doneR w).2))], [[.own 1 (bytes w.b), .c (.int .i64 w.e), .c (.bool true)]]⟩ := by
  simp [doneC, asB_bytes, inObj, wOV]

variable {Γ : FuncId → Contract}

structure Txn where
  fr : Int
  to : Int
  am : Int
  no : Int
  sig : List UInt8
  deriving DecidableEq
def Txn.pcs (t : Txn) : List PC := [.int .i64 t.fr, .int .i64 t.to, .int .i64 t.am, .int .i64 t.no, .str t.sig]
def Txn.av (t : Txn) : AV := .agg [.c (.int .i64 t.fr), .c (.int .i64 t.to), .c (.int .i64 t.am), .c (.int .i64 t.no), .c (.str t.sig)]
theorem Txn.av_inj {a b : Txn} (h : a.av = b.av) : a = b := by
  obtain ⟨a1, a2, a3, a4, a5⟩ := a
  obtain ⟨b1, b2, b3, b4, b5⟩ := b
  simp only [Txn.av, AV.agg.injEq, List.cons.injEq, AV.c.injEq, PC.str.injEq, PC.int.injEq, true_and, and_true] at h
  obtain ⟨rfl, rfl, rfl, rfl, rfl⟩ := h
  rfl
theorem Txn.av_iff {a b : Txn} : a.av = b.av ↔ a = b := ⟨Txn.av_inj, fun h => by rw [h]⟩
def okT (t : Txn) : Prop := (0 ≤ t.fr ∧ t.fr ≤ 3) ∧ (0 ≤ t.to ∧ t.to ≤ 3) ∧ t.fr ≠ t.to ∧ 1 ≤ t.am ∧ t.am ≤ 1000 ∧ 0 ≤ t.no ∧ t.no ≤ 1099511627776 ∧ t.sig.length ≤ 4096
instance (t : Txn) : Decidable (okT t) := inferInstanceAs (Decidable (_ ∧ _))
def txS (t : Txn) : Int := if okT t then 0 else 9
def zeroT : Txn := ⟨0, 0, 0, 0, []⟩

def clientC : Contract := fun args objs => match args, objs with
  | [.c (.int .i64 n)], [] => some ⟨[.pv (.c (.bool (decide (n ≥ 0) && decide (n < 4))))], []⟩
  | _, _ => none
theorem client_at (n : Int) : clientC [.c (.int .i64 n)] [] = some ⟨[.pv (.c (.bool (decide (n ≥ 0) && decide (n < 4))))], []⟩ := rfl
set_option maxHeartbeats 1000000 in
theorem client_sound : SoundC Tryz.prog 145 clientC := by
  refine sound_fn Tryz.func145 (by kernel_rfl) rfl rfl ?_
  intro args objs r hr
  unfold clientC at hr
  split at hr
  · rename_i n
    cases hr
    refine ⟨rfl, by show 1 ≤ _; decide, fun E hN hns hF => ?_⟩
    refine vc_sound none0_sound mixed _ _ _ ?_
    have hN := hN.trans nt_145
    simp +contextual (maxSteps := 10000000) only [runA, runB, runC, runD, runE, runF, fieldE, storeE, binE, ↓reduceIte, Nat.reduceLT, Nat.reduceLeDiff, Nat.reduceEqDiff, Nat.reduceAdd, Nat.reduceMul, Nat.reduceSub, reduceCtorEq, putAt, unE, Nat.reduceBEq, convE, buildE, List.replicate, Int.reduceLT, Int.reduceLE, Int.reduceToNat, mkE, mapSetE, hN, hF, ty_3, ty_4, notIf, isEq, bytes_length, false_implies, implies_true]
    simp only [runB, finC, finD, Option.isSome_some, Option.isSome_none, ↓reduceIte, Nat.reduceEqDiff, Nat.reduceAdd, Nat.reduceMul, forall_eq_or_imp, forall_eq, implies_true, Nat.reduceBEq, reduceCtorEq, false_implies, List.zip_cons_cons, List.zip_nil_left, List.zip_nil_right, Nat.reduceLeDiff, List.forall_mem_nil, rs_145]
  · cases hr
noncomputable def txCkC : Contract := mkC (α := Txn) (fun _ => True) (fun t => [t.av]) (fun _ => []) (fun t => ⟨[.pv (.c (.int .i64 (txS t)))], []⟩)
theorem txCk_at (t : Txn) : txCkC [.agg [.c (.int .i64 t.fr), .c (.int .i64 t.to), .c (.int .i64 t.am), .c (.int .i64 t.no), .c (.str t.sig)]] [] = some ⟨[.pv (.c (.int .i64 (txS t)))], []⟩ :=
  mkC_at (α := Txn) t trivial (by
    rintro y _ h _
    have h' : [y.av] = [t.av] := h
    have e : y = t := Txn.av_inj (by simpa using h')
    rw [e])

set_option maxRecDepth 100000 in
set_option maxHeartbeats 4000000 in
theorem txCk_sound (hΓ : SoundG Tryz.prog Γ) (h1 : Γ 145 = clientC) : SoundC Tryz.prog 93 txCkC := by
  refine sound_fn Tryz.func93 (by kernel_rfl) rfl rfl ?_
  intro args objs r hr
  obtain ⟨⟨fr, to, am, no, sig⟩, _, rfl, rfl, rfl⟩ := mkC_inv hr
  refine ⟨rfl, by show 1 ≤ _; decide, fun E hN hns hF => ?_⟩
  refine vc_sound hΓ mixed _ _ _ ?_
  have hN := hN.trans nt_93
  unfold Txn.av
  simp +contextual (maxSteps := 10000000) only [runA, runB, runC, runD, runE, runF, fieldE, storeE, binE, ↓reduceIte, Nat.reduceLT, Nat.reduceLeDiff, Nat.reduceEqDiff, Nat.reduceAdd, Nat.reduceMul, Nat.reduceSub, reduceCtorEq, putAt, unE, Nat.reduceBEq, convE, buildE, List.replicate, Int.reduceLT, Int.reduceLE, Int.reduceToNat, mkE, mapSetE, hN, hF, ty_3, ty_4, ty_9, ty_36, ty_37, notIf, isEq, bytes_length, false_implies, implies_true, h1, client_at]
  refine ⟨fun hb => ?_, fun hb => ?_⟩
  · have hS : txS ⟨fr, to, am, no, sig⟩ = 9 := if_neg (by simp at hb; unfold okT; simp only; omega)
    simp only [runB, finC, finD, Option.isSome_some, Option.isSome_none, ↓reduceIte, Nat.reduceEqDiff, Nat.reduceAdd, Nat.reduceMul, forall_eq_or_imp, forall_eq, implies_true, Nat.reduceBEq, reduceCtorEq, false_implies, List.zip_cons_cons, List.zip_nil_left, List.zip_nil_right, Nat.reduceLeDiff, List.forall_mem_nil, rs_93, hS]
  · have hS : txS ⟨fr, to, am, no, sig⟩ = 0 := if_pos (by simp at hb; unfold okT; simp only; omega)
    simp only [runB, finC, finD, Option.isSome_some, Option.isSome_none, ↓reduceIte, Nat.reduceEqDiff, Nat.reduceAdd, Nat.reduceMul, forall_eq_or_imp, forall_eq, implies_true, Nat.reduceBEq, reduceCtorEq, false_implies, List.zip_cons_cons, List.zip_nil_left, List.zip_nil_right, Nat.reduceLeDiff, List.forall_mem_nil, rs_93, hS]

set_option maxRecDepth 100000 in
set_option maxHeartbeats 4000000 in
theorem refTxCk_sound : SoundC Tryz.prog 10 txCkC := by
  refine sound_fn Tryz.func10 (by kernel_rfl) rfl rfl ?_
  intro args objs r hr
  obtain ⟨⟨fr, to, am, no, sig⟩, _, rfl, rfl, rfl⟩ := mkC_inv hr
  refine ⟨rfl, by show 1 ≤ _; decide, fun E hN hns hF => ?_⟩
  refine vc_sound none0_sound mixed _ _ _ ?_
  have hN := hN.trans nt_10
  unfold Txn.av
  simp +contextual (maxSteps := 10000000) only [runA, runB, runC, runD, runE, runF, fieldE, storeE, binE, ↓reduceIte, Nat.reduceLT, Nat.reduceLeDiff, Nat.reduceEqDiff, Nat.reduceAdd, Nat.reduceMul, Nat.reduceSub, reduceCtorEq, putAt, unE, Nat.reduceBEq, convE, buildE, List.replicate, Int.reduceLT, Int.reduceLE, Int.reduceToNat, mkE, mapSetE, hN, hF, ty_3, ty_9, ty_36, notIf, isEq, bytes_length, false_implies, implies_true]
  refine ⟨fun hb => ?_, fun hb => ?_⟩
  · have hS : txS ⟨fr, to, am, no, sig⟩ = 9 := if_neg (by simp at hb; unfold okT; simp only; omega)
    simp only [runB, finC, finD, Option.isSome_some, Option.isSome_none, ↓reduceIte, Nat.reduceEqDiff, Nat.reduceAdd, Nat.reduceMul, forall_eq_or_imp, forall_eq, implies_true, Nat.reduceBEq, reduceCtorEq, false_implies, List.zip_cons_cons, List.zip_nil_left, List.zip_nil_right, Nat.reduceLeDiff, List.forall_mem_nil, rs_10, hS]
  · have hS : txS ⟨fr, to, am, no, sig⟩ = 0 := if_pos (by simp at hb; unfold okT; simp only; omega)
    simp only [runB, finC, finD, Option.isSome_some, Option.isSome_none, ↓reduceIte, Nat.reduceEqDiff, Nat.reduceAdd, Nat.reduceMul, forall_eq_or_imp, forall_eq, implies_true, Nat.reduceBEq, reduceCtorEq, false_implies, List.zip_cons_cons, List.zip_nil_left, List.zip_nil_right, Nat.reduceLeDiff, List.forall_mem_nil, rs_10, hS]


variable {Γ : FuncId → Contract}

def txW : List UInt8 := [116, 120]
def arrT (t : Txn) (i : Nat) : Int := if i = 0 then t.fr else if i = 1 then t.to else if i = 2 then t.am else t.no
/-- The fields, one behind another, till i. -/
def txF (w : WS) (t : Txn) : Nat → WS
  | 0 => rText w txW
  | i + 1 => wNum (txF w t i) (arrT t i)
theorem txF_len (w : WS) (t : Txn) : ∀ i, (txF w t i).b.length ≤ w.b.length + 4 + 6 * i
  | 0 => by have := (rText_len w txW).1; show (rText w txW).b.length ≤ _; simp only [txW, List.length_cons, List.length_nil] at this; simp only [txW]; omega
  | i + 1 => by have h1 := txF_len w t i; have h2 := wNum_len (txF w t i) (arrT t i); show (wNum _ _).b.length ≤ _; omega
structure Wt where
  w : WS
  t : Txn
theorem bytes_ovi {a b : List UInt8} {x y : Int} (h : [[OV.own 1 (bytes a), .c (.int .i64 x), .c (.bool true)]] = [[OV.own 1 (bytes b), .c (.int .i64 y), .c (.bool true)]]) : a = b ∧ x = y := by
  simp only [List.cons.injEq, OV.own.injEq, OV.c.injEq, PC.int.injEq, true_and, and_true] at h
  exact ⟨bytes_inj h.1, h.2⟩
noncomputable def txtC : Contract := mkC (α := Wt) (fun p => p.w.b.length ≤ 90000) (fun p => [.ptr 6400000 0, p.t.av]) (fun p => [[.own 1 (bytes p.w.b), .c (.int .i64 p.w.e), .c (.bool true)]]) (fun p => ⟨[], [[.own 1 (bytes (txF p.w p.t 4).b), .c (.int .i64 (txF p.w p.t 4).e), .c (.bool true)]]⟩)
theorem txt_at (w : WS) (t : Txn) (h : w.b.length ≤ 90000) : txtC [.ptr 6400000 0, .agg [.c (.int .i64 t.fr), .c (.int .i64 t.to), .c (.int .i64 t.am), .c (.int .i64 t.no), .c (.str t.sig)]] [[.own 1 (bytes w.b), .c (.int .i64 w.e), .c (.bool true)]] = some ⟨[], [[.own 1 (bytes (txF w t 4).b), .c (.int .i64 (txF w t 4).e), .c (.bool true)]]⟩ :=
  mkC_at (α := Wt) ⟨w, t⟩ h (by
    rintro ⟨⟨b', e'⟩, t'⟩ _ h ho
    obtain ⟨b, e⟩ := w
    have h' : [AV.ptr 6400000 0, t'.av] = [AV.ptr 6400000 0, t.av] := h
    have e1 : t' = t := Txn.av_inj (by simpa using h')
    obtain ⟨e2, e3⟩ := bytes_ovi ho
    dsimp only at e2 e3
    rw [e1, e2, e3])
noncomputable def txPutC : Contract := mkC (α := Wt) (fun p => p.w.b.length ≤ 90000 ∧ p.t.sig.length ≤ 9223372036854775807) (fun p => [.ptr 6400000 0, p.t.av]) (fun p => [[.own 1 (bytes p.w.b), .c (.int .i64 p.w.e), .c (.bool true)]]) (fun p => ⟨[], [[.own 1 (bytes (rText (txF p.w p.t 4) p.t.sig).b), .c (.int .i64 (rText (txF p.w p.t 4) p.t.sig).e), .c (.bool true)]]⟩)
theorem txPut_at (w : WS) (t : Txn) (h : w.b.length ≤ 90000) (hs : t.sig.length ≤ 9223372036854775807) : txPutC [.ptr 6400000 0, .agg [.c (.int .i64 t.fr), .c (.int .i64 t.to), .c (.int .i64 t.am), .c (.int .i64 t.no), .c (.str t.sig)]] [[.own 1 (bytes w.b), .c (.int .i64 w.e), .c (.bool true)]] = some ⟨[], [[.own 1 (bytes (rText (txF w t 4) t.sig).b), .c (.int .i64 (rText (txF w t 4) t.sig).e), .c (.bool true)]]⟩ :=
  mkC_at (α := Wt) ⟨w, t⟩ ⟨h, hs⟩ (by
    rintro ⟨⟨b', e'⟩, t'⟩ _ h ho
    obtain ⟨b, e⟩ := w
    have h' : [AV.ptr 6400000 0, t'.av] = [AV.ptr 6400000 0, t.av] := h
    have e1 : t' = t := Txn.av_inj (by simpa using h')
    obtain ⟨e2, e3⟩ := bytes_ovi ho
    dsimp only at e2 e3
    rw [e1, e2, e3])

set_option maxRecDepth 100000 in
set_option maxHeartbeats 4000000 in
theorem txt_sound (hΓ : SoundG Tryz.prog Γ) (h1 : Γ 53 = textC) (h2 : Γ 101 = numC) : SoundC Tryz.prog 151 txtC := by
  refine sound_fn Tryz.func151 (by kernel_rfl) rfl rfl ?_
  intro args objs r0 hr
  obtain ⟨⟨w, ⟨fr, to, am, no, sig⟩⟩, hl, rfl, rfl, rfl⟩ := mkC_inv hr
  have hl : w.b.length ≤ 90000 := hl
  refine ⟨rfl, by show 2 ≤ _; decide, fun E hN hns hF => ?_⟩
  refine vc_sound hΓ mixed _ _ _ ?_
  have hN := hN.trans nt_151
  unfold Txn.av
  dsimp only
  have q1 : textC [.ptr 6400000 0, .c (.str [116, 120])] [[.own 1 (bytes w.b), .c (.int .i64 w.e), .c (.bool true)]] = some ⟨[], [[.own 1 (bytes (txF w ⟨fr, to, am, no, sig⟩ 0).b), .c (.int .i64 (txF w ⟨fr, to, am, no, sig⟩ 0).e), .c (.bool true)]]⟩ := text_atw w [116, 120] (by omega) (by decide)
  have hfl := txF_len w ⟨fr, to, am, no, sig⟩
  obtain ⟨wb, we⟩ := w
  dsimp only at q1 ⊢
  simp only [runA, runB, runC, runD, runE, runF, fieldE, storeE, binE, ↓reduceIte, Nat.reduceLT, Nat.reduceLeDiff, Nat.reduceEqDiff, Nat.reduceAdd, Nat.reduceMul, Nat.reduceSub, reduceCtorEq, putAt, unE, Nat.reduceBEq, convE, buildE, List.replicate, Int.reduceLT, Int.reduceLE, Int.reduceToNat, mkE, mapSetE, hN, hF, ty_3, ty_9, ty_36, ty_44, ty_242, notIf, isEq, h1, q1, bytes_length]
  refine AWP.loop (fun k st => ∃ i : Nat, i ≤ 4 ∧ k = 4 - i ∧ st = ⟨[(0, .ptr 6400000 0), (16, .agg [.c (.int .i64 fr), .c (.int .i64 to), .c (.int .i64 am), .c (.int .i64 no)]), (17, .c (.int .i64 (i : Int)))],
    [(6400000, .obj [.own 6400001 1 (bytes (txF ⟨wb, we⟩ ⟨fr, to, am, no, sig⟩ i).b), .c (.int .i64 (txF ⟨wb, we⟩ ⟨fr, to, am, no, sig⟩ i).e), .c (.bool true)] false), (6400001, .row 1 (txF ⟨wb, we⟩ ⟨fr, to, am, no, sig⟩ i).b.length)]⟩) ⟨4, _, ?w, 0, Nat.zero_le _, rfl, rfl⟩ ?r
  case w =>
    rw [hns]
    simp only [runB, finC, finD, AS.get, AS.mem, false_implies, implies_true, ↓reduceIte, Nat.reduceEqDiff, Option.isSome_some, Option.isSome_none, forall_eq_or_imp, forall_eq, reduceCtorEq, Nat.reduceAdd, Nat.reduceMul, List.zip_cons_cons, List.zip_nil_left, List.zip_nil_right, List.forall_mem_nil]
    first | done | simp
  case r =>
    rintro k st ⟨i, hi, rfl, rfl⟩
    refine vc_sound hΓ mixed _ _ _ ?_
    have hlen := hfl i
    by_cases hlt : i < 4
    · have g2 : decide ((i : Int) < 4) = true := by simp; omega
      have g3 : ((i : Int) < ((4 : Nat) : Int)) = True := by simp; omega
      have e1 : IntKind.i64.wrap ((i : Int) + 1) = (i : Int) + 1 := wrapI (by omega)
      have hx : ([AV.c (.int .i64 fr), AV.c (.int .i64 to), AV.c (.int .i64 am), AV.c (.int .i64 no)] : List AV)[i]? = some (.c (.int .i64 (arrT ⟨fr, to, am, no, sig⟩ i))) := by
        unfold arrT
        rcases (show i = 0 ∨ i = 1 ∨ i = 2 ∨ i = 3 by omega) with rfl | rfl | rfl | rfl <;> rfl
      have hn := num_atw (txF ⟨wb, we⟩ ⟨fr, to, am, no, sig⟩ i) (arrT ⟨fr, to, am, no, sig⟩ i) (by dsimp only at hlen hl; omega)
      have hb : wNum (txF ⟨wb, we⟩ ⟨fr, to, am, no, sig⟩ i) (arrT ⟨fr, to, am, no, sig⟩ i) = txF ⟨wb, we⟩ ⟨fr, to, am, no, sig⟩ (i + 1) := rfl
      rw [hb] at hn
      generalize hg : ([AV.c (.int .i64 fr), AV.c (.int .i64 to), AV.c (.int .i64 am), AV.c (.int .i64 no)] : List AV) = ar at hx
      simp only [runA, runB, runC, runD, runE, runF, fieldE, storeE, binE, ↓reduceIte, Nat.reduceLT, Nat.reduceLeDiff, Nat.reduceEqDiff, Nat.reduceAdd, Nat.reduceMul, Nat.reduceSub, reduceCtorEq, putAt, unE, Nat.reduceBEq, convE, buildE, List.replicate, Int.reduceLT, Int.reduceLE, Int.reduceToNat, mkE, mapSetE, hN, hF, ty_3, ty_9, ty_36, ty_44, ty_242, notIf, isEq, g2, g3, e1, hx, h2, hn, bytes_length]
      refine ⟨4 - (i + 1), _, by omega, ?_, i + 1, by omega, rfl, rfl⟩
      rw [hns]
      subst hg
      simp only [runB, finC, finD, AS.get, AS.mem, false_implies, implies_true, ↓reduceIte, Nat.reduceEqDiff, Option.isSome_some, Option.isSome_none, forall_eq_or_imp, forall_eq, reduceCtorEq, Nat.reduceAdd, Nat.reduceMul, List.zip_cons_cons, List.zip_nil_left, List.zip_nil_right, List.forall_mem_nil, bytes_length]
      first | done | simp
    · have g2 : decide ((i : Int) < 4) = false := by simp; omega
      obtain rfl : i = 4 := by omega
      generalize txF ⟨wb, we⟩ ⟨fr, to, am, no, sig⟩ 4 = w2
      simp only [runA, runB, runC, runD, runE, runF, fieldE, storeE, binE, ↓reduceIte, Nat.reduceLT, Nat.reduceLeDiff, Nat.reduceEqDiff, Nat.reduceAdd, Nat.reduceMul, Nat.reduceSub, reduceCtorEq, putAt, unE, Nat.reduceBEq, convE, buildE, List.replicate, Int.reduceLT, Int.reduceLE, Int.reduceToNat, mkE, mapSetE, hN, hF, ty_3, ty_9, ty_36, ty_44, ty_242, notIf, isEq, g2]
      simp only [runB, finC, finD, Option.isSome_some, Option.isSome_none, ↓reduceIte, Nat.reduceEqDiff, Nat.reduceAdd, Nat.reduceMul, forall_eq_or_imp, forall_eq, implies_true, Nat.reduceBEq, reduceCtorEq, false_implies, List.zip_cons_cons, List.zip_nil_left, List.zip_nil_right, Nat.reduceLeDiff, List.forall_mem_nil, rs_151, bytes_length]

set_option maxRecDepth 100000 in
set_option maxHeartbeats 4000000 in
theorem txPut_sound (hΓ : SoundG Tryz.prog Γ) (h1 : Γ 151 = txtC) (h2 : Γ 53 = textC) : SoundC Tryz.prog 102 txPutC := by
  refine sound_fn Tryz.func102 (by kernel_rfl) rfl rfl ?_
  intro args objs r0 hr
  obtain ⟨⟨w, t⟩, ⟨hl, hs⟩, rfl, rfl, rfl⟩ := mkC_inv hr
  have hl : w.b.length ≤ 90000 := hl
  have hs : t.sig.length ≤ 9223372036854775807 := hs
  refine ⟨rfl, by show 2 ≤ _; decide, fun E hN hns hF => ?_⟩
  refine vc_sound hΓ mixed _ _ _ ?_
  have hN := hN.trans nt_102
  unfold Txn.av
  dsimp only
  have q1 := txt_at w t hl
  have hfl := txF_len w t 4
  have q2 := text_atw (txF w t 4) t.sig (by omega) hs
  generalize rText (txF w t 4) t.sig = w3 at q2 ⊢
  generalize txF w t 4 = w2 at q1 q2
  simp only [runA, runB, runC, runD, runE, runF, fieldE, storeE, binE, ↓reduceIte, Nat.reduceLT, Nat.reduceLeDiff, Nat.reduceEqDiff, Nat.reduceAdd, Nat.reduceMul, Nat.reduceSub, reduceCtorEq, putAt, unE, Nat.reduceBEq, convE, buildE, List.replicate, Int.reduceLT, Int.reduceLE, Int.reduceToNat, mkE, mapSetE, hN, hF, ty_3, ty_9, ty_36, ty_44, notIf, isEq, h1, q1, h2, q2, bytes_length]
  simp only [runB, finC, finD, Option.isSome_some, Option.isSome_none, ↓reduceIte, Nat.reduceEqDiff, Nat.reduceAdd, Nat.reduceMul, forall_eq_or_imp, forall_eq, implies_true, Nat.reduceBEq, reduceCtorEq, false_implies, List.zip_cons_cons, List.zip_nil_left, List.zip_nil_right, Nat.reduceLeDiff, List.forall_mem_nil, rs_102, bytes_length]


structure Vt where
  kd : Int
  vw : Int
  ht : Int
  bl : List UInt8
  tk : Int
  sg : Int
  sig : List UInt8
  deriving DecidableEq
def Vt.pcs (t : Vt) : List PC := [.int .i64 t.kd, .int .i64 t.vw, .int .i64 t.ht, .str t.bl, .int .i64 t.tk, .int .i64 t.sg, .str t.sig]
def Vt.av (t : Vt) : AV := .agg [.c (.int .i64 t.kd), .c (.int .i64 t.vw), .c (.int .i64 t.ht), .c (.str t.bl), .c (.int .i64 t.tk), .c (.int .i64 t.sg), .c (.str t.sig)]
structure Mk where
  vw : Int
  ht : Int
  bl : List UInt8
  deriving DecidableEq
def Mk.av (t : Mk) : AV := .agg [.c (.int .i64 t.vw), .c (.int .i64 t.ht), .c (.str t.bl)]
theorem Vt.av_inj {a b : Vt} (h : a.av = b.av) : a = b := by
  obtain ⟨a0, a1, a2, a3, a4, a5, a6⟩ := a
  obtain ⟨b0, b1, b2, b3, b4, b5, b6⟩ := b
  simp only [Vt.av, AV.agg.injEq, List.cons.injEq, AV.c.injEq, PC.str.injEq, PC.int.injEq, true_and, and_true] at h
  obtain ⟨rfl, rfl, rfl, rfl, rfl, rfl, rfl⟩ := h
  rfl
theorem Vt.av_iff {a b : Vt} : a.av = b.av ↔ a = b := ⟨Vt.av_inj, fun h => by rw [h]⟩
theorem Vt.pcs_inj {a b : Vt} (h : a.pcs = b.pcs) : a = b := by
  obtain ⟨a0, a1, a2, a3, a4, a5, a6⟩ := a
  obtain ⟨b0, b1, b2, b3, b4, b5, b6⟩ := b
  simp only [Vt.pcs, List.cons.injEq, PC.str.injEq, PC.int.injEq, true_and, and_true] at h
  obtain ⟨rfl, rfl, rfl, rfl, rfl, rfl, rfl⟩ := h
  rfl
theorem Mk.av_inj {a b : Mk} (h : a.av = b.av) : a = b := by
  obtain ⟨a0, a1, a2⟩ := a
  obtain ⟨b0, b1, b2⟩ := b
  simp only [Mk.av, AV.agg.injEq, List.cons.injEq, AV.c.injEq, PC.str.injEq, PC.int.injEq, true_and, and_true] at h
  obtain ⟨rfl, rfl, rfl⟩ := h
  rfl
theorem Mk.av_iff {a b : Mk} : a.av = b.av ↔ a = b := ⟨Mk.av_inj, fun h => by rw [h]⟩
theorem Txn.pcs_inj {a b : Txn} (h : a.pcs = b.pcs) : a = b := by
  obtain ⟨a1, a2, a3, a4, a5⟩ := a
  obtain ⟨b1, b2, b3, b4, b5⟩ := b
  simp only [Txn.pcs, List.cons.injEq, PC.str.injEq, PC.int.injEq, true_and, and_true] at h
  obtain ⟨rfl, rfl, rfl, rfl, rfl⟩ := h
  rfl
def zeroV : Vt := ⟨0, 0, 0, [], 0, 0, []⟩
theorem map_inj' {α β : Type} {f : α → β} (hf : ∀ a b, f a = f b → a = b) : ∀ {l m : List α}, l.map f = m.map f → l = m
  | [], [], _ => rfl
  | [], _ :: _, h => by simp at h
  | _ :: _, [], h => by simp at h
  | a :: l, b :: m, h => by
    simp only [List.map_cons, List.cons.injEq] at h
    rw [hf _ _ h.1, map_inj' hf h.2]
def votes (l : List Vt) : List (List PC) := l.map Vt.pcs
theorem votes_iff {a b : List Vt} : votes a = votes b ↔ a = b := ⟨map_inj' fun _ _ => Vt.pcs_inj, fun h => by rw [h]⟩
theorem votes_length (l : List Vt) : (votes l).length = l.length := by simp [votes]
theorem votes_nil : votes [] = [] := rfl
theorem votesD (l : List Vt) (i : Nat) (h : i < l.length) : (votes l)[i]? = some (Vt.pcs (l.getD i zeroV)) := by
  simp [votes, List.getD, h]
def trows (l : List Txn) : List (List PC) := l.map Txn.pcs
theorem trows_iff {a b : List Txn} : trows a = trows b ↔ a = b := ⟨map_inj' fun _ _ => Txn.pcs_inj, fun h => by rw [h]⟩
theorem trows_length (l : List Txn) : (trows l).length = l.length := by simp [trows]
theorem trows_nil : trows [] = [] := rfl
theorem trowsD (l : List Txn) (i : Nat) (h : i < l.length) : (trows l)[i]? = some (Txn.pcs (l.getD i zeroT)) := by
  simp [trows, List.getD, h]
theorem rowsOK_votes (l : List Vt) : rowsOK 7 (votes l) := by
  intro r hr
  obtain ⟨t, _, rfl⟩ := List.mem_map.1 hr
  rfl
theorem rowsOK_trows (l : List Txn) : rowsOK 5 (trows l) := by
  intro r hr
  obtain ⟨t, _, rfl⟩ := List.mem_map.1 hr
  rfl
structure Ct where
  vw : Int
  ht : Int
  bl : List UInt8
  vs : List Vt
  deriving DecidableEq
def Ct.pcs (c : Ct) : List PC := [.int .i64 c.vw, .int .i64 c.ht, .str c.bl, .sl (votes c.vs)]
def Ct.av (c : Ct) : AV := .agg [.c (.int .i64 c.vw), .c (.int .i64 c.ht), .c (.str c.bl), .c (.sl (votes c.vs))]
theorem Ct.av_inj {a b : Ct} (h : a.av = b.av) : a = b := by
  obtain ⟨a1, a2, a3, a4⟩ := a
  obtain ⟨b1, b2, b3, b4⟩ := b
  simp only [Ct.av, AV.agg.injEq, List.cons.injEq, AV.c.injEq, PC.str.injEq, PC.int.injEq, PC.sl.injEq, votes_iff, true_and, and_true] at h
  obtain ⟨rfl, rfl, rfl, rfl⟩ := h
  rfl
theorem Ct.av_iff {a b : Ct} : a.av = b.av ↔ a = b := ⟨Ct.av_inj, fun h => by rw [h]⟩
structure Blk where
  vw : Int
  ht : Int
  pa : List UInt8
  ju : Ct
  txs : List Txn
  sig : List UInt8
  deriving DecidableEq
def Blk.pcs (b : Blk) : List PC := [.int .i64 b.vw, .int .i64 b.ht, .str b.pa, .int .i64 b.ju.vw, .int .i64 b.ju.ht, .str b.ju.bl, .sl (votes b.ju.vs), .sl (trows b.txs), .str b.sig]
def Blk.av (b : Blk) : AV := .agg [.c (.int .i64 b.vw), .c (.int .i64 b.ht), .c (.str b.pa), .c (.int .i64 b.ju.vw), .c (.int .i64 b.ju.ht), .c (.str b.ju.bl), .c (.sl (votes b.ju.vs)), .c (.sl (trows b.txs)), .c (.str b.sig)]
theorem Blk.av_inj {a b : Blk} (h : a.av = b.av) : a = b := by
  obtain ⟨a1, a2, a3, ⟨a4, a5, a6, a7⟩, a8, a9⟩ := a
  obtain ⟨b1, b2, b3, ⟨b4, b5, b6, b7⟩, b8, b9⟩ := b
  simp only [Blk.av, AV.agg.injEq, List.cons.injEq, AV.c.injEq, PC.str.injEq, PC.int.injEq, PC.sl.injEq, votes_iff, trows_iff, true_and, and_true] at h
  obtain ⟨rfl, rfl, rfl, rfl, rfl, rfl, rfl, rfl, rfl⟩ := h
  rfl
theorem Blk.av_iff {a b : Blk} : a.av = b.av ↔ a = b := ⟨Blk.av_inj, fun h => by rw [h]⟩
theorem Blk.pcs_inj {a b : Blk} (h : a.pcs = b.pcs) : a = b := by
  obtain ⟨a1, a2, a3, ⟨a4, a5, a6, a7⟩, a8, a9⟩ := a
  obtain ⟨b1, b2, b3, ⟨b4, b5, b6, b7⟩, b8, b9⟩ := b
  simp only [Blk.pcs, List.cons.injEq, PC.str.injEq, PC.int.injEq, PC.sl.injEq, votes_iff, trows_iff, true_and, and_true] at h
  obtain ⟨rfl, rfl, rfl, rfl, rfl, rfl, rfl, rfl, rfl⟩ := h
  rfl
def zeroBk : Blk := ⟨0, 0, [], ⟨0, 0, [], []⟩, [], []⟩

def idxP {α : Type} (p : α → Bool) (l : List α) : Int := match l.findIdx? p with | some i => (i : Int) | none => -1
theorem idxP_some {α : Type} {p : α → Bool} {l : List α} {d : α} {i : Nat} (hi : i < l.length) (h : p (l.getD i d) = true) (hb : ∀ k, k < i → p (l.getD k d) = false) : idxP p l = (i : Int) := by
  have : l.findIdx? p = some i := by
    rw [List.findIdx?_eq_some_iff_getElem]
    refine ⟨hi, ?_, fun j hj => ?_⟩
    · rw [List.getD, List.getElem?_eq_getElem hi] at h
      simpa using h
    · have := hb j hj
      rw [List.getD, List.getElem?_eq_getElem (by omega)] at this
      simpa using this
  unfold idxP
  rw [this]
theorem idxP_none {α : Type} {p : α → Bool} {l : List α} {d : α} (h : ∀ k, k < l.length → p (l.getD k d) = false) : idxP p l = -1 := by
  have : l.findIdx? p = none := by
    rw [List.findIdx?_eq_none_iff]
    intro x hx
    obtain ⟨k, hk, rfl⟩ := List.getElem_of_mem hx
    have := h k hk
    rw [List.getD, List.getElem?_eq_getElem hk] at this
    simpa using this
  unfold idxP
  rw [this]
theorem idxP_ge {α : Type} (p : α → Bool) (l : List α) : decide (idxP p l ≥ 0) = l.any p := by
  unfold idxP
  cases h : l.findIdx? p with
  | none =>
    rw [List.findIdx?_eq_none_iff] at h
    have : l.any p = false := by
      rw [List.any_eq_false]
      intro x hx
      simpa using h x hx
    simp [this]
  | some i =>
    have hi := (List.findIdx?_eq_some_iff_getElem.1 h)
    obtain ⟨h1, h2, _⟩ := hi
    have : l.any p = true := List.any_eq_true.2 ⟨l[i], List.getElem_mem h1, h2⟩
    simp [this]


variable {Γ : FuncId → Contract}

theorem txCkA_at (fr to am no : Int) (sig : List UInt8) : txCkC [.agg [.c (.int .i64 fr), .c (.int .i64 to), .c (.int .i64 am), .c (.int .i64 no), .c (.str sig)]] [] = some ⟨[.pv (.c (.int .i64 (txS ⟨fr, to, am, no, sig⟩)))], []⟩ := txCk_at ⟨fr, to, am, no, sig⟩
def badT (t : Txn) : Bool := txS t != 0
theorem badT_iff (t : Txn) : badT t = true ↔ ¬ okT t := by
  unfold badT txS
  by_cases h : okT t
  · simp [h]
  · simp [h]
noncomputable def oddTC : Contract := mkC (α := Txn) (fun _ => True) (fun t => [t.av]) (fun _ => []) (fun t => ⟨[.pv (.c (.bool (badT t)))], []⟩)
theorem oddT_at (t : Txn) : oddTC [.agg [.c (.int .i64 t.fr), .c (.int .i64 t.to), .c (.int .i64 t.am), .c (.int .i64 t.no), .c (.str t.sig)]] [] = some ⟨[.pv (.c (.bool (badT t)))], []⟩ :=
  mkC_at (α := Txn) t trivial (by
    rintro y _ h _
    simp only [List.cons.injEq, Txn.av_iff, and_true] at h
    rw [h])
set_option maxHeartbeats 1000000 in
theorem oddT_sound (hΓ : SoundG Tryz.prog Γ) (h1 : Γ 93 = txCkC) : SoundC Tryz.prog 92 oddTC := by
  refine sound_fn Tryz.func92 (by kernel_rfl) rfl rfl ?_
  intro args objs r hr
  obtain ⟨t, _, rfl, rfl, rfl⟩ := mkC_inv hr
  refine ⟨rfl, by show 1 ≤ _; decide, fun E hN hns hF => ?_⟩
  refine vc_sound hΓ mixed _ _ _ ?_
  have hN := hN.trans nt_92
  unfold Txn.av badT
  simp +contextual (maxSteps := 10000000) only [runA, runB, runC, runD, runE, runF, fieldE, storeE, binE, ↓reduceIte, Nat.reduceLT, Nat.reduceLeDiff, Nat.reduceEqDiff, Nat.reduceAdd, Nat.reduceMul, Nat.reduceSub, reduceCtorEq, putAt, unE, Nat.reduceBEq, convE, buildE, List.replicate, Int.reduceLT, Int.reduceLE, Int.reduceToNat, mkE, mapSetE, hN, hF, ty_3, ty_4, ty_9, ty_36, ty_37, notIf, isEq, bytes_length, false_implies, implies_true, h1, txCkA_at]
  simp only [runB, finC, finD, Option.isSome_some, Option.isSome_none, ↓reduceIte, Nat.reduceEqDiff, Nat.reduceAdd, Nat.reduceMul, forall_eq_or_imp, forall_eq, implies_true, Nat.reduceBEq, reduceCtorEq, false_implies, List.zip_cons_cons, List.zip_nil_left, List.zip_nil_right, Nat.reduceLeDiff, List.forall_mem_nil, rs_92]
noncomputable def ckTIC : Contract := mkC (α := List Txn) (fun q => q.length ≤ 9223372036854775807) (fun q => [.c (.sl (trows q)), .clo 92 []]) (fun _ => []) (fun q => ⟨[.pv (.c (.int .i64 (idxP (badT) q)))], []⟩)
noncomputable def ckTFC : Contract := mkC (α := List Txn) (fun q => q.length ≤ 9223372036854775807) (fun q => [.c (.sl (trows q)), .clo 92 []]) (fun _ => []) (fun q => ⟨[.pv (.c (.bool (q.any (badT))))], []⟩)
theorem ckTI_at (l : List Txn) (h : l.length ≤ 9223372036854775807) : ckTIC [.c (.sl (trows l)), .clo 92 []] [] = some ⟨[.pv (.c (.int .i64 (idxP (badT) l)))], []⟩ :=
  mkC_at (α := List Txn) l h (by
    rintro y _ h _
    simp only [List.cons.injEq, AV.c.injEq, PC.sl.injEq, PC.str.injEq, PC.int.injEq, AV.clo.injEq, true_and, and_true, trows_iff] at h
    simp only [h])
theorem ckTF_at (l : List Txn) (h : l.length ≤ 9223372036854775807) : ckTFC [.c (.sl (trows l)), .clo 92 []] [] = some ⟨[.pv (.c (.bool (l.any (badT))))], []⟩ :=
  mkC_at (α := List Txn) l h (by
    rintro y _ h _
    simp only [List.cons.injEq, AV.c.injEq, PC.sl.injEq, PC.str.injEq, PC.int.injEq, AV.clo.injEq, true_and, and_true, trows_iff] at h
    simp only [h])
set_option maxHeartbeats 2000000 in
theorem ckTI_sound (hΓ : SoundG Tryz.prog Γ) (h1 : Γ 92 = oddTC) : SoundC Tryz.prog 122 ckTIC := by
  refine sound_fn Tryz.func122 (by kernel_rfl) rfl rfl ?_
  intro args objs r hr
  obtain ⟨l, hl, rfl, rfl, rfl⟩ := mkC_inv hr
  have hl : l.length ≤ 9223372036854775807 := hl
  refine ⟨rfl, by show 2 ≤ _; decide, fun E hN hns hF => ?_⟩
  refine vc_sound hΓ mixed _ _ _ ?_
  have hN := hN.trans nt_122
  simp only [runA, runB, runC, runD, runE, runF, fieldE, storeE, binE, ↓reduceIte, Nat.reduceLT, Nat.reduceLeDiff, Nat.reduceEqDiff, Nat.reduceAdd, Nat.reduceMul, Nat.reduceSub, reduceCtorEq, putAt, unE, Nat.reduceBEq, convE, buildE, List.replicate, Int.reduceLT, Int.reduceLE, Int.reduceToNat, mkE, mapSetE, hN, hF, ty_3, ty_9, ty_22, ty_36, notIf, isEq, trows_length, Txn.pcs]
  refine AWP.loop (fun k st => ∃ i : Nat, (i ≤ l.length ∧ ∀ k, k < i → (badT) (l.getD k zeroT) = false) ∧ k = l.length - i ∧ st = ⟨[(0, .c (.sl (trows l))), (1, .clo 92 []), (7, .c (.int .i64 (l.length : Int))), (8, .c (.int .i64 (i : Int)))], []⟩) ⟨l.length, _, ?w, 0, ⟨Nat.zero_le _, fun k hk => absurd hk (by omega)⟩, rfl, rfl⟩ ?r
  case w =>
    rw [hns]
    simp only [runB, finC, finD, AS.get, AS.mem, false_implies, implies_true, ↓reduceIte, Nat.reduceEqDiff, Option.isSome_some, Option.isSome_none, forall_eq_or_imp, forall_eq, reduceCtorEq, Nat.reduceAdd, Nat.reduceMul, List.zip_cons_cons, List.zip_nil_left, List.zip_nil_right, List.forall_mem_nil]
    first | done | simp
  case r =>
    rintro k st ⟨i, ⟨hi, h8⟩, rfl, rfl⟩
    refine vc_sound hΓ mixed _ _ _ ?_
    by_cases hlt : i < l.length
    · have k1 : decide ((i : Int) < (l.length : Int)) = true := by simpa using hlt
      have e1 : IntKind.i64.wrap ((i : Int) + 1) = (i : Int) + 1 := wrapI (by omega)
      have hg := trowsD l i hlt
      unfold Txn.pcs at hg
      have hd := oddT_at (l.getD i zeroT)
      cases hp : (badT) (l.getD i zeroT) with
      | false =>
        have h8' : ∀ k, k < i + 1 → (badT) (l.getD k zeroT) = false := fun k hk => by
          by_cases e : k = i
          · rw [e]; exact hp
          · exact h8 k (by omega)
        rw [hp] at hd
        generalize l.getD i zeroT = y at hg hd
        simp only [runA, runB, runC, runD, runE, runF, fieldE, storeE, binE, ↓reduceIte, Nat.reduceLT, Nat.reduceLeDiff, Nat.reduceEqDiff, Nat.reduceAdd, Nat.reduceMul, Nat.reduceSub, reduceCtorEq, putAt, unE, Nat.reduceBEq, convE, buildE, List.replicate, Int.reduceLT, Int.reduceLE, Int.reduceToNat, mkE, mapSetE, hN, hF, ty_3, ty_9, ty_22, ty_36, notIf, isEq, k1, e1, hg, h1, hd]
        refine ⟨l.length - (i + 1), _, by omega, ?_, i + 1, ⟨by omega, h8'⟩, rfl, rfl⟩
        rw [hns]
        simp only [runB, finC, finD, AS.get, AS.mem, false_implies, implies_true, ↓reduceIte, Nat.reduceEqDiff, Option.isSome_some, Option.isSome_none, forall_eq_or_imp, forall_eq, reduceCtorEq, Nat.reduceAdd, Nat.reduceMul, List.zip_cons_cons, List.zip_nil_left, List.zip_nil_right, List.forall_mem_nil]
        first | done | simp
      | true =>
        have hS := idxP_some hlt hp h8
        rw [hp] at hd
        generalize l.getD i zeroT = y at hg hd
        simp only [runA, runB, runC, runD, runE, runF, fieldE, storeE, binE, ↓reduceIte, Nat.reduceLT, Nat.reduceLeDiff, Nat.reduceEqDiff, Nat.reduceAdd, Nat.reduceMul, Nat.reduceSub, reduceCtorEq, putAt, unE, Nat.reduceBEq, convE, buildE, List.replicate, Int.reduceLT, Int.reduceLE, Int.reduceToNat, mkE, mapSetE, hN, hF, ty_3, ty_9, ty_22, ty_36, notIf, isEq, k1, e1, hg, h1, hd]
        simp only [runB, finC, finD, Option.isSome_some, Option.isSome_none, ↓reduceIte, Nat.reduceEqDiff, Nat.reduceAdd, Nat.reduceMul, forall_eq_or_imp, forall_eq, implies_true, Nat.reduceBEq, reduceCtorEq, false_implies, List.zip_cons_cons, List.zip_nil_left, List.zip_nil_right, Nat.reduceLeDiff, List.forall_mem_nil, rs_122, hS]
    · have k1 : decide ((i : Int) < (l.length : Int)) = false := by simpa using hlt
      obtain rfl : i = l.length := by omega
      have hS := idxP_none h8
      simp only [runA, runB, runC, runD, runE, runF, fieldE, storeE, binE, ↓reduceIte, Nat.reduceLT, Nat.reduceLeDiff, Nat.reduceEqDiff, Nat.reduceAdd, Nat.reduceMul, Nat.reduceSub, reduceCtorEq, putAt, unE, Nat.reduceBEq, convE, buildE, List.replicate, Int.reduceLT, Int.reduceLE, Int.reduceToNat, mkE, mapSetE, hN, hF, ty_3, ty_9, ty_22, ty_36, notIf, isEq, k1]
      simp only [runB, finC, finD, Option.isSome_some, Option.isSome_none, ↓reduceIte, Nat.reduceEqDiff, Nat.reduceAdd, Nat.reduceMul, forall_eq_or_imp, forall_eq, implies_true, Nat.reduceBEq, reduceCtorEq, false_implies, List.zip_cons_cons, List.zip_nil_left, List.zip_nil_right, Nat.reduceLeDiff, List.forall_mem_nil, rs_122, hS]
set_option maxHeartbeats 1000000 in
theorem ckTF_sound (hΓ : SoundG Tryz.prog Γ) (h1 : Γ 122 = ckTIC) : SoundC Tryz.prog 66 ckTFC := by
  refine sound_fn Tryz.func66 (by kernel_rfl) rfl rfl ?_
  intro args objs r hr
  obtain ⟨l, hl, rfl, rfl, rfl⟩ := mkC_inv hr
  have hl : l.length ≤ 9223372036854775807 := hl
  refine ⟨rfl, by show 2 ≤ _; decide, fun E hN hns hF => ?_⟩
  refine vc_sound hΓ mixed _ _ _ ?_
  have hN := hN.trans nt_66
  have h2 := ckTI_at l hl
  have h3 := idxP_ge (badT) l
  simp only [runA, runB, runC, runD, runE, runF, fieldE, storeE, binE, ↓reduceIte, Nat.reduceLT, Nat.reduceLeDiff, Nat.reduceEqDiff, Nat.reduceAdd, Nat.reduceMul, Nat.reduceSub, reduceCtorEq, putAt, unE, Nat.reduceBEq, convE, buildE, List.replicate, Int.reduceLT, Int.reduceLE, Int.reduceToNat, mkE, mapSetE, hN, hF, ty_3, ty_4, ty_22, ty_36, notIf, isEq, h1, h2, h3]
  simp only [runB, finC, finD, Option.isSome_some, Option.isSome_none, ↓reduceIte, Nat.reduceEqDiff, Nat.reduceAdd, Nat.reduceMul, forall_eq_or_imp, forall_eq, implies_true, Nat.reduceBEq, reduceCtorEq, false_implies, List.zip_cons_cons, List.zip_nil_left, List.zip_nil_right, Nat.reduceLeDiff, List.forall_mem_nil, rs_66]

def okB (b : Blk) : Prop := (0 ≤ b.vw ∧ b.vw ≤ 1048576) ∧ (1 ≤ b.ht ∧ b.ht ≤ 1048576) ∧ b.pa.length = 32 ∧ b.ju.bl = b.pa ∧ b.ju.ht = b.ht - 1 ∧ (0 ≤ b.ju.vw ∧ b.ju.vw ≤ b.vw) ∧ b.txs.length ≤ 4 ∧ (∀ t ∈ b.txs, okT t) ∧ b.sig.length ≤ 4096
instance (b : Blk) : Decidable (okB b) := inferInstanceAs (Decidable (_ ∧ _))
def bkS (b : Blk) : Int := if okB b then 0 else 9
theorem any_bad (l : List Txn) : l.any badT = false ↔ ∀ t ∈ l, okT t := by
  rw [List.any_eq_false]
  constructor
  · intro h t ht
    have := h t ht
    rw [badT_iff, Classical.not_not] at this
    exact this
  · intro h t ht
    rw [badT_iff, Classical.not_not]
    exact h t ht
noncomputable def bkCkC : Contract := mkC (α := Blk) (fun b => b.txs.length ≤ 9223372036854775807) (fun b => [b.av]) (fun _ => []) (fun b => ⟨[.pv (.c (.int .i64 (bkS b)))], []⟩)
theorem bkCk_at (b : Blk) (h : b.txs.length ≤ 9223372036854775807) : bkCkC [.agg [.c (.int .i64 b.vw), .c (.int .i64 b.ht), .c (.str b.pa), .c (.int .i64 b.ju.vw), .c (.int .i64 b.ju.ht), .c (.str b.ju.bl), .c (.sl (votes b.ju.vs)), .c (.sl (trows b.txs)), .c (.str b.sig)]] [] = some ⟨[.pv (.c (.int .i64 (bkS b)))], []⟩ :=
  mkC_at (α := Blk) b h (by
    rintro y _ h _
    have h' : [y.av] = [b.av] := h
    simp only [List.cons.injEq, Blk.av_iff, and_true] at h'
    rw [h'])
set_option maxRecDepth 100000 in
set_option maxHeartbeats 4000000 in
theorem bkCk_sound (hΓ : SoundG Tryz.prog Γ) (h1 : Γ 66 = ckTFC) : SoundC Tryz.prog 45 bkCkC := by
  refine sound_fn Tryz.func45 (by kernel_rfl) rfl rfl ?_
  intro args objs r hr
  obtain ⟨⟨vw, ht, pa, ⟨jv, jh, jb, js⟩, txs, sig⟩, hl, rfl, rfl, rfl⟩ := mkC_inv hr
  have hl : txs.length ≤ 9223372036854775807 := hl
  refine ⟨rfl, by show 1 ≤ _; decide, fun E hN hns hF => ?_⟩
  refine vc_sound hΓ mixed _ _ _ ?_
  have hN := hN.trans nt_45
  have q1 := ckTF_at txs hl
  unfold Blk.av
  dsimp only
  simp +contextual (maxSteps := 10000000) only [runA, runB, runC, runD, runE, runF, fieldE, storeE, binE, ↓reduceIte, Nat.reduceLT, Nat.reduceLeDiff, Nat.reduceEqDiff, Nat.reduceAdd, Nat.reduceMul, Nat.reduceSub, reduceCtorEq, putAt, unE, Nat.reduceBEq, convE, buildE, List.replicate, Int.reduceLT, Int.reduceLE, Int.reduceToNat, mkE, mapSetE, hN, hF, ty_3, ty_9, ty_22, ty_29, ty_31, ty_33, ty_36, ty_37, notIf, isEq, bytes_length, false_implies, implies_true, h1, q1, trows_length]
  refine ⟨fun b1 => ?_, fun b1 => ⟨fun b2 => ?_, fun b2 => ⟨fun b3 => ?_, fun b3 => ?_⟩⟩⟩
  · have hS : bkS ⟨vw, ht, pa, ⟨jv, jh, jb, js⟩, txs, sig⟩ = 9 := if_neg (fun ⟨⟨a1, a2⟩, ⟨a3, a4⟩, a5, a6, a7, ⟨a8, a9⟩, a10, a11, a12⟩ => by
      simp only at a1 a2 a3 a4 a5
      revert b1; simp [a5]; omega)
    simp only [runB, finC, finD, Option.isSome_some, Option.isSome_none, ↓reduceIte, Nat.reduceEqDiff, Nat.reduceAdd, Nat.reduceMul, forall_eq_or_imp, forall_eq, implies_true, Nat.reduceBEq, reduceCtorEq, false_implies, List.zip_cons_cons, List.zip_nil_left, List.zip_nil_right, Nat.reduceLeDiff, List.forall_mem_nil, rs_45, hS]
  · have hw : IntKind.i64.wrap (ht - 1) = ht - 1 := by simp at b1; exact wrapI (by omega)
    have hS : bkS ⟨vw, ht, pa, ⟨jv, jh, jb, js⟩, txs, sig⟩ = 9 := if_neg (fun ⟨⟨a1, a2⟩, ⟨a3, a4⟩, a5, a6, a7, ⟨a8, a9⟩, a10, a11, a12⟩ => by
      simp only at a6 a7 a8 a9
      revert b2; rw [hw]; simp [a6, a7]; omega)
    simp only [runB, finC, finD, Option.isSome_some, Option.isSome_none, ↓reduceIte, Nat.reduceEqDiff, Nat.reduceAdd, Nat.reduceMul, forall_eq_or_imp, forall_eq, implies_true, Nat.reduceBEq, reduceCtorEq, false_implies, List.zip_cons_cons, List.zip_nil_left, List.zip_nil_right, Nat.reduceLeDiff, List.forall_mem_nil, rs_45, hS]
  · have hS : bkS ⟨vw, ht, pa, ⟨jv, jh, jb, js⟩, txs, sig⟩ = 9 := if_neg (fun ⟨⟨a1, a2⟩, ⟨a3, a4⟩, a5, a6, a7, ⟨a8, a9⟩, a10, a11, a12⟩ => by
      simp only at a10 a11 a12
      rw [← any_bad] at a11
      revert b3; rw [a11]; simp; omega)
    simp only [runB, finC, finD, Option.isSome_some, Option.isSome_none, ↓reduceIte, Nat.reduceEqDiff, Nat.reduceAdd, Nat.reduceMul, forall_eq_or_imp, forall_eq, implies_true, Nat.reduceBEq, reduceCtorEq, false_implies, List.zip_cons_cons, List.zip_nil_left, List.zip_nil_right, Nat.reduceLeDiff, List.forall_mem_nil, rs_45, hS]
  · have hw : IntKind.i64.wrap (ht - 1) = ht - 1 := by simp at b1; exact wrapI (by omega)
    have hS : bkS ⟨vw, ht, pa, ⟨jv, jh, jb, js⟩, txs, sig⟩ = 0 := if_pos (by
      rw [hw] at b2
      cases ha : txs.any badT with
      | true => rw [ha] at b3; simp at b3
      | false =>
        rw [ha] at b3
        simp at b1 b2 b3
        refine ⟨⟨by simp only; omega, by simp only; omega⟩, ⟨by simp only; omega, by simp only; omega⟩, by simp only; omega, ?_, by simp only; omega, ⟨by simp only; omega, by simp only; omega⟩, by simp only; omega, (any_bad txs).1 ha, by simp only; omega⟩
        simp only
        exact b2.1.1.1)
    simp only [runB, finC, finD, Option.isSome_some, Option.isSome_none, ↓reduceIte, Nat.reduceEqDiff, Nat.reduceAdd, Nat.reduceMul, forall_eq_or_imp, forall_eq, implies_true, Nat.reduceBEq, reduceCtorEq, false_implies, List.zip_cons_cons, List.zip_nil_left, List.zip_nil_right, Nat.reduceLeDiff, List.forall_mem_nil, rs_45, hS]


variable {Γ : FuncId → Contract}

set_option maxRecDepth 100000 in
set_option maxHeartbeats 4000000 in
theorem refBkCk_sound (hΓ : SoundG Tryz.prog Γ) (h1 : Γ 10 = txCkC) : SoundC Tryz.prog 57 bkCkC := by
  refine sound_fn Tryz.func57 (by kernel_rfl) rfl rfl ?_
  intro args objs r hr
  obtain ⟨⟨vw, ht, pa, ⟨jv, jh, jb, js⟩, txs, sig⟩, hl, rfl, rfl, rfl⟩ := mkC_inv hr
  have hl : txs.length ≤ 9223372036854775807 := hl
  refine ⟨rfl, by show 1 ≤ _; decide, fun E hN hns hF => ?_⟩
  refine vc_sound hΓ mixed _ _ _ ?_
  have hN := hN.trans nt_57
  unfold Blk.av
  dsimp only
  simp +contextual (maxSteps := 10000000) only [runA, runB, runC, runD, runE, runF, fieldE, storeE, binE, ↓reduceIte, Nat.reduceLT, Nat.reduceLeDiff, Nat.reduceEqDiff, Nat.reduceAdd, Nat.reduceMul, Nat.reduceSub, reduceCtorEq, putAt, unE, Nat.reduceBEq, convE, buildE, List.replicate, Int.reduceLT, Int.reduceLE, Int.reduceToNat, mkE, mapSetE, hN, hF, ty_3, ty_9, ty_22, ty_29, ty_31, ty_33, ty_36, notIf, isEq, bytes_length, false_implies, implies_true, trows_length]
  refine ⟨fun b1 => ?_, fun b1 => ⟨fun b2 => ?_, fun b2 => ?_⟩⟩
  · have hS : bkS ⟨vw, ht, pa, ⟨jv, jh, jb, js⟩, txs, sig⟩ = 9 := if_neg (fun ⟨⟨a1, a2⟩, ⟨a3, a4⟩, a5, a6, a7, ⟨a8, a9⟩, a10, a11, a12⟩ => by
      simp only at a1 a2 a3 a4 a5 a10 a12
      revert b1; simp [a5]; omega)
    simp only [runB, finC, finD, Option.isSome_some, Option.isSome_none, ↓reduceIte, Nat.reduceEqDiff, Nat.reduceAdd, Nat.reduceMul, forall_eq_or_imp, forall_eq, implies_true, Nat.reduceBEq, reduceCtorEq, false_implies, List.zip_cons_cons, List.zip_nil_left, List.zip_nil_right, Nat.reduceLeDiff, List.forall_mem_nil, rs_57, hS]
  · have hw : IntKind.i64.wrap (ht - 1) = ht - 1 := by simp at b1; exact wrapI (by omega)
    have hS : bkS ⟨vw, ht, pa, ⟨jv, jh, jb, js⟩, txs, sig⟩ = 9 := if_neg (fun ⟨⟨a1, a2⟩, ⟨a3, a4⟩, a5, a6, a7, ⟨a8, a9⟩, a10, a11, a12⟩ => by
      simp only at a6 a7 a8 a9
      revert b2; rw [hw]; simp [a6, a7]; omega)
    simp only [runB, finC, finD, Option.isSome_some, Option.isSome_none, ↓reduceIte, Nat.reduceEqDiff, Nat.reduceAdd, Nat.reduceMul, forall_eq_or_imp, forall_eq, implies_true, Nat.reduceBEq, reduceCtorEq, false_implies, List.zip_cons_cons, List.zip_nil_left, List.zip_nil_right, Nat.reduceLeDiff, List.forall_mem_nil, rs_57, hS]
  have hw : IntKind.i64.wrap (ht - 1) = ht - 1 := by simp at b1; exact wrapI (by omega)
  rw [hw] at b2
  simp at b1 b2
  refine AWP.loop (fun k st => ∃ i : Nat, (i ≤ txs.length ∧ ∀ k, k < i → badT (txs.getD k zeroT) = false) ∧ k = txs.length - i ∧ st = ⟨[(1, .ptr 64 0), (3, .c (.int .i64 (i : Int)))], [(64, .obj [.c (.int .i64 vw), .c (.int .i64 ht), .c (.str pa), .c (.int .i64 jv), .c (.int .i64 jh), .c (.str jb), .c (.sl (votes js)), .c (.sl (trows txs)), .c (.str sig)] false)]⟩) ⟨txs.length, _, ?w, 0, ⟨Nat.zero_le _, fun k hk => absurd hk (by omega)⟩, rfl, rfl⟩ ?r
  case w =>
    rw [hns]
    simp only [runB, finC, finD, AS.get, AS.mem, false_implies, implies_true, ↓reduceIte, Nat.reduceEqDiff, Option.isSome_some, Option.isSome_none, forall_eq_or_imp, forall_eq, reduceCtorEq, Nat.reduceAdd, Nat.reduceMul, List.zip_cons_cons, List.zip_nil_left, List.zip_nil_right, List.forall_mem_nil]
    first | done | simp
  case r =>
    rintro k st ⟨i, ⟨hi, h8⟩, rfl, rfl⟩
    refine vc_sound hΓ mixed _ _ _ ?_
    by_cases hlt : i < txs.length
    · have k1 : decide ((i : Int) < (txs.length : Int)) = true := by simpa using hlt
      have e1 : IntKind.i64.wrap ((i : Int) + 1) = (i : Int) + 1 := wrapI (by omega)
      have hg := trowsD txs i hlt
      have hx := txCk_at (txs.getD i zeroT)
      unfold Txn.pcs at hg
      cases hp : badT (txs.getD i zeroT) with
      | false =>
        have h8' : ∀ k, k < i + 1 → badT (txs.getD k zeroT) = false := fun k hk => by
          by_cases e : k = i
          · rw [e]; exact hp
          · exact h8 k (by omega)
        unfold badT at hp
        generalize txs.getD i zeroT = y at hg hx hp
        simp +contextual (maxSteps := 10000000) only [runA, runB, runC, runD, runE, runF, fieldE, storeE, binE, ↓reduceIte, Nat.reduceLT, Nat.reduceLeDiff, Nat.reduceEqDiff, Nat.reduceAdd, Nat.reduceMul, Nat.reduceSub, reduceCtorEq, putAt, unE, Nat.reduceBEq, convE, buildE, List.replicate, Int.reduceLT, Int.reduceLE, Int.reduceToNat, mkE, mapSetE, hN, hF, ty_3, ty_9, ty_22, ty_29, ty_31, ty_33, ty_36, notIf, isEq, bytes_length, false_implies, implies_true, h1, k1, e1, hg, hx, hp, trows_length]
        refine ⟨txs.length - (i + 1), _, by omega, ?_, i + 1, ⟨by omega, h8'⟩, rfl, rfl⟩
        rw [hns]
        simp only [runB, finC, finD, AS.get, AS.mem, false_implies, implies_true, ↓reduceIte, Nat.reduceEqDiff, Option.isSome_some, Option.isSome_none, forall_eq_or_imp, forall_eq, reduceCtorEq, Nat.reduceAdd, Nat.reduceMul, List.zip_cons_cons, List.zip_nil_left, List.zip_nil_right, List.forall_mem_nil]
        first | done | simp
      | true =>
        have hmem : txs.getD i zeroT ∈ txs := by rw [List.getD, List.getElem?_eq_getElem hlt]; exact List.getElem_mem hlt
        have hS : bkS ⟨vw, ht, pa, ⟨jv, jh, jb, js⟩, txs, sig⟩ = 9 := if_neg (fun ⟨_, _, _, _, _, _, _, a11, _⟩ => (badT_iff _).1 hp (a11 _ hmem))
        unfold badT at hp
        generalize txs.getD i zeroT = y at hg hx hp
        simp +contextual (maxSteps := 10000000) only [runA, runB, runC, runD, runE, runF, fieldE, storeE, binE, ↓reduceIte, Nat.reduceLT, Nat.reduceLeDiff, Nat.reduceEqDiff, Nat.reduceAdd, Nat.reduceMul, Nat.reduceSub, reduceCtorEq, putAt, unE, Nat.reduceBEq, convE, buildE, List.replicate, Int.reduceLT, Int.reduceLE, Int.reduceToNat, mkE, mapSetE, hN, hF, ty_3, ty_9, ty_22, ty_29, ty_31, ty_33, ty_36, notIf, isEq, bytes_length, false_implies, implies_true, h1, k1, e1, hg, hx, hp, trows_length]
        simp only [runB, finC, finD, Option.isSome_some, Option.isSome_none, ↓reduceIte, Nat.reduceEqDiff, Nat.reduceAdd, Nat.reduceMul, forall_eq_or_imp, forall_eq, implies_true, Nat.reduceBEq, reduceCtorEq, false_implies, List.zip_cons_cons, List.zip_nil_left, List.zip_nil_right, Nat.reduceLeDiff, List.forall_mem_nil, rs_57, hS]
    · have k1 : decide ((i : Int) < (txs.length : Int)) = false := by simpa using hlt
      have hil : i = txs.length := by omega
      have ha : ∀ t ∈ txs, okT t := fun t ht => by
        obtain ⟨k, hk, rfl⟩ := List.getElem_of_mem ht
        have := h8 k (by omega)
        rw [List.getD, List.getElem?_eq_getElem hk, Option.getD_some] at this
        have h2 := badT_iff txs[k]
        rw [this] at h2
        simpa using h2
      have hS : bkS ⟨vw, ht, pa, ⟨jv, jh, jb, js⟩, txs, sig⟩ = 0 := if_pos (by
        refine ⟨⟨by simp only; omega, by simp only; omega⟩, ⟨by simp only; omega, by simp only; omega⟩, by simp only; omega, ?_, by simp only; omega, ⟨by simp only; omega, by simp only; omega⟩, by simp only; omega, ha, by simp only; omega⟩
        simp only
        exact b2.1.1.1)
      simp only [runA, runB, runC, runD, runE, runF, fieldE, storeE, binE, ↓reduceIte, Nat.reduceLT, Nat.reduceLeDiff, Nat.reduceEqDiff, Nat.reduceAdd, Nat.reduceMul, Nat.reduceSub, reduceCtorEq, putAt, unE, Nat.reduceBEq, convE, buildE, List.replicate, Int.reduceLT, Int.reduceLE, Int.reduceToNat, mkE, mapSetE, hN, hF, ty_3, ty_9, ty_22, ty_29, ty_31, ty_33, ty_36, notIf, isEq, k1, trows_length]
      simp only [runB, finC, finD, Option.isSome_some, Option.isSome_none, ↓reduceIte, Nat.reduceEqDiff, Nat.reduceAdd, Nat.reduceMul, forall_eq_or_imp, forall_eq, implies_true, Nat.reduceBEq, reduceCtorEq, false_implies, List.zip_cons_cons, List.zip_nil_left, List.zip_nil_right, Nat.reduceLeDiff, List.forall_mem_nil, rs_57, hS]

end Go.Proofs.YtenmlgalcjkdbaaGreat.AM
