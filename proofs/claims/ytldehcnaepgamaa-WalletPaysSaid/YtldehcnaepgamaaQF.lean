/-
  QF: Au Ta Tx0 Tx1 Tx2 Tx3 Tx4 Tx5.
-/
import Derived.Test.YtldehcnaepgamaaQ7
import Derived.Test.YtldehcnaepgamaaQP
import Derived.Test.YtldehcnaepgamaaQE
set_option linter.unusedVariables false
set_option linter.unusedSimpArgs false
namespace Go.Proofs.Ytldehcnaepgamaa.AM
open Go

theorem bytes_iff {a b : List UInt8} : bytes a = bytes b ↔ a = b := ⟨bytes_inj, fun h => by rw [h]⟩
theorem texts_iff {a b : List (List UInt8)} : texts a = texts b ↔ a = b := ⟨texts_inj, fun h => by rw [h]⟩

theorem len6 (n : Int) : (putB n 6).length = 6 := by rw [putB_length]; rfl
theorem len2 (n : Int) : (putB n 2).length = 2 := by rw [putB_length]; rfl
def okN (n : Int) : Prop := 0 ≤ n ∧ n ≤ 1099511627776
theorem wNum_okN {b : List UInt8} {n : Int} (h : okN n) (hl : b.length ≤ 16384) : wNum ⟨b, 0⟩ n = ⟨b ++ putB n 6, 0⟩ := by
  unfold okN at h
  unfold wNum
  rw [if_neg (by omega), if_pos hl]
theorem rText_ok {b s : List UInt8} (h : s.length ≤ 4096) (hl : b.length ≤ 16384) : rText ⟨b, 0⟩ s = ⟨b ++ putB s.length 2 ++ s, 0⟩ := by
  unfold rText
  rw [if_neg (by omega), if_pos hl]
theorem wNum_len (w : WS) (n : Int) : (wNum w n).b.length ≤ w.b.length + 6 := by
  unfold wNum
  split
  · simp
  · split
    · show (w.b ++ putB n 6).length ≤ _
      rw [List.length_append, len6]; omega
    · omega
theorem rText_len (w : WS) (s : List UInt8) : (rText w s).b.length ≤ w.b.length + 2 + s.length ∧ (rText w s).b.length ≤ w.b.length + 4098 := by
  unfold rText
  split
  · simp only; omega
  · split
    · show (w.b ++ putB s.length 2 ++ s).length ≤ _ ∧ (w.b ++ putB s.length 2 ++ s).length ≤ _
      rw [List.length_append, List.length_append, len2]; omega
    · omega
theorem num_atw (w : WS) (n : Int) (h : w.b.length ≤ 100000) : numC [.ptr 6400000 0, .c (.int .i64 n)] [[.own 1 (bytes w.b), .c (.int .i64 w.e), .c (.bool true)]] = some ⟨[], [[.own 1 (bytes (wNum w n).b), .c (.int .i64 (wNum w n).e), .c (.bool true)]]⟩ := by
  simp [numC, asB_bytes, inObj, h, wOV]
theorem text_atw (w : WS) (s : List UInt8) (h : w.b.length ≤ 100000) (h2 : s.length ≤ 9223372036854775807) : textC [.ptr 6400000 0, .c (.str s)] [[.own 1 (bytes w.b), .c (.int .i64 w.e), .c (.bool true)]] = some ⟨[], [[.own 1 (bytes (rText w s).b), .c (.int .i64 (rText w s).e), .c (.bool true)]]⟩ := by
  simp [textC, asB_bytes, inObj, h, h2, wOV]
theorem done_atw (w : WS) : doneC [.ptr 6400000 0] [[.own 1 (bytes w.b), .c (.int .i64 w.e), .c (.bool true)]] = some ⟨[.fresh 1 (bytes (doneR w).1), .pv (.c (.int .i64 (doneR w).2))], [[.own 1 (bytes w.b), .c (.int .i64 w.e), .c (.bool true)]]⟩ := by
  simp [doneC, asB_bytes, inObj, wOV]

def rd (r : RS) (most : Int) : Int × RS := if r.e = 0 then nextN ⟨r.b, 0⟩ most else (0, r)
def rdT (r : RS) (most : Int) : List UInt8 × RS := if r.e = 0 then nextT ⟨r.b, 0⟩ most else ([], r)
theorem nextN_len {b : List UInt8} {most : Int} : (nextN ⟨b, 0⟩ most).2.b.length ≤ b.length := by
  unfold nextN
  split
  · simp
  · split
    · simp
    · simp
theorem rd_len (r : RS) (most : Int) : (rd r most).2.b.length ≤ r.b.length := by
  unfold rd
  split
  · exact nextN_len
  · exact Nat.le_refl _
theorem nextT_len {b : List UInt8} {most : Int} : (nextT ⟨b, 0⟩ most).2.b.length ≤ b.length := by
  unfold nextT
  split
  · simp
  · split
    · simp
    · unfold tookR
      split
      · simp
      · simp
theorem rdT_len (r : RS) (most : Int) : (rdT r most).2.b.length ≤ r.b.length := by
  unfold rdT
  split
  · exact nextT_len
  · exact Nat.le_refl _

theorem num_atr (r : RS) (most : Int) (h : r.b.length ≤ 140737488355328) : rdNumC [.ptr 6400000 0, .c (.int .i64 most)] [[.c (.sl (bytes r.b)), .c (.int .i64 r.e), .c (.bool true)]] = some ⟨[.pv (.c (.int .i64 (rd r most).1))], [[.c (.sl (bytes (rd r most).2.b)), .c (.int .i64 (rd r most).2.e), .c (.bool true)]]⟩ := by
  have h2 : r.b.length ≤ 9223372036854775807 := by omega
  unfold rd
  by_cases he : r.e = 0
  · simp [rdNumC, asB_bytes, inObj, h2, he, rOV]
  · simp [rdNumC, asB_bytes, inObj, h2, he, rOV]
theorem text_atr (r : RS) (most : Int) (h : r.b.length ≤ 140737488355328) : rdTextC [.ptr 6400000 0, .c (.int .i64 most)] [[.c (.sl (bytes r.b)), .c (.int .i64 r.e), .c (.bool true)]] = some ⟨[.pv (.c (.str (rdT r most).1))], [[.c (.sl (bytes (rdT r most).2.b)), .c (.int .i64 (rdT r most).2.e), .c (.bool true)]]⟩ := by
  have h2 : r.b.length ≤ 9223372036854775807 := by omega
  unfold rdT
  by_cases he : r.e = 0
  · simp [rdTextC, asB_bytes, inObj, h2, he, rOV]
  · simp [rdTextC, asB_bytes, inObj, h2, he, rOV]
theorem err_atr (r : RS) : errC [.ptr 6400000 0] [[.c (.sl (bytes r.b)), .c (.int .i64 r.e), .c (.bool true)]] = some ⟨[.pv (.c (.int .i64 r.e))], [[.c (.sl (bytes r.b)), .c (.int .i64 r.e), .c (.bool true)]]⟩ := by
  simp [errC, inObj]


variable {Γ : FuncId → Contract}

structure Txn where
  fr : Int
  to : Int
  am : Int
  no : Int
  sig : List UInt8
  deriving DecidableEq
def Txn.pcs (t : Txn) : List PC := [.int .i64 t.fr, .int .i64 t.to, .int .i64 t.am, .int .i64 t.no, .str t.sig]
def Txn.av (t : Txn) : AV := .agg [.c (.int .i64 t.fr), .c (.int .i64 t.to), .c (.int .i64 t.am), .c (.int .i64 t.no), .c (.str t.sig)]
theorem Txn.av_inj {a b : Txn} (h : a.av = b.av) : a = b := by
  obtain ⟨a1, a2, a3, a4, a5⟩ := a
  obtain ⟨b1, b2, b3, b4, b5⟩ := b
  simp only [Txn.av, AV.agg.injEq, List.cons.injEq, AV.c.injEq, PC.str.injEq, PC.int.injEq, true_and, and_true] at h
  obtain ⟨rfl, rfl, rfl, rfl, rfl⟩ := h
  rfl
theorem Txn.av_iff {a b : Txn} : a.av = b.av ↔ a = b := ⟨Txn.av_inj, fun h => by rw [h]⟩
def okT (t : Txn) : Prop := (0 ≤ t.fr ∧ t.fr ≤ 3) ∧ (0 ≤ t.to ∧ t.to ≤ 3) ∧ t.fr ≠ t.to ∧ 1 ≤ t.am ∧ t.am ≤ 1000 ∧ 0 ≤ t.no ∧ t.no ≤ 1099511627776 ∧ t.sig.length ≤ 4096
instance (t : Txn) : Decidable (okT t) := inferInstanceAs (Decidable (_ ∧ _))
def txS (t : Txn) : Int := if okT t then 0 else 9
def zeroT : Txn := ⟨0, 0, 0, 0, []⟩

def clientC : Contract := fun args objs => match args, objs with
  | [.c (.int .i64 n)], [] => some ⟨[.pv (.c (.bool (decide (n ≥ 0) && decide (n < 4))))], []⟩
  | _, _ => none
theorem client_at (n : Int) : clientC [.c (.int .i64 n)] [] = some ⟨[.pv (.c (.bool (decide (n ≥ 0) && decide (n < 4))))], []⟩ := rfl
set_option maxHeartbeats 1000000 in
theorem client_sound : SoundC Try.prog 76 clientC := by
  refine sound_fn Try.func76 (by kernel_rfl) rfl rfl ?_
  intro args objs r hr
  unfold clientC at hr
  split at hr
  · rename_i n
    cases hr
    refine ⟨rfl, by show 1 ≤ _; decide, fun E hN hns hF => ?_⟩
    refine vc_sound none0_sound mixed _ _ _ ?_
    have hN := hN.trans nt_76
    simp +contextual (maxSteps := 10000000) only [runA, runB, runC, runD, runE, runF, fieldE, storeE, binE, ↓reduceIte, Nat.reduceLT, Nat.reduceLeDiff, Nat.reduceEqDiff, Nat.reduceAdd, Nat.reduceMul, Nat.reduceSub, reduceCtorEq, putAt, unE, Nat.reduceBEq, convE, buildE, List.replicate, Int.reduceLT, Int.reduceLE, Int.reduceToNat, mkE, mapSetE, hN, hF, ty_3, ty_4, notIf, isEq, bytes_length, false_implies, implies_true]
    simp only [runB, finC, finD, Option.isSome_some, Option.isSome_none, ↓reduceIte, Nat.reduceEqDiff, Nat.reduceAdd, Nat.reduceMul, forall_eq_or_imp, forall_eq, implies_true, Nat.reduceBEq, reduceCtorEq, false_implies, List.zip_cons_cons, List.zip_nil_left, List.zip_nil_right, Nat.reduceLeDiff, List.forall_mem_nil, rs_76]
  · cases hr
theorem client_t {n : Int} (h : 0 ≤ n ∧ n ≤ 3) : clientC [.c (.int .i64 n)] [] = some ⟨[.pv (.c (.bool true))], []⟩ := by
  have h1 : (decide (n ≥ 0) && decide (n < 4)) = true := by simp; omega
  simp only [clientC, h1]
theorem client_f {n : Int} (h : ¬ (0 ≤ n ∧ n ≤ 3)) : clientC [.c (.int .i64 n)] [] = some ⟨[.pv (.c (.bool false))], []⟩ := by
  have h1 : (decide (n ≥ 0) && decide (n < 4)) = false := by simp; omega
  simp only [clientC, h1]

noncomputable def txCkC : Contract := mkC (α := Txn) (fun _ => True) (fun t => [t.av]) (fun _ => []) (fun t => ⟨[.pv (.c (.int .i64 (txS t)))], []⟩)
theorem txCk_at (t : Txn) : txCkC [.agg [.c (.int .i64 t.fr), .c (.int .i64 t.to), .c (.int .i64 t.am), .c (.int .i64 t.no), .c (.str t.sig)]] [] = some ⟨[.pv (.c (.int .i64 (txS t)))], []⟩ :=
  mkC_at (α := Txn) t trivial (by
    rintro y _ h _
    have h' : [y.av] = [t.av] := h
    have e : y = t := Txn.av_inj (by simpa using h')
    rw [e])

set_option maxRecDepth 100000 in
set_option maxHeartbeats 4000000 in
theorem txCk_sound (hΓ : SoundG Try.prog Γ) (h1 : Γ 76 = clientC) : SoundC Try.prog 90 txCkC := by
  refine sound_fn Try.func90 (by kernel_rfl) rfl rfl ?_
  intro args objs r hr
  obtain ⟨⟨fr, to, am, no, sig⟩, _, rfl, rfl, rfl⟩ := mkC_inv hr
  refine ⟨rfl, by show 1 ≤ _; decide, fun E hN hns hF => ?_⟩
  refine vc_sound hΓ mixed _ _ _ ?_
  have hN := hN.trans nt_90
  unfold Txn.av
  simp +contextual (maxSteps := 10000000) only [runA, runB, runC, runD, runE, runF, fieldE, storeE, binE, ↓reduceIte, Nat.reduceLT, Nat.reduceLeDiff, Nat.reduceEqDiff, Nat.reduceAdd, Nat.reduceMul, Nat.reduceSub, reduceCtorEq, putAt, unE, Nat.reduceBEq, convE, buildE, List.replicate, Int.reduceLT, Int.reduceLE, Int.reduceToNat, mkE, mapSetE, hN, hF, ty_3, ty_4, ty_9, ty_27, ty_54, notIf, isEq, bytes_length, false_implies, implies_true, h1, client_at]
  refine ⟨fun hb => ?_, fun hb => ?_⟩
  · have hS : txS ⟨fr, to, am, no, sig⟩ = 9 := if_neg (by simp at hb; unfold okT; simp only; omega)
    simp only [runB, finC, finD, Option.isSome_some, Option.isSome_none, ↓reduceIte, Nat.reduceEqDiff, Nat.reduceAdd, Nat.reduceMul, forall_eq_or_imp, forall_eq, implies_true, Nat.reduceBEq, reduceCtorEq, false_implies, List.zip_cons_cons, List.zip_nil_left, List.zip_nil_right, Nat.reduceLeDiff, List.forall_mem_nil, rs_90, hS]
  · have hS : txS ⟨fr, to, am, no, sig⟩ = 0 := if_pos (by simp at hb; unfold okT; simp only; omega)
    simp only [runB, finC, finD, Option.isSome_some, Option.isSome_none, ↓reduceIte, Nat.reduceEqDiff, Nat.reduceAdd, Nat.reduceMul, forall_eq_or_imp, forall_eq, implies_true, Nat.reduceBEq, reduceCtorEq, false_implies, List.zip_cons_cons, List.zip_nil_left, List.zip_nil_right, Nat.reduceLeDiff, List.forall_mem_nil, rs_90, hS]

set_option maxRecDepth 100000 in
set_option maxHeartbeats 4000000 in
theorem refTxCk_sound : SoundC Try.prog 32 txCkC := by
  refine sound_fn Try.func32 (by kernel_rfl) rfl rfl ?_
  intro args objs r hr
  obtain ⟨⟨fr, to, am, no, sig⟩, _, rfl, rfl, rfl⟩ := mkC_inv hr
  refine ⟨rfl, by show 1 ≤ _; decide, fun E hN hns hF => ?_⟩
  refine vc_sound none0_sound mixed _ _ _ ?_
  have hN := hN.trans nt_32
  unfold Txn.av
  simp +contextual (maxSteps := 10000000) only [runA, runB, runC, runD, runE, runF, fieldE, storeE, binE, ↓reduceIte, Nat.reduceLT, Nat.reduceLeDiff, Nat.reduceEqDiff, Nat.reduceAdd, Nat.reduceMul, Nat.reduceSub, reduceCtorEq, putAt, unE, Nat.reduceBEq, convE, buildE, List.replicate, Int.reduceLT, Int.reduceLE, Int.reduceToNat, mkE, mapSetE, hN, hF, ty_3, ty_9, ty_54, notIf, isEq, bytes_length, false_implies, implies_true]
  refine ⟨fun hb => ?_, fun hb => ?_⟩
  · have hS : txS ⟨fr, to, am, no, sig⟩ = 9 := if_neg (by simp at hb; unfold okT; simp only; omega)
    simp only [runB, finC, finD, Option.isSome_some, Option.isSome_none, ↓reduceIte, Nat.reduceEqDiff, Nat.reduceAdd, Nat.reduceMul, forall_eq_or_imp, forall_eq, implies_true, Nat.reduceBEq, reduceCtorEq, false_implies, List.zip_cons_cons, List.zip_nil_left, List.zip_nil_right, Nat.reduceLeDiff, List.forall_mem_nil, rs_32, hS]
  · have hS : txS ⟨fr, to, am, no, sig⟩ = 0 := if_pos (by simp at hb; unfold okT; simp only; omega)
    simp only [runB, finC, finD, Option.isSome_some, Option.isSome_none, ↓reduceIte, Nat.reduceEqDiff, Nat.reduceAdd, Nat.reduceMul, forall_eq_or_imp, forall_eq, implies_true, Nat.reduceBEq, reduceCtorEq, false_implies, List.zip_cons_cons, List.zip_nil_left, List.zip_nil_right, Nat.reduceLeDiff, List.forall_mem_nil, rs_32, hS]


variable {Γ : FuncId → Contract}

def txW : List UInt8 := [116, 120]
def arrT (t : Txn) (i : Nat) : Int := if i = 0 then t.fr else if i = 1 then t.to else if i = 2 then t.am else t.no
/-- The fields, one behind another, till i. -/
def txF (w : WS) (t : Txn) : Nat → WS
  | 0 => rText w txW
  | i + 1 => wNum (txF w t i) (arrT t i)
theorem txF_len (w : WS) (t : Txn) : ∀ i, (txF w t i).b.length ≤ w.b.length + 4 + 6 * i
  | 0 => by have := (rText_len w txW).1; show (rText w txW).b.length ≤ _; simp only [txW, List.length_cons, List.length_nil] at this; simp only [txW]; omega
  | i + 1 => by have h1 := txF_len w t i; have h2 := wNum_len (txF w t i) (arrT t i); show (wNum _ _).b.length ≤ _; omega
def txB (t : Txn) : List UInt8 := putB 2 2 ++ (txW ++ (putB t.fr 6 ++ (putB t.to 6 ++ (putB t.am 6 ++ putB t.no 6))))
theorem txB_length (t : Txn) : (txB t).length = 28 := by simp [txB, txW, len6, len2]
theorem txF_ok {t : Txn} (h : okT t) {b : List UInt8} (hb : b.length ≤ 16000) : txF ⟨b, 0⟩ t 4 = ⟨b ++ txB t, 0⟩ := by
  obtain ⟨h1, h2, h3, h4, h5, h6, h7, h8⟩ := h
  have e0 : txF ⟨b, 0⟩ t 0 = ⟨b ++ putB 2 2 ++ txW, 0⟩ := rText_ok (s := txW) (by decide) (by omega)
  have e1 : txF ⟨b, 0⟩ t 1 = ⟨b ++ putB 2 2 ++ txW ++ putB t.fr 6, 0⟩ := by
    show wNum (txF ⟨b, 0⟩ t 0) t.fr = _
    rw [e0, wNum_okN (by unfold okN; omega) (by simp [txW, len2]; omega)]
  have e2 : txF ⟨b, 0⟩ t 2 = ⟨b ++ putB 2 2 ++ txW ++ putB t.fr 6 ++ putB t.to 6, 0⟩ := by
    show wNum (txF ⟨b, 0⟩ t 1) t.to = _
    rw [e1, wNum_okN (by unfold okN; omega) (by simp [txW, len2, len6]; omega)]
  have e3 : txF ⟨b, 0⟩ t 3 = ⟨b ++ putB 2 2 ++ txW ++ putB t.fr 6 ++ putB t.to 6 ++ putB t.am 6, 0⟩ := by
    show wNum (txF ⟨b, 0⟩ t 2) t.am = _
    rw [e2, wNum_okN (by unfold okN; omega) (by simp [txW, len2, len6]; omega)]
  show wNum (txF ⟨b, 0⟩ t 3) t.no = _
  rw [e3, wNum_okN (by unfold okN; omega) (by simp [txW, len2, len6]; omega)]
  simp [txB]

structure Wt where
  w : WS
  t : Txn
theorem bytes_ovi {a b : List UInt8} {x y : Int} (h : [[OV.own 1 (bytes a), .c (.int .i64 x), .c (.bool true)]] = [[OV.own 1 (bytes b), .c (.int .i64 y), .c (.bool true)]]) : a = b ∧ x = y := by
  simp only [List.cons.injEq, OV.own.injEq, OV.c.injEq, PC.int.injEq, true_and, and_true] at h
  exact ⟨bytes_inj h.1, h.2⟩
noncomputable def txtC : Contract := mkC (α := Wt) (fun p => p.w.b.length ≤ 90000) (fun p => [.ptr 6400000 0, p.t.av]) (fun p => [[.own 1 (bytes p.w.b), .c (.int .i64 p.w.e), .c (.bool true)]]) (fun p => ⟨[], [[.own 1 (bytes (txF p.w p.t 4).b), .c (.int .i64 (txF p.w p.t 4).e), .c (.bool true)]]⟩)
theorem txt_at (w : WS) (t : Txn) (h : w.b.length ≤ 90000) : txtC [.ptr 6400000 0, .agg [.c (.int .i64 t.fr), .c (.int .i64 t.to), .c (.int .i64 t.am), .c (.int .i64 t.no), .c (.str t.sig)]] [[.own 1 (bytes w.b), .c (.int .i64 w.e), .c (.bool true)]] = some ⟨[], [[.own 1 (bytes (txF w t 4).b), .c (.int .i64 (txF w t 4).e), .c (.bool true)]]⟩ :=
  mkC_at (α := Wt) ⟨w, t⟩ h (by
    rintro ⟨⟨b', e'⟩, t'⟩ _ h ho
    obtain ⟨b, e⟩ := w
    have h' : [AV.ptr 6400000 0, t'.av] = [AV.ptr 6400000 0, t.av] := h
    have e1 : t' = t := Txn.av_inj (by simpa using h')
    obtain ⟨e2, e3⟩ := bytes_ovi ho
    dsimp only at e2 e3
    rw [e1, e2, e3])
noncomputable def txPutC : Contract := mkC (α := Wt) (fun p => p.w.b.length ≤ 90000 ∧ p.t.sig.length ≤ 9223372036854775807) (fun p => [.ptr 6400000 0, p.t.av]) (fun p => [[.own 1 (bytes p.w.b), .c (.int .i64 p.w.e), .c (.bool true)]]) (fun p => ⟨[], [[.own 1 (bytes (rText (txF p.w p.t 4) p.t.sig).b), .c (.int .i64 (rText (txF p.w p.t 4) p.t.sig).e), .c (.bool true)]]⟩)
set_option maxRecDepth 100000 in
set_option maxHeartbeats 4000000 in
theorem txt_sound (hΓ : SoundG Try.prog Γ) (h1 : Γ 83 = textC) (h2 : Γ 80 = numC) : SoundC Try.prog 92 txtC := by
  refine sound_fn Try.func92 (by kernel_rfl) rfl rfl ?_
  intro args objs r0 hr
  obtain ⟨⟨w, ⟨fr, to, am, no, sig⟩⟩, hl, rfl, rfl, rfl⟩ := mkC_inv hr
  have hl : w.b.length ≤ 90000 := hl
  refine ⟨rfl, by show 2 ≤ _; decide, fun E hN hns hF => ?_⟩
  refine vc_sound hΓ mixed _ _ _ ?_
  have hN := hN.trans nt_92
  unfold Txn.av
  dsimp only
  have q1 : textC [.ptr 6400000 0, .c (.str [116, 120])] [[.own 1 (bytes w.b), .c (.int .i64 w.e), .c (.bool true)]] = some ⟨[], [[.own 1 (bytes (txF w ⟨fr, to, am, no, sig⟩ 0).b), .c (.int .i64 (txF w ⟨fr, to, am, no, sig⟩ 0).e), .c (.bool true)]]⟩ := text_atw w [116, 120] (by omega) (by decide)
  have hfl := txF_len w ⟨fr, to, am, no, sig⟩
  obtain ⟨wb, we⟩ := w
  dsimp only at q1 ⊢
  simp only [runA, runB, runC, runD, runE, runF, fieldE, storeE, binE, ↓reduceIte, Nat.reduceLT, Nat.reduceLeDiff, Nat.reduceEqDiff, Nat.reduceAdd, Nat.reduceMul, Nat.reduceSub, reduceCtorEq, putAt, unE, Nat.reduceBEq, convE, buildE, List.replicate, Int.reduceLT, Int.reduceLE, Int.reduceToNat, mkE, mapSetE, hN, hF, ty_3, ty_9, ty_54, ty_86, ty_163, notIf, isEq, h1, q1, bytes_length]
  refine AWP.loop (fun k st => ∃ i : Nat, i ≤ 4 ∧ k = 4 - i ∧ st = ⟨[(0, .ptr 6400000 0), (16, .agg [.c (.int .i64 fr), .c (.int .i64 to), .c (.int .i64 am), .c (.int .i64 no)]), (17, .c (.int .i64 (i : Int)))],
    [(6400000, .obj [.own 6400001 1 (bytes (txF ⟨wb, we⟩ ⟨fr, to, am, no, sig⟩ i).b), .c (.int .i64 (txF ⟨wb, we⟩ ⟨fr, to, am, no, sig⟩ i).e), .c (.bool true)] false), (6400001, .row 1 (txF ⟨wb, we⟩ ⟨fr, to, am, no, sig⟩ i).b.length)]⟩) ⟨4, _, ?w, 0, Nat.zero_le _, rfl, rfl⟩ ?r
  case w =>
    rw [hns]
    simp only [runB, finC, finD, AS.get, AS.mem, false_implies, implies_true, ↓reduceIte, Nat.reduceEqDiff, Option.isSome_some, Option.isSome_none, forall_eq_or_imp, forall_eq, reduceCtorEq, Nat.reduceAdd, Nat.reduceMul, List.zip_cons_cons, List.zip_nil_left, List.zip_nil_right, List.forall_mem_nil]
    first | done | simp
  case r =>
    rintro k st ⟨i, hi, rfl, rfl⟩
    refine vc_sound hΓ mixed _ _ _ ?_
    have hlen := hfl i
    by_cases hlt : i < 4
    · have g2 : decide ((i : Int) < 4) = true := by simp; omega
      have g3 : ((i : Int) < ((4 : Nat) : Int)) = True := by simp; omega
      have e1 : IntKind.i64.wrap ((i : Int) + 1) = (i : Int) + 1 := wrapI (by omega)
      have hx : ([AV.c (.int .i64 fr), AV.c (.int .i64 to), AV.c (.int .i64 am), AV.c (.int .i64 no)] : List AV)[i]? = some (.c (.int .i64 (arrT ⟨fr, to, am, no, sig⟩ i))) := by
        unfold arrT
        rcases (show i = 0 ∨ i = 1 ∨ i = 2 ∨ i = 3 by omega) with rfl | rfl | rfl | rfl <;> rfl
      have hn := num_atw (txF ⟨wb, we⟩ ⟨fr, to, am, no, sig⟩ i) (arrT ⟨fr, to, am, no, sig⟩ i) (by dsimp only at hlen hl; omega)
      have hb : wNum (txF ⟨wb, we⟩ ⟨fr, to, am, no, sig⟩ i) (arrT ⟨fr, to, am, no, sig⟩ i) = txF ⟨wb, we⟩ ⟨fr, to, am, no, sig⟩ (i + 1) := rfl
      rw [hb] at hn
      generalize hg : ([AV.c (.int .i64 fr), AV.c (.int .i64 to), AV.c (.int .i64 am), AV.c (.int .i64 no)] : List AV) = ar at hx
      simp only [runA, runB, runC, runD, runE, runF, fieldE, storeE, binE, ↓reduceIte, Nat.reduceLT, Nat.reduceLeDiff, Nat.reduceEqDiff, Nat.reduceAdd, Nat.reduceMul, Nat.reduceSub, reduceCtorEq, putAt, unE, Nat.reduceBEq, convE, buildE, List.replicate, Int.reduceLT, Int.reduceLE, Int.reduceToNat, mkE, mapSetE, hN, hF, ty_3, ty_9, ty_54, ty_86, ty_163, notIf, isEq, g2, g3, e1, hx, h2, hn, bytes_length]
      refine ⟨4 - (i + 1), _, by omega, ?_, i + 1, by omega, rfl, rfl⟩
      rw [hns]
      subst hg
      simp only [runB, finC, finD, AS.get, AS.mem, false_implies, implies_true, ↓reduceIte, Nat.reduceEqDiff, Option.isSome_some, Option.isSome_none, forall_eq_or_imp, forall_eq, reduceCtorEq, Nat.reduceAdd, Nat.reduceMul, List.zip_cons_cons, List.zip_nil_left, List.zip_nil_right, List.forall_mem_nil, bytes_length]
      first | done | simp
    · have g2 : decide ((i : Int) < 4) = false := by simp; omega
      obtain rfl : i = 4 := by omega
      generalize txF ⟨wb, we⟩ ⟨fr, to, am, no, sig⟩ 4 = w2
      simp only [runA, runB, runC, runD, runE, runF, fieldE, storeE, binE, ↓reduceIte, Nat.reduceLT, Nat.reduceLeDiff, Nat.reduceEqDiff, Nat.reduceAdd, Nat.reduceMul, Nat.reduceSub, reduceCtorEq, putAt, unE, Nat.reduceBEq, convE, buildE, List.replicate, Int.reduceLT, Int.reduceLE, Int.reduceToNat, mkE, mapSetE, hN, hF, ty_3, ty_9, ty_54, ty_86, ty_163, notIf, isEq, g2]
      simp only [runB, finC, finD, Option.isSome_some, Option.isSome_none, ↓reduceIte, Nat.reduceEqDiff, Nat.reduceAdd, Nat.reduceMul, forall_eq_or_imp, forall_eq, implies_true, Nat.reduceBEq, reduceCtorEq, false_implies, List.zip_cons_cons, List.zip_nil_left, List.zip_nil_right, Nat.reduceLeDiff, List.forall_mem_nil, rs_92, bytes_length]

set_option maxRecDepth 100000 in
set_option maxHeartbeats 4000000 in
theorem txPut_sound (hΓ : SoundG Try.prog Γ) (h1 : Γ 92 = txtC) (h2 : Γ 83 = textC) : SoundC Try.prog 44 txPutC := by
  refine sound_fn Try.func44 (by kernel_rfl) rfl rfl ?_
  intro args objs r0 hr
  obtain ⟨⟨w, t⟩, ⟨hl, hs⟩, rfl, rfl, rfl⟩ := mkC_inv hr
  have hl : w.b.length ≤ 90000 := hl
  have hs : t.sig.length ≤ 9223372036854775807 := hs
  refine ⟨rfl, by show 2 ≤ _; decide, fun E hN hns hF => ?_⟩
  refine vc_sound hΓ mixed _ _ _ ?_
  have hN := hN.trans nt_44
  unfold Txn.av
  dsimp only
  have q1 := txt_at w t hl
  have hfl := txF_len w t 4
  have q2 := text_atw (txF w t 4) t.sig (by omega) hs
  generalize rText (txF w t 4) t.sig = w3 at q2 ⊢
  generalize txF w t 4 = w2 at q1 q2
  simp only [runA, runB, runC, runD, runE, runF, fieldE, storeE, binE, ↓reduceIte, Nat.reduceLT, Nat.reduceLeDiff, Nat.reduceEqDiff, Nat.reduceAdd, Nat.reduceMul, Nat.reduceSub, reduceCtorEq, putAt, unE, Nat.reduceBEq, convE, buildE, List.replicate, Int.reduceLT, Int.reduceLE, Int.reduceToNat, mkE, mapSetE, hN, hF, ty_3, ty_9, ty_54, ty_86, notIf, isEq, h1, q1, h2, q2, bytes_length]
  simp only [runB, finC, finD, Option.isSome_some, Option.isSome_none, ↓reduceIte, Nat.reduceEqDiff, Nat.reduceAdd, Nat.reduceMul, forall_eq_or_imp, forall_eq, implies_true, Nat.reduceBEq, reduceCtorEq, false_implies, List.zip_cons_cons, List.zip_nil_left, List.zip_nil_right, Nat.reduceLeDiff, List.forall_mem_nil, rs_44, bytes_length]

/-- What is signed. -/
def txT (t : Txn) : List UInt8 := if okT t then txB t else []
noncomputable def txTC : Contract := mkC (α := Txn) (fun _ => True) (fun t => [t.av]) (fun _ => []) (fun t => ⟨[.pv (.c (.sl (bytes (txT t))))], []⟩)
theorem txT_at (t : Txn) : txTC [.agg [.c (.int .i64 t.fr), .c (.int .i64 t.to), .c (.int .i64 t.am), .c (.int .i64 t.no), .c (.str t.sig)]] [] = some ⟨[.pv (.c (.sl (bytes (txT t))))], []⟩ :=
  mkC_at (α := Txn) t trivial (by
    rintro y _ h _
    have h' : [y.av] = [t.av] := h
    have e : y = t := Txn.av_inj (by simpa using h')
    rw [e])
set_option maxRecDepth 100000 in
set_option maxHeartbeats 4000000 in
theorem txT_sound (hΓ : SoundG Try.prog Γ) (h1 : Γ 90 = txCkC) (h2 : Γ 43 = newC) (h3 : Γ 92 = txtC) (h4 : Γ 45 = doneC) : SoundC Try.prog 91 txTC := by
  refine sound_fn Try.func91 (by kernel_rfl) rfl rfl ?_
  intro args objs r0 hr
  obtain ⟨t, _, rfl, rfl, rfl⟩ := mkC_inv hr
  refine ⟨rfl, by show 1 ≤ _; decide, fun E hN hns hF => ?_⟩
  refine vc_sound hΓ mixed _ _ _ ?_
  have hN := hN.trans nt_91
  unfold Txn.av
  have q1 := txCk_at t
  by_cases hk : okT t
  case neg =>
    have hS : txT t = [] := if_neg hk
    rw [show txS t = 9 from if_neg hk] at q1
    have b0 : ((9 : Int) != 0) = true := rfl
    rw [hS]
    simp only [runA, runB, runC, runD, runE, runF, fieldE, storeE, binE, ↓reduceIte, Nat.reduceLT, Nat.reduceLeDiff, Nat.reduceEqDiff, Nat.reduceAdd, Nat.reduceMul, Nat.reduceSub, reduceCtorEq, putAt, unE, Nat.reduceBEq, convE, buildE, List.replicate, Int.reduceLT, Int.reduceLE, Int.reduceToNat, mkE, mapSetE, hN, hF, ty_3, ty_5, ty_9, ty_25, ty_27, ty_54, ty_86, notIf, isEq, h1, q1, b0]
    simp only [runB, finC, finD, Option.isSome_some, Option.isSome_none, ↓reduceIte, Nat.reduceEqDiff, Nat.reduceAdd, Nat.reduceMul, forall_eq_or_imp, forall_eq, implies_true, Nat.reduceBEq, reduceCtorEq, false_implies, List.zip_cons_cons, List.zip_nil_left, List.zip_nil_right, Nat.reduceLeDiff, List.forall_mem_nil, rs_91, bytes, List.map_nil]
  have hS : txT t = txB t := if_pos hk
  rw [show txS t = 0 from if_pos hk] at q1
  have b0 : ((0 : Int) != 0) = false := rfl
  have q2 := txt_at ⟨[], 0⟩ t (by simp)
  rw [txF_ok hk (by simp)] at q2
  have hbl := txB_length t
  have q3 := done_atw ⟨txB t, 0⟩
  rw [show doneR ⟨txB t, 0⟩ = (txB t, 0) from by unfold doneR; rw [if_pos rfl, if_neg (by show ¬ 16384 < (txB t).length; omega)]] at q3
  rw [hS]
  dsimp only at q2 q3
  rw [List.nil_append] at q2
  generalize txB t = bb at q2 q3 hbl ⊢
  simp only [runA, runB, runC, runD, runE, runF, fieldE, storeE, binE, ↓reduceIte, Nat.reduceLT, Nat.reduceLeDiff, Nat.reduceEqDiff, Nat.reduceAdd, Nat.reduceMul, Nat.reduceSub, reduceCtorEq, putAt, unE, Nat.reduceBEq, convE, buildE, List.replicate, Int.reduceLT, Int.reduceLE, Int.reduceToNat, mkE, mapSetE, hN, hF, ty_3, ty_5, ty_9, ty_25, ty_27, ty_54, ty_86, notIf, isEq, h1, q1, b0, h2, newC, h3, q2, h4, q3, bytes_length]
  simp only [runB, finC, finD, Option.isSome_some, Option.isSome_none, ↓reduceIte, Nat.reduceEqDiff, Nat.reduceAdd, Nat.reduceMul, forall_eq_or_imp, forall_eq, implies_true, Nat.reduceBEq, reduceCtorEq, false_implies, List.zip_cons_cons, List.zip_nil_left, List.zip_nil_right, Nat.reduceLeDiff, List.forall_mem_nil, rs_91]


variable {Γ : FuncId → Contract}

def tA (r : RS) := rd (rdT r 2).2 4
def tB (r : RS) := rd (tA r).2 4
def tC (r : RS) := rd (tB r).2 1000
def tD (r : RS) := rd (tC r).2 1099511627776
def tE (r : RS) := rdT (tD r).2 4096
def gotT (r : RS) : Txn := ⟨(tA r).1, (tB r).1, (tC r).1, (tD r).1, (tE r).1⟩
def readT (r : RS) : Txn × RS := if (rdT r 2).1 ≠ txW then (zeroT, (rdT r 2).2) else if (tE r).2.e ≠ 0 ∨ ¬ okT (gotT r) then (zeroT, (tE r).2) else (gotT r, (tE r).2)
noncomputable def txRdC : Contract := mkC (α := RS) (fun r => r.b.length ≤ 140737488355328) (fun _ => [.ptr 6400000 0]) (fun r => [[.c (.sl (bytes r.b)), .c (.int .i64 r.e), .c (.bool true)]]) (fun r => ⟨[.pv (readT r).1.av], [[.c (.sl (bytes (readT r).2.b)), .c (.int .i64 (readT r).2.e), .c (.bool true)]]⟩)
set_option maxRecDepth 100000 in
set_option maxHeartbeats 4000000 in
theorem txRd_sound (hΓ : SoundG Try.prog Γ) (h1 : Γ 94 = rdTextC) (h2 : Γ 95 = rdNumC) (h3 : Γ 85 = errC) (h4 : Γ 90 = txCkC) : SoundC Try.prog 46 txRdC := by
  refine sound_fn Try.func46 (by kernel_rfl) rfl rfl ?_
  intro args objs r0 hr
  obtain ⟨r, hl, rfl, rfl, rfl⟩ := mkC_inv hr
  have hl : r.b.length ≤ 140737488355328 := hl
  refine ⟨rfl, by show 1 ≤ _; decide, fun E hN hns hF => ?_⟩
  refine vc_sound hΓ mixed _ _ _ ?_
  have hN := hN.trans nt_46
  have l0 := rdT_len r 2
  have l1 : (tA r).2.b.length ≤ _ := rd_len _ _
  have l2 : (tB r).2.b.length ≤ _ := rd_len _ _
  have l3 : (tC r).2.b.length ≤ _ := rd_len _ _
  have l4 : (tD r).2.b.length ≤ _ := rd_len _ _
  have q0 := text_atr r 2 hl
  by_cases c0 : (rdT r 2).1 = txW
  case neg =>
    have g0 : ((rdT r 2).1 == [116, 120]) = false := by simpa [txW] using c0
    have hS : readT r = (zeroT, (rdT r 2).2) := if_pos c0
    rw [hS]
    generalize rdT r 2 = q at q0 g0 ⊢
    simp only [runA, runB, runC, runD, runE, runF, fieldE, storeE, binE, ↓reduceIte, Nat.reduceLT, Nat.reduceLeDiff, Nat.reduceEqDiff, Nat.reduceAdd, Nat.reduceMul, Nat.reduceSub, reduceCtorEq, putAt, unE, Nat.reduceBEq, convE, buildE, List.replicate, Int.reduceLT, Int.reduceLE, Int.reduceToNat, mkE, mapSetE, hN, hF, ty_3, ty_9, ty_27, ty_54, ty_91, notIf, isEq, h1, q0, g0]
    simp only [runB, finC, finD, Option.isSome_some, Option.isSome_none, ↓reduceIte, Nat.reduceEqDiff, Nat.reduceAdd, Nat.reduceMul, forall_eq_or_imp, forall_eq, implies_true, Nat.reduceBEq, reduceCtorEq, false_implies, List.zip_cons_cons, List.zip_nil_left, List.zip_nil_right, Nat.reduceLeDiff, List.forall_mem_nil, rs_46, agg_54, sz_54, zeroT, Txn.av]
  have g0 : ((rdT r 2).1 == [116, 120]) = true := by rw [c0]; decide
  have q1 := num_atr (rdT r 2).2 4 (by omega)
  have q2 := num_atr (tA r).2 4 (by omega)
  have q3 := num_atr (tB r).2 1000 (by omega)
  have q4 := num_atr (tC r).2 1099511627776 (by omega)
  have q5 := text_atr (tD r).2 4096 (by omega)
  have q6 := err_atr (tE r).2
  have q7 := txCk_at (gotT r)
  have hR : readT r = if (tE r).2.e ≠ 0 ∨ ¬ okT (gotT r) then (zeroT, (tE r).2) else (gotT r, (tE r).2) := if_neg (by simp [c0])
  rw [hR]
  have hgot : gotT r = ⟨(tA r).1, (tB r).1, (tC r).1, (tD r).1, (tE r).1⟩ := rfl
  rw [show rd (rdT r 2).2 4 = tA r from rfl] at q1
  rw [show rd (tA r).2 4 = tB r from rfl] at q2
  rw [show rd (tB r).2 1000 = tC r from rfl] at q3
  rw [show rd (tC r).2 1099511627776 = tD r from rfl] at q4
  rw [show rdT (tD r).2 4096 = tE r from rfl] at q5
  rw [hgot] at q7 ⊢
  dsimp only at q7
  generalize rdT r 2 = z0 at q0 q1 g0
  generalize tA r = z1 at q1 q2 q7 ⊢
  generalize tB r = z2 at q2 q3 q7 ⊢
  generalize tC r = z3 at q3 q4 q7 ⊢
  generalize tD r = z4 at q4 q5 q7 ⊢
  generalize tE r = z5 at q5 q6 q7 ⊢
  by_cases c1 : z5.2.e = 0
  case neg =>
    have g1 : (z5.2.e != 0) = true := by simpa using c1
    rw [if_pos (Or.inl c1)]
    simp only [runA, runB, runC, runD, runE, runF, fieldE, storeE, binE, ↓reduceIte, Nat.reduceLT, Nat.reduceLeDiff, Nat.reduceEqDiff, Nat.reduceAdd, Nat.reduceMul, Nat.reduceSub, reduceCtorEq, putAt, unE, Nat.reduceBEq, convE, buildE, List.replicate, Int.reduceLT, Int.reduceLE, Int.reduceToNat, mkE, mapSetE, hN, hF, ty_3, ty_9, ty_27, ty_54, ty_91, notIf, isEq, h1, h2, h3, q0, q1, q2, q3, q4, q5, q6, g0, g1]
    simp only [runB, finC, finD, Option.isSome_some, Option.isSome_none, ↓reduceIte, Nat.reduceEqDiff, Nat.reduceAdd, Nat.reduceMul, forall_eq_or_imp, forall_eq, implies_true, Nat.reduceBEq, reduceCtorEq, false_implies, List.zip_cons_cons, List.zip_nil_left, List.zip_nil_right, Nat.reduceLeDiff, List.forall_mem_nil, rs_46, agg_54, sz_54, zeroT, Txn.av]
  have g1 : (z5.2.e != 0) = false := by simpa using c1
  by_cases c2 : okT ⟨z1.1, z2.1, z3.1, z4.1, z5.1⟩
  · rw [show txS ⟨z1.1, z2.1, z3.1, z4.1, z5.1⟩ = 0 from if_pos c2] at q7
    have b0 : ((0 : Int) != 0) = false := rfl
    rw [if_neg (by rintro (h | h); exact h c1; exact h c2)]
    simp only [runA, runB, runC, runD, runE, runF, fieldE, storeE, binE, ↓reduceIte, Nat.reduceLT, Nat.reduceLeDiff, Nat.reduceEqDiff, Nat.reduceAdd, Nat.reduceMul, Nat.reduceSub, reduceCtorEq, putAt, unE, Nat.reduceBEq, convE, buildE, List.replicate, Int.reduceLT, Int.reduceLE, Int.reduceToNat, mkE, mapSetE, hN, hF, ty_3, ty_9, ty_27, ty_54, ty_91, notIf, isEq, h1, h2, h3, h4, q0, q1, q2, q3, q4, q5, q6, q7, g0, g1, b0]
    simp only [runB, finC, finD, Option.isSome_some, Option.isSome_none, ↓reduceIte, Nat.reduceEqDiff, Nat.reduceAdd, Nat.reduceMul, forall_eq_or_imp, forall_eq, implies_true, Nat.reduceBEq, reduceCtorEq, false_implies, List.zip_cons_cons, List.zip_nil_left, List.zip_nil_right, Nat.reduceLeDiff, List.forall_mem_nil, rs_46, agg_54, sz_54, Txn.av]
  · rw [show txS ⟨z1.1, z2.1, z3.1, z4.1, z5.1⟩ = 9 from if_neg c2] at q7
    have b0 : ((9 : Int) != 0) = true := rfl
    rw [if_pos (Or.inr c2)]
    simp only [runA, runB, runC, runD, runE, runF, fieldE, storeE, binE, ↓reduceIte, Nat.reduceLT, Nat.reduceLeDiff, Nat.reduceEqDiff, Nat.reduceAdd, Nat.reduceMul, Nat.reduceSub, reduceCtorEq, putAt, unE, Nat.reduceBEq, convE, buildE, List.replicate, Int.reduceLT, Int.reduceLE, Int.reduceToNat, mkE, mapSetE, hN, hF, ty_3, ty_9, ty_27, ty_54, ty_91, notIf, isEq, h1, h2, h3, h4, q0, q1, q2, q3, q4, q5, q6, q7, g0, g1, b0]
    simp only [runB, finC, finD, Option.isSome_some, Option.isSome_none, ↓reduceIte, Nat.reduceEqDiff, Nat.reduceAdd, Nat.reduceMul, forall_eq_or_imp, forall_eq, implies_true, Nat.reduceBEq, reduceCtorEq, false_implies, List.zip_cons_cons, List.zip_nil_left, List.zip_nil_right, Nat.reduceLeDiff, List.forall_mem_nil, rs_46, agg_54, sz_54, zeroT, Txn.av]

def cs (k : Nat) : List UInt8 := [99, 108, 105, 101, 110, 116] ++ [UInt8.ofNat (48 + k)]
noncomputable def txKeyK (n : Int) : Ky := if 0 ≤ n ∧ n ≤ 3 then ⟨cs n.toNat, leavesS (cs n.toNat) 4, 0⟩ else zeroK
noncomputable def txKeyC : Contract := mkC (α := Int) (fun _ => True) (fun n => [.c (.int .i64 n)]) (fun _ => []) (fun n => ⟨[.pv (txKeyK n).av], []⟩)
theorem txKey_at (n : Int) : txKeyC [.c (.int .i64 n)] [] = some ⟨[.pv (txKeyK n).av], []⟩ :=
  mkC_at (α := Int) n trivial (by
    rintro m _ h _
    simp only [List.cons.injEq, AV.c.injEq, PC.int.injEq, true_and, and_true] at h
    rw [h])
set_option maxRecDepth 100000 in
set_option maxHeartbeats 1000000 in
theorem txKey_sound (hΓ : SoundG Try.prog Γ) (h1 : Γ 76 = clientC) (h2 : Γ 25 = newGC) : SoundC Try.prog 35 txKeyC := by
  refine sound_fn Try.func35 (by kernel_rfl) rfl rfl ?_
  intro args objs r hr
  obtain ⟨n, _, rfl, rfl, rfl⟩ := mkC_inv hr
  by_cases hn : 0 ≤ n ∧ n ≤ 3
  · refine ⟨rfl, by show 1 ≤ _; decide, fun E hN hns hF => ?_⟩
    refine vc_sound hΓ mixed _ _ _ ?_
    have hN := hN.trans nt_35
    have q1 := client_t hn
    have hS : txKeyK n = ⟨cs n.toNat, leavesS (cs n.toNat) 4, 0⟩ := if_pos hn
    rw [hS]
    obtain ⟨k, rfl⟩ : ∃ k : Nat, n = (k : Int) := ⟨n.toNat, by omega⟩
    rw [Int.toNat_natCast]
    have w1 : IntKind.u8.wrap (k : Int) = (k : Int) := by rw [wrapB]; omega
    have w2 : IntKind.u8.wrap (48 + (k : Int)) = ((48 + k : Nat) : Int) := by rw [wrapB]; omega
    have b1 : bytesOf [[PC.int .u8 ((48 + k : Nat) : Int)]] = some [UInt8.ofNat (48 + k)] := by simp only [bytesOf, Int.toNat_natCast]
    have hcs : ([99, 108, 105, 101, 110, 116, UInt8.ofNat (48 + k)] : List UInt8) = cs k := rfl
    have hk : newGC [.c (.str (cs k)), .c (.int .i64 2)] [] = some ⟨[.pv (keyAV (cs k) (leavesS (cs k) 4) 0), .pv (.c (.int .i64 0))], []⟩ := newG_at (cs k) 2 (by decide) (by simp [cs])
    generalize leavesS (cs k) 4 = L at hk ⊢
    simp only [runA, runB, runC, runD, runE, runF, fieldE, storeE, binE, ↓reduceIte, Nat.reduceLT, Nat.reduceLeDiff, Nat.reduceEqDiff, Nat.reduceAdd, Nat.reduceMul, Nat.reduceSub, reduceCtorEq, putAt, unE, Nat.reduceBEq, convE, buildE, List.replicate, Int.reduceLT, Int.reduceLE, Int.reduceToNat, mkE, mapSetE, hN, hF, ty_3, ty_4, ty_5, ty_9, ty_22, ty_24, ty_25, notIf, isEq, h1, q1, w1, w2, b1, hcs, h2, hk, keyAV]
    simp only [runB, finC, finD, Option.isSome_some, Option.isSome_none, ↓reduceIte, Nat.reduceEqDiff, Nat.reduceAdd, Nat.reduceMul, forall_eq_or_imp, forall_eq, implies_true, Nat.reduceBEq, reduceCtorEq, false_implies, List.zip_cons_cons, List.zip_nil_left, List.zip_nil_right, Nat.reduceLeDiff, List.forall_mem_nil, rs_35, agg_24, sz_24, Ky.av]
  · refine ⟨rfl, by show 1 ≤ _; decide, fun E hN hns hF => ?_⟩
    refine vc_sound hΓ mixed _ _ _ ?_
    have hN := hN.trans nt_35
    have q1 := client_f hn
    have hS : txKeyK n = zeroK := if_neg hn
    rw [hS]
    simp only [runA, runB, runC, runD, runE, runF, fieldE, storeE, binE, ↓reduceIte, Nat.reduceLT, Nat.reduceLeDiff, Nat.reduceEqDiff, Nat.reduceAdd, Nat.reduceMul, Nat.reduceSub, reduceCtorEq, putAt, unE, Nat.reduceBEq, convE, buildE, List.replicate, Int.reduceLT, Int.reduceLE, Int.reduceToNat, mkE, mapSetE, hN, hF, ty_3, ty_4, ty_5, ty_9, ty_22, ty_24, ty_25, notIf, isEq, h1, q1]
    simp only [runB, finC, finD, Option.isSome_some, Option.isSome_none, ↓reduceIte, Nat.reduceEqDiff, Nat.reduceAdd, Nat.reduceMul, forall_eq_or_imp, forall_eq, implies_true, Nat.reduceBEq, reduceCtorEq, false_implies, List.zip_cons_cons, List.zip_nil_left, List.zip_nil_right, Nat.reduceLeDiff, List.forall_mem_nil, rs_35, agg_24, sz_24, zeroK, Ky.av, texts, List.map_nil]

def Txn.signed (t : Txn) (s : List UInt8) : Txn := ⟨t.fr, t.to, t.am, t.no, s⟩
noncomputable def makeT (k : Ky) (t : Txn) : Txn × Ky × Int := if okT t then (if (signS k (txT t)).2.2 = 0 then (t.signed (signS k (txT t)).1, (signS k (txT t)).2.1, 0) else (zeroT, zeroK, (signS k (txT t)).2.2)) else (zeroT, zeroK, 9)
theorem txT_len (t : Txn) : (txT t).length ≤ 28 := by
  unfold txT
  split
  · rw [txB_length]; decide
  · simp
noncomputable def txMkC : Contract := mkC (α := Ky × Txn) (fun p => p.1.leaves.length ≤ 1048576) (fun p => [p.1.av, p.2.av]) (fun _ => []) (fun p => ⟨[.pv (makeT p.1 p.2).1.av, .pv (makeT p.1 p.2).2.1.av, .pv (.c (.int .i64 (makeT p.1 p.2).2.2))], []⟩)
theorem txMk_at (k : Ky) (t : Txn) (h : k.leaves.length ≤ 1048576) : txMkC [.agg [.c (.str k.seed), .c (.sl (texts k.leaves)), .c (.int .i64 k.next)], .agg [.c (.int .i64 t.fr), .c (.int .i64 t.to), .c (.int .i64 t.am), .c (.int .i64 t.no), .c (.str t.sig)]] [] = some ⟨[.pv (makeT k t).1.av, .pv (makeT k t).2.1.av, .pv (.c (.int .i64 (makeT k t).2.2))], []⟩ :=
  mkC_at (α := Ky × Txn) (k, t) h (by
    rintro ⟨k', t'⟩ _ h _
    have h' : [k'.av, t'.av] = [k.av, t.av] := h
    simp only [List.cons.injEq, and_true] at h'
    rw [Ky.av_inj h'.1, Txn.av_inj h'.2])
set_option maxRecDepth 100000 in
set_option maxHeartbeats 4000000 in
theorem txMk_sound (hΓ : SoundG Try.prog Γ) (h1 : Γ 90 = txCkC) (h2 : Γ 91 = txTC) (h3 : Γ 13 = signC) : SoundC Try.prog 42 txMkC := by
  refine sound_fn Try.func42 (by kernel_rfl) rfl rfl ?_
  intro args objs r0 hr
  obtain ⟨⟨⟨seed, leaves, next⟩, t⟩, hl, rfl, rfl, rfl⟩ := mkC_inv hr
  have hl : leaves.length ≤ 1048576 := hl
  refine ⟨rfl, by show 2 ≤ _; decide, fun E hN hns hF => ?_⟩
  refine vc_sound hΓ mixed _ _ _ ?_
  have hN := hN.trans nt_42
  unfold Txn.av Ky.av
  have q1 := txCk_at t
  have q2 := txT_at t
  have q3 := sign_at ⟨seed, leaves, next⟩ (txT t) (by show leaves.length ≤ _; omega) (by have := txT_len t; omega)
  unfold Ky.av at q3
  dsimp only at q3 ⊢
  by_cases hk : okT t
  case neg =>
    rw [show txS t = 9 from if_neg hk] at q1
    rw [show makeT ⟨seed, leaves, next⟩ t = (zeroT, zeroK, 9) from if_neg hk]
    have b0 : ((9 : Int) != 0) = true := rfl
    simp only [runA, runB, runC, runD, runE, runF, fieldE, storeE, binE, ↓reduceIte, Nat.reduceLT, Nat.reduceLeDiff, Nat.reduceEqDiff, Nat.reduceAdd, Nat.reduceMul, Nat.reduceSub, reduceCtorEq, putAt, unE, Nat.reduceBEq, convE, buildE, List.replicate, Int.reduceLT, Int.reduceLE, Int.reduceToNat, mkE, mapSetE, hN, hF, ty_3, ty_5, ty_9, ty_22, ty_24, ty_25, ty_27, ty_54, notIf, isEq, h1, q1, b0]
    simp only [runB, finC, finD, Option.isSome_some, Option.isSome_none, ↓reduceIte, Nat.reduceEqDiff, Nat.reduceAdd, Nat.reduceMul, forall_eq_or_imp, forall_eq, implies_true, Nat.reduceBEq, reduceCtorEq, false_implies, List.zip_cons_cons, List.zip_nil_left, List.zip_nil_right, Nat.reduceLeDiff, List.forall_mem_nil, rs_42, agg_24, sz_24, agg_54, sz_54, zeroT, zeroK, texts, List.map_nil]
  rw [show txS t = 0 from if_pos hk] at q1
  have b0 : ((0 : Int) != 0) = false := rfl
  have hM : makeT ⟨seed, leaves, next⟩ t = if (signS ⟨seed, leaves, next⟩ (txT t)).2.2 = 0 then (t.signed (signS ⟨seed, leaves, next⟩ (txT t)).1, (signS ⟨seed, leaves, next⟩ (txT t)).2.1, 0) else (zeroT, zeroK, (signS ⟨seed, leaves, next⟩ (txT t)).2.2) := if_pos hk
  rw [hM]
  generalize signS ⟨seed, leaves, next⟩ (txT t) = sg at q3 ⊢
  generalize txT t = tt at q2 q3
  obtain ⟨s, ⟨k1, k2, k3⟩, e⟩ := sg
  dsimp only at q3 ⊢
  by_cases he : e = 0
  · subst he
    rw [if_pos rfl]
    simp only [runA, runB, runC, runD, runE, runF, fieldE, storeE, binE, ↓reduceIte, Nat.reduceLT, Nat.reduceLeDiff, Nat.reduceEqDiff, Nat.reduceAdd, Nat.reduceMul, Nat.reduceSub, reduceCtorEq, putAt, unE, Nat.reduceBEq, convE, buildE, List.replicate, Int.reduceLT, Int.reduceLE, Int.reduceToNat, mkE, mapSetE, hN, hF, ty_3, ty_5, ty_9, ty_22, ty_24, ty_25, ty_27, ty_54, notIf, isEq, h1, q1, b0, h2, q2, h3, q3]
    refine drawnP_intro (by kernel_rfl) (by kernel_rfl) ?_
    simp only [runA, runB, runC, runD, runE, runF, fieldE, storeE, binE, ↓reduceIte, Nat.reduceLT, Nat.reduceLeDiff, Nat.reduceEqDiff, Nat.reduceAdd, Nat.reduceMul, Nat.reduceSub, reduceCtorEq, putAt, unE, Nat.reduceBEq, convE, buildE, List.replicate, Int.reduceLT, Int.reduceLE, Int.reduceToNat, mkE, mapSetE, hN, hF, ty_3, ty_5, ty_9, ty_22, ty_24, ty_25, ty_27, ty_54, notIf, isEq, b0]
    refine drawnP_intro (by kernel_rfl) (by kernel_rfl) ?_
    simp only [runA, runB, runC, runD, runE, runF, fieldE, storeE, binE, ↓reduceIte, Nat.reduceLT, Nat.reduceLeDiff, Nat.reduceEqDiff, Nat.reduceAdd, Nat.reduceMul, Nat.reduceSub, reduceCtorEq, putAt, unE, Nat.reduceBEq, convE, buildE, List.replicate, Int.reduceLT, Int.reduceLE, Int.reduceToNat, mkE, mapSetE, hN, hF, ty_3, ty_5, ty_9, ty_22, ty_24, ty_25, ty_27, ty_54, notIf, isEq, b0]
    simp only [runB, finC, finD, Option.isSome_some, Option.isSome_none, ↓reduceIte, Nat.reduceEqDiff, Nat.reduceAdd, Nat.reduceMul, forall_eq_or_imp, forall_eq, implies_true, Nat.reduceBEq, reduceCtorEq, false_implies, List.zip_cons_cons, List.zip_nil_left, List.zip_nil_right, Nat.reduceLeDiff, List.forall_mem_nil, rs_42, agg_24, sz_24, agg_54, sz_54, Txn.signed]
  · have g1 : (e != 0) = true := by simpa using he
    rw [if_neg he]
    simp only [runA, runB, runC, runD, runE, runF, fieldE, storeE, binE, ↓reduceIte, Nat.reduceLT, Nat.reduceLeDiff, Nat.reduceEqDiff, Nat.reduceAdd, Nat.reduceMul, Nat.reduceSub, reduceCtorEq, putAt, unE, Nat.reduceBEq, convE, buildE, List.replicate, Int.reduceLT, Int.reduceLE, Int.reduceToNat, mkE, mapSetE, hN, hF, ty_3, ty_5, ty_9, ty_22, ty_24, ty_25, ty_27, ty_54, notIf, isEq, h1, q1, b0, h2, q2, h3, q3]
    refine drawnP_intro (by kernel_rfl) (by kernel_rfl) ?_
    simp only [runA, runB, runC, runD, runE, runF, fieldE, storeE, binE, ↓reduceIte, Nat.reduceLT, Nat.reduceLeDiff, Nat.reduceEqDiff, Nat.reduceAdd, Nat.reduceMul, Nat.reduceSub, reduceCtorEq, putAt, unE, Nat.reduceBEq, convE, buildE, List.replicate, Int.reduceLT, Int.reduceLE, Int.reduceToNat, mkE, mapSetE, hN, hF, ty_3, ty_5, ty_9, ty_22, ty_24, ty_25, ty_27, ty_54, notIf, isEq, g1]
    simp only [runB, finC, finD, Option.isSome_some, Option.isSome_none, ↓reduceIte, Nat.reduceEqDiff, Nat.reduceAdd, Nat.reduceMul, forall_eq_or_imp, forall_eq, implies_true, Nat.reduceBEq, reduceCtorEq, false_implies, List.zip_cons_cons, List.zip_nil_left, List.zip_nil_right, Nat.reduceLeDiff, List.forall_mem_nil, rs_42, agg_24, sz_24, agg_54, sz_54, zeroT, zeroK, texts, List.map_nil]

noncomputable def validT (t : Txn) (roots : List (List UInt8)) : Bool := decide (okT t) && decide (t.fr < (roots.length : Int)) && (verS (roots.getD t.fr.toNat []) 2 (txT t) t.sig).2
noncomputable def txVaC : Contract := mkC (α := Txn × List (List UInt8)) (fun p => p.2.length ≤ 9223372036854775807) (fun p => [p.1.av, .c (.sl (texts p.2))]) (fun _ => []) (fun p => ⟨[.pv (.c (.bool (validT p.1 p.2)))], []⟩)
theorem txVa_at (t : Txn) (roots : List (List UInt8)) (h : roots.length ≤ 9223372036854775807) : txVaC [.agg [.c (.int .i64 t.fr), .c (.int .i64 t.to), .c (.int .i64 t.am), .c (.int .i64 t.no), .c (.str t.sig)], .c (.sl (texts roots))] [] = some ⟨[.pv (.c (.bool (validT t roots)))], []⟩ :=
  mkC_at (α := Txn × List (List UInt8)) (t, roots) h (by
    rintro ⟨t', r'⟩ _ h _
    have h' : [t'.av, .c (.sl (texts r'))] = [t.av, .c (.sl (texts roots))] := h
    simp only [List.cons.injEq, AV.c.injEq, PC.sl.injEq, and_true] at h'
    rw [Txn.av_inj h'.1, texts_inj h'.2])
set_option maxRecDepth 100000 in
set_option maxHeartbeats 4000000 in
theorem txVa_sound (hΓ : SoundG Try.prog Γ) (h1 : Γ 90 = txCkC) (h2 : Γ 91 = txTC) (h3 : Γ 26 = sverC) : SoundC Try.prog 48 txVaC := by
  refine sound_fn Try.func48 (by kernel_rfl) rfl rfl ?_
  intro args objs r0 hr
  obtain ⟨⟨t, roots⟩, hl, rfl, rfl, rfl⟩ := mkC_inv hr
  have hl : roots.length ≤ 9223372036854775807 := hl
  refine ⟨rfl, by show 2 ≤ _; decide, fun E hN hns hF => ?_⟩
  refine vc_sound hΓ mixed _ _ _ ?_
  have hN := hN.trans nt_48
  unfold Txn.av
  dsimp only
  have q1 := txCk_at t
  by_cases hk : okT t
  case neg =>
    rw [show txS t = 9 from if_neg hk] at q1
    have hS : validT t roots = false := by unfold validT; rw [decide_eq_false hk]; rfl
    have b0 : ((9 : Int) != 0) = true := rfl
    rw [hS]
    simp only [runA, runB, runC, runD, runE, runF, fieldE, storeE, binE, ↓reduceIte, Nat.reduceLT, Nat.reduceLeDiff, Nat.reduceEqDiff, Nat.reduceAdd, Nat.reduceMul, Nat.reduceSub, reduceCtorEq, putAt, unE, Nat.reduceBEq, convE, buildE, List.replicate, Int.reduceLT, Int.reduceLE, Int.reduceToNat, mkE, mapSetE, hN, hF, ty_3, ty_4, ty_5, ty_9, ty_22, ty_25, ty_27, ty_54, notIf, isEq, h1, q1, b0]
    simp only [runB, finC, finD, Option.isSome_some, Option.isSome_none, ↓reduceIte, Nat.reduceEqDiff, Nat.reduceAdd, Nat.reduceMul, forall_eq_or_imp, forall_eq, implies_true, Nat.reduceBEq, reduceCtorEq, false_implies, List.zip_cons_cons, List.zip_nil_left, List.zip_nil_right, Nat.reduceLeDiff, List.forall_mem_nil, rs_48]
  rw [show txS t = 0 from if_pos hk] at q1
  have b0 : ((0 : Int) != 0) = false := rfl
  by_cases hf : t.fr < (roots.length : Int)
  case neg =>
    have hS : validT t roots = false := by unfold validT; rw [decide_eq_false hf, Bool.and_false]; rfl
    have g1 : decide (t.fr ≥ (roots.length : Int)) = true := by simp; omega
    rw [hS]
    simp only [runA, runB, runC, runD, runE, runF, fieldE, storeE, binE, ↓reduceIte, Nat.reduceLT, Nat.reduceLeDiff, Nat.reduceEqDiff, Nat.reduceAdd, Nat.reduceMul, Nat.reduceSub, reduceCtorEq, putAt, unE, Nat.reduceBEq, convE, buildE, List.replicate, Int.reduceLT, Int.reduceLE, Int.reduceToNat, mkE, mapSetE, hN, hF, ty_3, ty_4, ty_5, ty_9, ty_22, ty_25, ty_27, ty_54, notIf, isEq, texts_length, h1, q1, b0, g1]
    simp only [runB, finC, finD, Option.isSome_some, Option.isSome_none, ↓reduceIte, Nat.reduceEqDiff, Nat.reduceAdd, Nat.reduceMul, forall_eq_or_imp, forall_eq, implies_true, Nat.reduceBEq, reduceCtorEq, false_implies, List.zip_cons_cons, List.zip_nil_left, List.zip_nil_right, Nat.reduceLeDiff, List.forall_mem_nil, rs_48]
  have g1 : decide (t.fr ≥ (roots.length : Int)) = false := by simp; omega
  have hS : validT t roots = (verS (roots.getD t.fr.toNat []) 2 (txT t) t.sig).2 := by unfold validT; rw [decide_eq_true hf, decide_eq_true hk]; simp
  rw [hS]
  obtain ⟨k0, hk3⟩ := hk.1
  have q2 := txT_at t
  have q3 := sver_at (roots.getD t.fr.toNat []) 2 (txT t) t.sig (by have := txT_len t; omega)
  have hg := textsD roots t.fr.toNat (by omega)
  have g0 : (0 ≤ t.fr) = True := eq_true k0
  generalize verS (roots.getD t.fr.toNat []) 2 (txT t) t.sig = vv at q3 ⊢
  generalize roots.getD t.fr.toNat [] = rt at q3 hg
  generalize txT t = tt at q2 q3
  simp only [runA, runB, runC, runD, runE, runF, fieldE, storeE, binE, ↓reduceIte, Nat.reduceLT, Nat.reduceLeDiff, Nat.reduceEqDiff, Nat.reduceAdd, Nat.reduceMul, Nat.reduceSub, reduceCtorEq, putAt, unE, Nat.reduceBEq, convE, buildE, List.replicate, Int.reduceLT, Int.reduceLE, Int.reduceToNat, mkE, mapSetE, hN, hF, ty_3, ty_4, ty_5, ty_9, ty_22, ty_25, ty_27, ty_54, notIf, isEq, texts_length, h1, q1, b0, g0, g1, hg, h2, q2, h3, q3]
  refine drawnP_intro (by kernel_rfl) (by kernel_rfl) ?_
  simp only [runA, runB, runC, runD, runE, runF, fieldE, storeE, binE, ↓reduceIte, Nat.reduceLT, Nat.reduceLeDiff, Nat.reduceEqDiff, Nat.reduceAdd, Nat.reduceMul, Nat.reduceSub, reduceCtorEq, putAt, unE, Nat.reduceBEq, convE, buildE, List.replicate, Int.reduceLT, Int.reduceLE, Int.reduceToNat, mkE, mapSetE, hN, hF, ty_3, ty_4, ty_5, ty_9, ty_22, ty_25, ty_27, ty_54, notIf, isEq]
  simp only [runB, finC, finD, Option.isSome_some, Option.isSome_none, ↓reduceIte, Nat.reduceEqDiff, Nat.reduceAdd, Nat.reduceMul, forall_eq_or_imp, forall_eq, implies_true, Nat.reduceBEq, reduceCtorEq, false_implies, List.zip_cons_cons, List.zip_nil_left, List.zip_nil_right, Nat.reduceLeDiff, List.forall_mem_nil, rs_48]


variable {Γ : FuncId → Contract}

theorem eqg_tx : Try.prog.eqGuardType Try.prog.depth 54 = false := by kernel_rfl
theorem eq_tx (a b c d : Int) (s : List UInt8) (a' b' c' d' : Int) (s' : List UInt8) : eqE Try.prog 10000 54 [.int .i64 a, .int .i64 b, .int .i64 c, .int .i64 d, .str s] [.int .i64 a', .int .i64 b', .int .i64 c', .int .i64 d', .str s'] = some ((a == a') && ((b == b') && ((c == c') && ((d == d') && ((s == s') && true))))) := by kernel_rfl

def alive7C : Contract := fun args objs => match args, objs with | [], [] => some ⟨[.pv (.c (.bool true))], []⟩ | _, _ => none
set_option maxHeartbeats 1000000 in
theorem alive7_sound (hΓ : SoundG Try.prog Γ) (h1 : Γ 90 = txCkC) : SoundC Try.prog 41 alive7C := by
  refine sound_fn Try.func41 (by kernel_rfl) rfl rfl ?_
  intro args objs r hr
  unfold alive7C at hr
  split at hr
  · cases hr
    refine ⟨rfl, by show 0 ≤ _; decide, fun E hN hns hF => ?_⟩
    refine vc_sound hΓ mixed _ _ _ ?_
    have hN := hN.trans nt_41
    have q1 : txCkC [.agg [.c (.int .i64 1), .c (.int .i64 1), .c (.int .i64 1), .c (.int .i64 0), .c (.str [])]] [] = some ⟨[.pv (.c (.int .i64 9))], []⟩ := by
      rw [txCk_at ⟨1, 1, 1, 0, []⟩]; rfl
    have q2 : txCkC [.agg [.c (.int .i64 0), .c (.int .i64 1), .c (.int .i64 1), .c (.int .i64 0), .c (.str [])]] [] = some ⟨[.pv (.c (.int .i64 0))], []⟩ := by
      rw [txCk_at ⟨0, 1, 1, 0, []⟩]; rfl
    have b9 : ((9 : Int) == 9) = true := rfl
    have b0 : ((0 : Int) == 0) = true := rfl
    simp only [runA, runB, runC, runD, runE, runF, fieldE, storeE, binE, ↓reduceIte, Nat.reduceLT, Nat.reduceLeDiff, Nat.reduceEqDiff, Nat.reduceAdd, Nat.reduceMul, Nat.reduceSub, reduceCtorEq, putAt, unE, Nat.reduceBEq, convE, buildE, List.replicate, Int.reduceLT, Int.reduceLE, Int.reduceToNat, mkE, mapSetE, hN, hF, ty_3, ty_4, ty_9, ty_27, ty_54, notIf, isEq, h1, q1, q2, b9, b0]
    simp only [runB, finC, finD, Option.isSome_some, Option.isSome_none, ↓reduceIte, Nat.reduceEqDiff, Nat.reduceAdd, Nat.reduceMul, forall_eq_or_imp, forall_eq, implies_true, Nat.reduceBEq, reduceCtorEq, false_implies, List.zip_cons_cons, List.zip_nil_left, List.zip_nil_right, Nat.reduceLeDiff, List.forall_mem_nil, rs_41]
  · cases hr

theorem okT_signed {t : Txn} (h : okT t) {s : List UInt8} (hs : s.length ≤ 4096) : okT (t.signed s) := by
  obtain ⟨h1, h2, h3, h4, h5, h6, h7, h8⟩ := h
  exact ⟨h1, h2, h3, h4, h5, h6, h7, hs⟩
theorem txT_signed {t : Txn} (h : okT t) {s : List UInt8} (hs : s.length ≤ 4096) : txT (t.signed s) = txT t := by
  unfold txT
  rw [if_pos h, if_pos (okT_signed h hs)]
  rfl
theorem sigB_len (seed : List UInt8) (h i : Nat) (text : List UInt8) (hs : seed.length ≤ 64) (h4 : h ≤ 4) (hi : i < 2 ^ h) : (sigB ⟨seed, leavesS seed (2 ^ h), (i : Int)⟩ text).length = 90 + 8 * h := by
  have hg := good_new seed h i hs h4 (by omega)
  have hll := leavesS_length seed (2 ^ h)
  have hn : (i : Int) ≠ ((leavesS seed (2 ^ h)).length : Int) := by rw [hll]; omega
  obtain ⟨p0, p8, pl⟩ := path_good hg hn
  dsimp only at p0 p8 pl
  rw [hll, Nat.log2_two_pow] at pl
  have hL8 : all8 (sigL ⟨seed, leavesS seed (2 ^ h), (i : Int)⟩ text) := all8_app (sgnT_all8 _ _ _ _) p8
  have hs11 : (sgnS seed (i : Int) text).length = 11 := sgnT_length _ _ _ _
  have hLl : (sigL ⟨seed, leavesS seed (2 ^ h), (i : Int)⟩ text).length = 11 + h := by
    show (sgnS seed (i : Int) text ++ (pathS (leavesS seed (2 ^ h)) (i : Int)).1).length = _
    rw [List.length_append, pl, hs11]
  show (putB (i : Int) 2 ++ (sigL ⟨seed, leavesS seed (2 ^ h), (i : Int)⟩ text).flatten).length = _
  rw [List.length_append, putB2, all8_flat _ hL8, hLl]; omega

structure Tb where
  t : Txn
  n : Int

noncomputable def NT1 : FuncId → Contract := (ext (ext (ext (ext (ext (ext (ext (ext NB2 120 faultC) 93 cloneC) 43 newC) 124 readyC) 127 stopC) 85 errC) 76 clientC) 32 txCkC)
theorem NT1_sound : SoundG Try.prog NT1 := (ext_sound (ext_sound (ext_sound (ext_sound (ext_sound (ext_sound (ext_sound (ext_sound NB2_sound fault_sound) clone_sound) new_sound) ready_sound) stop_sound) err_sound) client_sound) refTxCk_sound)
noncomputable def NT2 : FuncId → Contract := (ext (ext (ext (ext (ext (ext (ext (ext NT1 80 numC) 83 textC) 45 doneC) 126 takeC) 47 openC) 86 leftC) 90 txCkC) 35 txKeyC)
theorem NT2_sound : SoundG Try.prog NT2 := (ext_sound (ext_sound (ext_sound (ext_sound (ext_sound (ext_sound (ext_sound (ext_sound NT1_sound (num_sound NT1_sound rfl rfl)) (text_sound NT1_sound rfl rfl)) (done_sound NT1_sound rfl)) (take_sound NT1_sound rfl)) (open_sound NT1_sound rfl)) (left_sound NT1_sound rfl)) (txCk_sound NT1_sound rfl)) (txKey_sound NT1_sound rfl rfl))
noncomputable def NT3 : FuncId → Contract := (ext (ext (ext (ext NT2 95 rdNumC) 94 rdTextC) 92 txtC) 41 alive7C)
theorem NT3_sound : SoundG Try.prog NT3 := (ext_sound (ext_sound (ext_sound (ext_sound NT2_sound (rdNum_sound NT2_sound rfl rfl rfl rfl)) (rdText_sound NT2_sound rfl rfl rfl rfl)) (txt_sound NT2_sound rfl rfl)) (alive7_sound NT2_sound rfl))
noncomputable def NT4 : FuncId → Contract := (ext (ext (ext NT3 44 txPutC) 91 txTC) 46 txRdC)
theorem NT4_sound : SoundG Try.prog NT4 := (ext_sound (ext_sound (ext_sound NT3_sound (txPut_sound NT3_sound rfl rfl)) (txT_sound NT3_sound rfl rfl rfl rfl)) (txRd_sound NT3_sound rfl rfl rfl rfl))
noncomputable def NT5 : FuncId → Contract := (ext (ext NT4 42 txMkC) 48 txVaC)
theorem NT5_sound : SoundG Try.prog NT5 := (ext_sound (ext_sound NT4_sound (txMk_sound NT4_sound rfl rfl rfl)) (txVa_sound NT4_sound rfl rfl rfl))

set_option maxRecDepth 100000 in
theorem tx_cells {N n : Nat} {cs : List PC} (hp : PTn Try.prog N n 54 cs) : ∃ t : Txn, cs = t.pcs ∧ t.sig.length ≤ N := by
  obtain ⟨fs0, f0, h01, h02, h03, h04, h05⟩ := tyField_run fd_54_0
  obtain ⟨fs1, f1, h11, h12, h13, h14, h15⟩ := tyField_run fd_54_1
  obtain ⟨fs2, f2, h21, h22, h23, h24, h25⟩ := tyField_run fd_54_2
  obtain ⟨fs3, f3, h31, h32, h33, h34, h35⟩ := tyField_run fd_54_3
  obtain ⟨fs4, f4, h41, h42, h43, h44, h45⟩ := tyField_run fd_54_4
  rw [h01] at h11 h21 h31 h41
  cases h11
  cases h21
  cases h31
  cases h41
  have hct : Try.prog.cellsOf 54 = 5 := by kernel_rfl
  have hk0 : Try.prog.cellsOf 3 = 1 := by kernel_rfl
  have hk1 : Try.prog.cellsOf 9 = 1 := by kernel_rfl
  cases n with
  | zero => exact hp.elim
  | succ n =>
    simp only [PTn, h01, hct] at hp
    obtain ⟨hl, hf⟩ := hp
    have q0 := hf f0 (List.mem_of_getElem? (i := 0) (by simpa using h02))
    rw [h03, h04, hk0] at q0
    have q1 := hf f1 (List.mem_of_getElem? (i := 1) (by simpa using h12))
    rw [h13, h14, hk0] at q1
    have q2 := hf f2 (List.mem_of_getElem? (i := 2) (by simpa using h22))
    rw [h23, h24, hk0] at q2
    have q3 := hf f3 (List.mem_of_getElem? (i := 3) (by simpa using h32))
    rw [h33, h34, hk0] at q3
    have q4 := hf f4 (List.mem_of_getElem? (i := 4) (by simpa using h42))
    rw [h43, h44, hk1] at q4
    match cs, hl with
    | [c0, c1, c2, c3, c4], _ =>
      obtain ⟨a, rfl⟩ := int_cellN (c := c0) q0
      obtain ⟨b, rfl⟩ := int_cellN (c := c1) q1
      obtain ⟨c, rfl⟩ := int_cellN (c := c2) q2
      obtain ⟨d, rfl⟩ := int_cellN (c := c3) q3
      obtain ⟨s, rfl, hs⟩ := str_cellN (c := c4) q4
      exact ⟨⟨a, b, c, d, s⟩, rfl, hs⟩
end Go.Proofs.Ytldehcnaepgamaa.AM
namespace Go.Proofs.Ytldehcnaepgamaa
open Go

end Go.Proofs.Ytldehcnaepgamaa
