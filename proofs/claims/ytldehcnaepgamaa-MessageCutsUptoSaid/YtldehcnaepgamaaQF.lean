/-
  QF: Au Ta Tx0 Tx1 Tx2 Tx3.
-/
import Derived.Test.YtldehcnaepgamaaQ7
import Derived.Test.YtldehcnaepgamaaQP
import Derived.Test.YtldehcnaepgamaaQE
set_option linter.unusedVariables false
set_option linter.unusedSimpArgs false
namespace Go.Proofs.Ytldehcnaepgamaa.AM
open Go

theorem bytes_iff {a b : List UInt8} : bytes a = bytes b ↔ a = b := ⟨bytes_inj, fun h => by rw [h]⟩
theorem texts_iff {a b : List (List UInt8)} : texts a = texts b ↔ a = b := ⟨texts_inj, fun h => by rw [h]⟩

theorem len6 (n : Int) : (putB n 6).length = 6 := by rw [putB_length]; rfl
theorem len2 (n : Int) : (putB n 2).length = 2 := by rw [putB_length]; rfl
theorem wNum_len (w : WS) (n : Int) : (wNum w n).b.length ≤ w.b.length + 6 := by
  unfold wNum
  split
  · simp
  · split
    · show (w.b ++ putB n 6).length ≤ _
      rw [List.length_append, len6]; omega
    · omega
theorem rText_len (w : WS) (s : List UInt8) : (rText w s).b.length ≤ w.b.length + 2 + s.length ∧ (rText w s).b.length ≤ w.b.length + 4098 := by
  unfold rText
  split
  · simp only; omega
  · split
    · show (w.b ++ putB s.length 2 ++ s).length ≤ _ ∧ (w.b ++ putB s.length 2 ++ s).length ≤ _
      rw [List.length_append, List.length_append, len2]; omega
    · omega
theorem num_atw (w : WS) (n : Int) (h : w.b.length ≤ 100000) : numC [.ptr 6400000 0, .c (.int .i64 n)] [[.own 1 (bytes w.b), .c (.int .i64 w.e), .c (.bool true)]] = some ⟨[], [[.own 1 (bytes (wNum w n).b), .c (.int .i64 (wNum w n).e), .c (.bool true)]]⟩ := by
  simp [numC, asB_bytes, inObj, h, wOV]
theorem text_atw (w : WS) (s : List UInt8) (h : w.b.length ≤ 100000) (h2 : s.length ≤ 9223372036854775807) : textC [.ptr 6400000 0, .c (.str s)] [[.own 1 (bytes w.b), .c (.int .i64 w.e), .c (.bool true)]] = some ⟨[], [[.own 1 (bytes (rText w s).b), .c (.int .i64 (rText w s).e), .c (.bool true)]]⟩ := by
  simp [textC, asB_bytes, inObj, h, h2, wOV]
theorem done_atw (w : WS) : doneC [.ptr 6400000 0] [[.own 1 (bytes w.b), .c (.int .i64 w.e), .c (.bool true)]] = some ⟨[.fresh 1 (bytes (doneR w).1), .pv (.c (.int .i64 (doneR w).2))], [[.own 1 (bytes w.b), .c (.int .i64 w.e), .c (.bool true)]]⟩ := by
  simp [doneC, asB_bytes, inObj, wOV]

theorem nextN_put {n most : Int} (h0 : 0 ≤ n) (h1 : n ≤ 1099511627776) (h2 : n ≤ most) (rest : List UInt8) : nextN ⟨putB n 6 ++ rest, 0⟩ most = (n, ⟨rest, 0⟩) := by
  unfold nextN
  have hl := len6 n
  have ht : (putB n 6 ++ rest).take 6 = putB n 6 := by rw [List.take_append_of_le_length (by omega), ← hl, List.take_length]
  have hd : (putB n 6 ++ rest).drop 6 = rest := by rw [List.drop_append, List.drop_of_length_le (by omega), hl]; simp
  rw [if_neg (by simp [hl]), ht, hd, getB_putB6 n h0 h1, if_neg (by omega)]
theorem nextT_put {s : List UInt8} {most : Int} (h1 : s.length ≤ 4096) (h2 : (s.length : Int) ≤ most) (rest : List UInt8) : nextT ⟨putB (s.length : Int) 2 ++ (s ++ rest), 0⟩ most = (s, ⟨rest, 0⟩) := by
  unfold nextT
  have hl := len2 (s.length : Int)
  have ht : (putB (s.length : Int) 2 ++ (s ++ rest)).take 2 = putB (s.length : Int) 2 := by rw [List.take_append_of_le_length (by omega), List.take_of_length_le (by omega)]
  have hd : (putB (s.length : Int) 2 ++ (s ++ rest)).drop 2 = s ++ rest := by rw [List.drop_append, List.drop_of_length_le (by omega), hl]; simp
  rw [if_neg (by simp [hl]), ht, hd, getB_putB2 s.length h1, if_neg (by omega), Int.toNat_natCast]
  unfold tookR
  rw [if_neg (by simp)]
  simp
def rd (r : RS) (most : Int) : Int × RS := if r.e = 0 then nextN ⟨r.b, 0⟩ most else (0, r)
def rdT (r : RS) (most : Int) : List UInt8 × RS := if r.e = 0 then nextT ⟨r.b, 0⟩ most else ([], r)
theorem rd_put {n most : Int} (h0 : 0 ≤ n) (h1 : n ≤ 1099511627776) (h2 : n ≤ most) (rest : List UInt8) : rd ⟨putB n 6 ++ rest, 0⟩ most = (n, ⟨rest, 0⟩) := by
  unfold rd; rw [if_pos rfl]; exact nextN_put h0 h1 h2 rest
theorem rdT_put {s : List UInt8} {most : Int} (h1 : s.length ≤ 4096) (h2 : (s.length : Int) ≤ most) (rest : List UInt8) : rdT ⟨putB (s.length : Int) 2 ++ (s ++ rest), 0⟩ most = (s, ⟨rest, 0⟩) := by
  unfold rdT; rw [if_pos rfl]; exact nextT_put h1 h2 rest
theorem nextN_len {b : List UInt8} {most : Int} : (nextN ⟨b, 0⟩ most).2.b.length ≤ b.length := by
  unfold nextN
  split
  · simp
  · split
    · simp
    · simp
theorem rd_len (r : RS) (most : Int) : (rd r most).2.b.length ≤ r.b.length := by
  unfold rd
  split
  · exact nextN_len
  · exact Nat.le_refl _
theorem nextT_len {b : List UInt8} {most : Int} : (nextT ⟨b, 0⟩ most).2.b.length ≤ b.length := by
  unfold nextT
  split
  · simp
  · split
    · simp
    · unfold tookR
      split
      · simp
      · simp
theorem rdT_len (r : RS) (most : Int) : (rdT r most).2.b.length ≤ r.b.length := by
  unfold rdT
  split
  · exact nextT_len
  · exact Nat.le_refl _

theorem open_atr (b : List UInt8) (h : b.length ≤ 140737488355328) : openC [.c (.sl (bytes b))] [] = some ⟨[.newobj [.c (.sl (bytes b)), .c (.int .i64 0), .c (.bool true)]], []⟩ := by
  simp [openC, asB_bytes, h, rOV]
theorem num_atr (r : RS) (most : Int) (h : r.b.length ≤ 140737488355328) : rdNumC [.ptr 6400000 0, .c (.int .i64 most)] [[.c (.sl (bytes r.b)), .c (.int .i64 r.e), .c (.bool true)]] = some ⟨[.pv (.c (.int .i64 (rd r most).1))], [[.c (.sl (bytes (rd r most).2.b)), .c (.int .i64 (rd r most).2.e), .c (.bool true)]]⟩ := by
  have h2 : r.b.length ≤ 9223372036854775807 := by omega
  unfold rd
  by_cases he : r.e = 0
  · simp [rdNumC, asB_bytes, inObj, h2, he, rOV]
  · simp [rdNumC, asB_bytes, inObj, h2, he, rOV]
theorem text_atr (r : RS) (most : Int) (h : r.b.length ≤ 140737488355328) : rdTextC [.ptr 6400000 0, .c (.int .i64 most)] [[.c (.sl (bytes r.b)), .c (.int .i64 r.e), .c (.bool true)]] = some ⟨[.pv (.c (.str (rdT r most).1))], [[.c (.sl (bytes (rdT r most).2.b)), .c (.int .i64 (rdT r most).2.e), .c (.bool true)]]⟩ := by
  have h2 : r.b.length ≤ 9223372036854775807 := by omega
  unfold rdT
  by_cases he : r.e = 0
  · simp [rdTextC, asB_bytes, inObj, h2, he, rOV]
  · simp [rdTextC, asB_bytes, inObj, h2, he, rOV]
theorem err_atr (r : RS) : errC [.ptr 6400000 0] [[.c (.sl (bytes r.b)), .c (.int .i64 r.e), .c (.bool true)]] = some ⟨[.pv (.c (.int .i64 r.e))], [[.c (.sl (bytes r.b)), .c (.int .i64 r.e), .c (.bool true)]]⟩ := by
  simp [errC, inObj]


variable {Γ : FuncId → Contract}

structure Txn where
  fr : Int
  to : Int
  am : Int
  no : Int
  sig : List UInt8
  deriving DecidableEq
def Txn.pcs (t : Txn) : List PC := [.int .i64 t.fr, .int .i64 t.to, .int .i64 t.am, .int .i64 t.no, .str t.sig]
def Txn.av (t : Txn) : AV := .agg [.c (.int .i64 t.fr), .c (.int .i64 t.to), .c (.int .i64 t.am), .c (.int .i64 t.no), .c (.str t.sig)]
theorem Txn.av_inj {a b : Txn} (h : a.av = b.av) : a = b := by
  obtain ⟨a1, a2, a3, a4, a5⟩ := a
  obtain ⟨b1, b2, b3, b4, b5⟩ := b
  simp only [Txn.av, AV.agg.injEq, List.cons.injEq, AV.c.injEq, PC.str.injEq, PC.int.injEq, true_and, and_true] at h
  obtain ⟨rfl, rfl, rfl, rfl, rfl⟩ := h
  rfl
theorem Txn.av_iff {a b : Txn} : a.av = b.av ↔ a = b := ⟨Txn.av_inj, fun h => by rw [h]⟩
def okT (t : Txn) : Prop := (0 ≤ t.fr ∧ t.fr ≤ 3) ∧ (0 ≤ t.to ∧ t.to ≤ 3) ∧ t.fr ≠ t.to ∧ 1 ≤ t.am ∧ t.am ≤ 1000 ∧ 0 ≤ t.no ∧ t.no ≤ 1099511627776 ∧ t.sig.length ≤ 4096
instance (t : Txn) : Decidable (okT t) := inferInstanceAs (Decidable (_ ∧ _))
def txS (t : Txn) : Int := if okT t then 0 else 9
def zeroT : Txn := ⟨0, 0, 0, 0, []⟩

def clientC : Contract := fun args objs => match args, objs with
  | [.c (.int .i64 n)], [] => some ⟨[.pv (.c (.bool (decide (n ≥ 0) && decide (n < 4))))], []⟩
  | _, _ => none
theorem client_at (n : Int) : clientC [.c (.int .i64 n)] [] = some ⟨[.pv (.c (.bool (decide (n ≥ 0) && decide (n < 4))))], []⟩ := rfl
set_option maxHeartbeats 1000000 in
theorem client_sound : SoundC Try.prog 76 clientC := by
  refine sound_fn Try.func76 (by kernel_rfl) rfl rfl ?_
  intro args objs r hr
  unfold clientC at hr
  split at hr
  · rename_i n
    cases hr
    refine ⟨rfl, by show 1 ≤ _; decide, fun E hN hns hF => ?_⟩
    refine vc_sound none0_sound mixed _ _ _ ?_
    have hN := hN.trans nt_76
    simp +contextual (maxSteps := 10000000) only [runA, runB, runC, runD, runE, runF, fieldE, storeE, binE, ↓reduceIte, Nat.reduceLT, Nat.reduceLeDiff, Nat.reduceEqDiff, Nat.reduceAdd, Nat.reduceMul, Nat.reduceSub, reduceCtorEq, putAt, unE, Nat.reduceBEq, convE, buildE, List.replicate, Int.reduceLT, Int.reduceLE, Int.reduceToNat, mkE, mapSetE, hN, hF, ty_3, ty_4, notIf, isEq, bytes_length, false_implies, implies_true]
    simp only [runB, finC, finD, Option.isSome_some, Option.isSome_none, ↓reduceIte, Nat.reduceEqDiff, Nat.reduceAdd, Nat.reduceMul, forall_eq_or_imp, forall_eq, implies_true, Nat.reduceBEq, reduceCtorEq, false_implies, List.zip_cons_cons, List.zip_nil_left, List.zip_nil_right, Nat.reduceLeDiff, List.forall_mem_nil, rs_76]
  · cases hr
noncomputable def txCkC : Contract := mkC (α := Txn) (fun _ => True) (fun t => [t.av]) (fun _ => []) (fun t => ⟨[.pv (.c (.int .i64 (txS t)))], []⟩)
theorem txCk_at (t : Txn) : txCkC [.agg [.c (.int .i64 t.fr), .c (.int .i64 t.to), .c (.int .i64 t.am), .c (.int .i64 t.no), .c (.str t.sig)]] [] = some ⟨[.pv (.c (.int .i64 (txS t)))], []⟩ :=
  mkC_at (α := Txn) t trivial (by
    rintro y _ h _
    have h' : [y.av] = [t.av] := h
    have e : y = t := Txn.av_inj (by simpa using h')
    rw [e])

set_option maxRecDepth 100000 in
set_option maxHeartbeats 4000000 in
theorem txCk_sound (hΓ : SoundG Try.prog Γ) (h1 : Γ 76 = clientC) : SoundC Try.prog 90 txCkC := by
  refine sound_fn Try.func90 (by kernel_rfl) rfl rfl ?_
  intro args objs r hr
  obtain ⟨⟨fr, to, am, no, sig⟩, _, rfl, rfl, rfl⟩ := mkC_inv hr
  refine ⟨rfl, by show 1 ≤ _; decide, fun E hN hns hF => ?_⟩
  refine vc_sound hΓ mixed _ _ _ ?_
  have hN := hN.trans nt_90
  unfold Txn.av
  simp +contextual (maxSteps := 10000000) only [runA, runB, runC, runD, runE, runF, fieldE, storeE, binE, ↓reduceIte, Nat.reduceLT, Nat.reduceLeDiff, Nat.reduceEqDiff, Nat.reduceAdd, Nat.reduceMul, Nat.reduceSub, reduceCtorEq, putAt, unE, Nat.reduceBEq, convE, buildE, List.replicate, Int.reduceLT, Int.reduceLE, Int.reduceToNat, mkE, mapSetE, hN, hF, ty_3, ty_4, ty_9, ty_27, ty_54, notIf, isEq, bytes_length, false_implies, implies_true, h1, client_at]
  refine ⟨fun hb => ?_, fun hb => ?_⟩
  · have hS : txS ⟨fr, to, am, no, sig⟩ = 9 := if_neg (by simp at hb; unfold okT; simp only; omega)
    simp only [runB, finC, finD, Option.isSome_some, Option.isSome_none, ↓reduceIte, Nat.reduceEqDiff, Nat.reduceAdd, Nat.reduceMul, forall_eq_or_imp, forall_eq, implies_true, Nat.reduceBEq, reduceCtorEq, false_implies, List.zip_cons_cons, List.zip_nil_left, List.zip_nil_right, Nat.reduceLeDiff, List.forall_mem_nil, rs_90, hS]
  · have hS : txS ⟨fr, to, am, no, sig⟩ = 0 := if_pos (by simp at hb; unfold okT; simp only; omega)
    simp only [runB, finC, finD, Option.isSome_some, Option.isSome_none, ↓reduceIte, Nat.reduceEqDiff, Nat.reduceAdd, Nat.reduceMul, forall_eq_or_imp, forall_eq, implies_true, Nat.reduceBEq, reduceCtorEq, false_implies, List.zip_cons_cons, List.zip_nil_left, List.zip_nil_right, Nat.reduceLeDiff, List.forall_mem_nil, rs_90, hS]


variable {Γ : FuncId → Contract}

def txW : List UInt8 := [116, 120]
def arrT (t : Txn) (i : Nat) : Int := if i = 0 then t.fr else if i = 1 then t.to else if i = 2 then t.am else t.no
/-- The fields, one behind another, till i. -/
def txF (w : WS) (t : Txn) : Nat → WS
  | 0 => rText w txW
  | i + 1 => wNum (txF w t i) (arrT t i)
theorem txF_len (w : WS) (t : Txn) : ∀ i, (txF w t i).b.length ≤ w.b.length + 4 + 6 * i
  | 0 => by have := (rText_len w txW).1; show (rText w txW).b.length ≤ _; simp only [txW, List.length_cons, List.length_nil] at this; simp only [txW]; omega
  | i + 1 => by have h1 := txF_len w t i; have h2 := wNum_len (txF w t i) (arrT t i); show (wNum _ _).b.length ≤ _; omega
def txB (t : Txn) : List UInt8 := putB 2 2 ++ (txW ++ (putB t.fr 6 ++ (putB t.to 6 ++ (putB t.am 6 ++ putB t.no 6))))
structure Wt where
  w : WS
  t : Txn
theorem bytes_ovi {a b : List UInt8} {x y : Int} (h : [[OV.own 1 (bytes a), .c (.int .i64 x), .c (.bool true)]] = [[OV.own 1 (bytes b), .c (.int .i64 y), .c (.bool true)]]) : a = b ∧ x = y := by
  simp only [List.cons.injEq, OV.own.injEq, OV.c.injEq, PC.int.injEq, true_and, and_true] at h
  exact ⟨bytes_inj h.1, h.2⟩
noncomputable def txtC : Contract := mkC (α := Wt) (fun p => p.w.b.length ≤ 90000) (fun p => [.ptr 6400000 0, p.t.av]) (fun p => [[.own 1 (bytes p.w.b), .c (.int .i64 p.w.e), .c (.bool true)]]) (fun p => ⟨[], [[.own 1 (bytes (txF p.w p.t 4).b), .c (.int .i64 (txF p.w p.t 4).e), .c (.bool true)]]⟩)
theorem txt_at (w : WS) (t : Txn) (h : w.b.length ≤ 90000) : txtC [.ptr 6400000 0, .agg [.c (.int .i64 t.fr), .c (.int .i64 t.to), .c (.int .i64 t.am), .c (.int .i64 t.no), .c (.str t.sig)]] [[.own 1 (bytes w.b), .c (.int .i64 w.e), .c (.bool true)]] = some ⟨[], [[.own 1 (bytes (txF w t 4).b), .c (.int .i64 (txF w t 4).e), .c (.bool true)]]⟩ :=
  mkC_at (α := Wt) ⟨w, t⟩ h (by
    rintro ⟨⟨b', e'⟩, t'⟩ _ h ho
    obtain ⟨b, e⟩ := w
    have h' : [AV.ptr 6400000 0, t'.av] = [AV.ptr 6400000 0, t.av] := h
    have e1 : t' = t := Txn.av_inj (by simpa using h')
    obtain ⟨e2, e3⟩ := bytes_ovi ho
    dsimp only at e2 e3
    rw [e1, e2, e3])
noncomputable def txPutC : Contract := mkC (α := Wt) (fun p => p.w.b.length ≤ 90000 ∧ p.t.sig.length ≤ 9223372036854775807) (fun p => [.ptr 6400000 0, p.t.av]) (fun p => [[.own 1 (bytes p.w.b), .c (.int .i64 p.w.e), .c (.bool true)]]) (fun p => ⟨[], [[.own 1 (bytes (rText (txF p.w p.t 4) p.t.sig).b), .c (.int .i64 (rText (txF p.w p.t 4) p.t.sig).e), .c (.bool true)]]⟩)
theorem txPut_at (w : WS) (t : Txn) (h : w.b.length ≤ 90000) (hs : t.sig.length ≤ 9223372036854775807) : txPutC [.ptr 6400000 0, .agg [.c (.int .i64 t.fr), .c (.int .i64 t.to), .c (.int .i64 t.am), .c (.int .i64 t.no), .c (.str t.sig)]] [[.own 1 (bytes w.b), .c (.int .i64 w.e), .c (.bool true)]] = some ⟨[], [[.own 1 (bytes (rText (txF w t 4) t.sig).b), .c (.int .i64 (rText (txF w t 4) t.sig).e), .c (.bool true)]]⟩ :=
  mkC_at (α := Wt) ⟨w, t⟩ ⟨h, hs⟩ (by
    rintro ⟨⟨b', e'⟩, t'⟩ _ h ho
    obtain ⟨b, e⟩ := w
    have h' : [AV.ptr 6400000 0, t'.av] = [AV.ptr 6400000 0, t.av] := h
    have e1 : t' = t := Txn.av_inj (by simpa using h')
    obtain ⟨e2, e3⟩ := bytes_ovi ho
    dsimp only at e2 e3
    rw [e1, e2, e3])

set_option maxRecDepth 100000 in
set_option maxHeartbeats 4000000 in
theorem txt_sound (hΓ : SoundG Try.prog Γ) (h1 : Γ 83 = textC) (h2 : Γ 80 = numC) : SoundC Try.prog 92 txtC := by
  refine sound_fn Try.func92 (by kernel_rfl) rfl rfl ?_
  intro args objs r0 hr
  obtain ⟨⟨w, ⟨fr, to, am, no, sig⟩⟩, hl, rfl, rfl, rfl⟩ := mkC_inv hr
  have hl : w.b.length ≤ 90000 := hl
  refine ⟨rfl, by show 2 ≤ _; decide, fun E hN hns hF => ?_⟩
  refine vc_sound hΓ mixed _ _ _ ?_
  have hN := hN.trans nt_92
  unfold Txn.av
  dsimp only
  have q1 : textC [.ptr 6400000 0, .c (.str [116, 120])] [[.own 1 (bytes w.b), .c (.int .i64 w.e), .c (.bool true)]] = some ⟨[], [[.own 1 (bytes (txF w ⟨fr, to, am, no, sig⟩ 0).b), .c (.int .i64 (txF w ⟨fr, to, am, no, sig⟩ 0).e), .c (.bool true)]]⟩ := text_atw w [116, 120] (by omega) (by decide)
  have hfl := txF_len w ⟨fr, to, am, no, sig⟩
  obtain ⟨wb, we⟩ := w
  dsimp only at q1 ⊢
  simp only [runA, runB, runC, runD, runE, runF, fieldE, storeE, binE, ↓reduceIte, Nat.reduceLT, Nat.reduceLeDiff, Nat.reduceEqDiff, Nat.reduceAdd, Nat.reduceMul, Nat.reduceSub, reduceCtorEq, putAt, unE, Nat.reduceBEq, convE, buildE, List.replicate, Int.reduceLT, Int.reduceLE, Int.reduceToNat, mkE, mapSetE, hN, hF, ty_3, ty_9, ty_54, ty_86, ty_163, notIf, isEq, h1, q1, bytes_length]
  refine AWP.loop (fun k st => ∃ i : Nat, i ≤ 4 ∧ k = 4 - i ∧ st = ⟨[(0, .ptr 6400000 0), (16, .agg [.c (.int .i64 fr), .c (.int .i64 to), .c (.int .i64 am), .c (.int .i64 no)]), (17, .c (.int .i64 (i : Int)))],
    [(6400000, .obj [.own 6400001 1 (bytes (txF ⟨wb, we⟩ ⟨fr, to, am, no, sig⟩ i).b), .c (.int .i64 (txF ⟨wb, we⟩ ⟨fr, to, am, no, sig⟩ i).e), .c (.bool true)] false), (6400001, .row 1 (txF ⟨wb, we⟩ ⟨fr, to, am, no, sig⟩ i).b.length)]⟩) ⟨4, _, ?w, 0, Nat.zero_le _, rfl, rfl⟩ ?r
  case w =>
    rw [hns]
    simp only [runB, finC, finD, AS.get, AS.mem, false_implies, implies_true, ↓reduceIte, Nat.reduceEqDiff, Option.isSome_some, Option.isSome_none, forall_eq_or_imp, forall_eq, reduceCtorEq, Nat.reduceAdd, Nat.reduceMul, List.zip_cons_cons, List.zip_nil_left, List.zip_nil_right, List.forall_mem_nil]
    first | done | simp
  case r =>
    rintro k st ⟨i, hi, rfl, rfl⟩
    refine vc_sound hΓ mixed _ _ _ ?_
    have hlen := hfl i
    by_cases hlt : i < 4
    · have g2 : decide ((i : Int) < 4) = true := by simp; omega
      have g3 : ((i : Int) < ((4 : Nat) : Int)) = True := by simp; omega
      have e1 : IntKind.i64.wrap ((i : Int) + 1) = (i : Int) + 1 := wrapI (by omega)
      have hx : ([AV.c (.int .i64 fr), AV.c (.int .i64 to), AV.c (.int .i64 am), AV.c (.int .i64 no)] : List AV)[i]? = some (.c (.int .i64 (arrT ⟨fr, to, am, no, sig⟩ i))) := by
        unfold arrT
        rcases (show i = 0 ∨ i = 1 ∨ i = 2 ∨ i = 3 by omega) with rfl | rfl | rfl | rfl <;> rfl
      have hn := num_atw (txF ⟨wb, we⟩ ⟨fr, to, am, no, sig⟩ i) (arrT ⟨fr, to, am, no, sig⟩ i) (by dsimp only at hlen hl; omega)
      have hb : wNum (txF ⟨wb, we⟩ ⟨fr, to, am, no, sig⟩ i) (arrT ⟨fr, to, am, no, sig⟩ i) = txF ⟨wb, we⟩ ⟨fr, to, am, no, sig⟩ (i + 1) := rfl
      rw [hb] at hn
      generalize hg : ([AV.c (.int .i64 fr), AV.c (.int .i64 to), AV.c (.int .i64 am), AV.c (.int .i64 no)] : List AV) = ar at hx
      simp only [runA, runB, runC, runD, runE, runF, fieldE, storeE, binE, ↓reduceIte, Nat.reduceLT, Nat.reduceLeDiff, Nat.reduceEqDiff, Nat.reduceAdd, Nat.reduceMul, Nat.reduceSub, reduceCtorEq, putAt, unE, Nat.reduceBEq, convE, buildE, List.replicate, Int.reduceLT, Int.reduceLE, Int.reduceToNat, mkE, mapSetE, hN, hF, ty_3, ty_9, ty_54, ty_86, ty_163, notIf, isEq, g2, g3, e1, hx, h2, hn, bytes_length]
      refine ⟨4 - (i + 1), _, by omega, ?_, i + 1, by omega, rfl, rfl⟩
      rw [hns]
      subst hg
      simp only [runB, finC, finD, AS.get, AS.mem, false_implies, implies_true, ↓reduceIte, Nat.reduceEqDiff, Option.isSome_some, Option.isSome_none, forall_eq_or_imp, forall_eq, reduceCtorEq, Nat.reduceAdd, Nat.reduceMul, List.zip_cons_cons, List.zip_nil_left, List.zip_nil_right, List.forall_mem_nil, bytes_length]
      first | done | simp
    · have g2 : decide ((i : Int) < 4) = false := by simp; omega
      obtain rfl : i = 4 := by omega
      generalize txF ⟨wb, we⟩ ⟨fr, to, am, no, sig⟩ 4 = w2
      simp only [runA, runB, runC, runD, runE, runF, fieldE, storeE, binE, ↓reduceIte, Nat.reduceLT, Nat.reduceLeDiff, Nat.reduceEqDiff, Nat.reduceAdd, Nat.reduceMul, Nat.reduceSub, reduceCtorEq, putAt, unE, Nat.reduceBEq, convE, buildE, List.replicate, Int.reduceLT, Int.reduceLE, Int.reduceToNat, mkE, mapSetE, hN, hF, ty_3, ty_9, ty_54, ty_86, ty_163, notIf, isEq, g2]
      simp only [runB, finC, finD, Option.isSome_some, Option.isSome_none, ↓reduceIte, Nat.reduceEqDiff, Nat.reduceAdd, Nat.reduceMul, forall_eq_or_imp, forall_eq, implies_true, Nat.reduceBEq, reduceCtorEq, false_implies, List.zip_cons_cons, List.zip_nil_left, List.zip_nil_right, Nat.reduceLeDiff, List.forall_mem_nil, rs_92, bytes_length]

set_option maxRecDepth 100000 in
set_option maxHeartbeats 4000000 in
theorem txPut_sound (hΓ : SoundG Try.prog Γ) (h1 : Γ 92 = txtC) (h2 : Γ 83 = textC) : SoundC Try.prog 44 txPutC := by
  refine sound_fn Try.func44 (by kernel_rfl) rfl rfl ?_
  intro args objs r0 hr
  obtain ⟨⟨w, t⟩, ⟨hl, hs⟩, rfl, rfl, rfl⟩ := mkC_inv hr
  have hl : w.b.length ≤ 90000 := hl
  have hs : t.sig.length ≤ 9223372036854775807 := hs
  refine ⟨rfl, by show 2 ≤ _; decide, fun E hN hns hF => ?_⟩
  refine vc_sound hΓ mixed _ _ _ ?_
  have hN := hN.trans nt_44
  unfold Txn.av
  dsimp only
  have q1 := txt_at w t hl
  have hfl := txF_len w t 4
  have q2 := text_atw (txF w t 4) t.sig (by omega) hs
  generalize rText (txF w t 4) t.sig = w3 at q2 ⊢
  generalize txF w t 4 = w2 at q1 q2
  simp only [runA, runB, runC, runD, runE, runF, fieldE, storeE, binE, ↓reduceIte, Nat.reduceLT, Nat.reduceLeDiff, Nat.reduceEqDiff, Nat.reduceAdd, Nat.reduceMul, Nat.reduceSub, reduceCtorEq, putAt, unE, Nat.reduceBEq, convE, buildE, List.replicate, Int.reduceLT, Int.reduceLE, Int.reduceToNat, mkE, mapSetE, hN, hF, ty_3, ty_9, ty_54, ty_86, notIf, isEq, h1, q1, h2, q2, bytes_length]
  simp only [runB, finC, finD, Option.isSome_some, Option.isSome_none, ↓reduceIte, Nat.reduceEqDiff, Nat.reduceAdd, Nat.reduceMul, forall_eq_or_imp, forall_eq, implies_true, Nat.reduceBEq, reduceCtorEq, false_implies, List.zip_cons_cons, List.zip_nil_left, List.zip_nil_right, Nat.reduceLeDiff, List.forall_mem_nil, rs_44, bytes_length]


variable {Γ : FuncId → Contract}

def tA (r : RS) := rd (rdT r 2).2 4
def tB (r : RS) := rd (tA r).2 4
def tC (r : RS) := rd (tB r).2 1000
def tD (r : RS) := rd (tC r).2 1099511627776
def tE (r : RS) := rdT (tD r).2 4096
def gotT (r : RS) : Txn := ⟨(tA r).1, (tB r).1, (tC r).1, (tD r).1, (tE r).1⟩
def readT (r : RS) : Txn × RS := if (rdT r 2).1 ≠ txW then (zeroT, (rdT r 2).2) else if (tE r).2.e ≠ 0 ∨ ¬ okT (gotT r) then (zeroT, (tE r).2) else (gotT r, (tE r).2)
theorem readT_len (r : RS) : (readT r).2.b.length ≤ r.b.length := by
  have h0 := rdT_len r 2
  have h1 : (tA r).2.b.length ≤ _ := rd_len _ _
  have h2 : (tB r).2.b.length ≤ _ := rd_len _ _
  have h3 : (tC r).2.b.length ≤ _ := rd_len _ _
  have h4 : (tD r).2.b.length ≤ _ := rd_len _ _
  have h5 : (tE r).2.b.length ≤ _ := rdT_len _ _
  unfold readT
  split
  · exact h0
  · split <;> simp only <;> omega
/-- What was put is read. -/
def txE (t : Txn) : List UInt8 := txB t ++ (putB (t.sig.length : Int) 2 ++ t.sig)
theorem read_putT {t : Txn} (h : okT t) (rest : List UInt8) : readT ⟨txE t ++ rest, 0⟩ = (t, ⟨rest, 0⟩) := by
  have hk := h
  obtain ⟨h1, h2, h3, h4, h5, h6, h7, h8⟩ := h
  have e : txE t ++ rest = putB ((txW.length : Nat) : Int) 2 ++ (txW ++ (putB t.fr 6 ++ (putB t.to 6 ++ (putB t.am 6 ++ (putB t.no 6 ++ (putB (t.sig.length : Int) 2 ++ (t.sig ++ rest))))))) := by
    simp [txE, txB, txW]
  have c0 := rdT_put (s := txW) (most := 2) (by decide) (by decide) (putB t.fr 6 ++ (putB t.to 6 ++ (putB t.am 6 ++ (putB t.no 6 ++ (putB (t.sig.length : Int) 2 ++ (t.sig ++ rest))))))
  rw [← e] at c0
  generalize txE t ++ rest = bb at c0
  have c1 : tA ⟨bb, 0⟩ = (t.fr, ⟨putB t.to 6 ++ (putB t.am 6 ++ (putB t.no 6 ++ (putB (t.sig.length : Int) 2 ++ (t.sig ++ rest)))), 0⟩) := by
    unfold tA; rw [c0]; exact rd_put (by omega) (by omega) (by omega) _
  have c2 : tB ⟨bb, 0⟩ = (t.to, ⟨putB t.am 6 ++ (putB t.no 6 ++ (putB (t.sig.length : Int) 2 ++ (t.sig ++ rest))), 0⟩) := by
    unfold tB; rw [c1]; exact rd_put (by omega) (by omega) (by omega) _
  have c3 : tC ⟨bb, 0⟩ = (t.am, ⟨putB t.no 6 ++ (putB (t.sig.length : Int) 2 ++ (t.sig ++ rest)), 0⟩) := by
    unfold tC; rw [c2]; exact rd_put (by omega) (by omega) (by omega) _
  have c4 : tD ⟨bb, 0⟩ = (t.no, ⟨putB (t.sig.length : Int) 2 ++ (t.sig ++ rest), 0⟩) := by
    unfold tD; rw [c3]; exact rd_put (by omega) (by omega) (by omega) _
  have c5 : tE ⟨bb, 0⟩ = (t.sig, ⟨rest, 0⟩) := by
    unfold tE; rw [c4]; exact rdT_put (by omega) (by omega) _
  have c6 : gotT ⟨bb, 0⟩ = t := by unfold gotT; rw [c1, c2, c3, c4, c5]
  unfold readT
  rw [c0, if_neg (by simp), c5, c6, if_neg (by simp [hk])]

theorem bytes_ocr {a b : List UInt8} {x y : Int} (h : [[OV.c (.sl (bytes a)), .c (.int .i64 x), .c (.bool true)]] = [[OV.c (.sl (bytes b)), .c (.int .i64 y), .c (.bool true)]]) : a = b ∧ x = y := by
  simp only [List.cons.injEq, OV.c.injEq, PC.sl.injEq, PC.int.injEq, true_and, and_true] at h
  exact ⟨bytes_inj h.1, h.2⟩
noncomputable def txRdC : Contract := mkC (α := RS) (fun r => r.b.length ≤ 140737488355328) (fun _ => [.ptr 6400000 0]) (fun r => [[.c (.sl (bytes r.b)), .c (.int .i64 r.e), .c (.bool true)]]) (fun r => ⟨[.pv (readT r).1.av], [[.c (.sl (bytes (readT r).2.b)), .c (.int .i64 (readT r).2.e), .c (.bool true)]]⟩)
theorem txRd_at (r : RS) (h : r.b.length ≤ 140737488355328) : txRdC [.ptr 6400000 0] [[.c (.sl (bytes r.b)), .c (.int .i64 r.e), .c (.bool true)]] = some ⟨[.pv (readT r).1.av], [[.c (.sl (bytes (readT r).2.b)), .c (.int .i64 (readT r).2.e), .c (.bool true)]]⟩ :=
  mkC_at (α := RS) r h (by
    rintro ⟨b', e'⟩ _ h ho
    obtain ⟨b, e⟩ := r
    obtain ⟨e2, e3⟩ := bytes_ocr ho
    dsimp only at e2 e3
    rw [e2, e3])

set_option maxRecDepth 100000 in
set_option maxHeartbeats 4000000 in
theorem txRd_sound (hΓ : SoundG Try.prog Γ) (h1 : Γ 94 = rdTextC) (h2 : Γ 95 = rdNumC) (h3 : Γ 85 = errC) (h4 : Γ 90 = txCkC) : SoundC Try.prog 46 txRdC := by
  refine sound_fn Try.func46 (by kernel_rfl) rfl rfl ?_
  intro args objs r0 hr
  obtain ⟨r, hl, rfl, rfl, rfl⟩ := mkC_inv hr
  have hl : r.b.length ≤ 140737488355328 := hl
  refine ⟨rfl, by show 1 ≤ _; decide, fun E hN hns hF => ?_⟩
  refine vc_sound hΓ mixed _ _ _ ?_
  have hN := hN.trans nt_46
  have l0 := rdT_len r 2
  have l1 : (tA r).2.b.length ≤ _ := rd_len _ _
  have l2 : (tB r).2.b.length ≤ _ := rd_len _ _
  have l3 : (tC r).2.b.length ≤ _ := rd_len _ _
  have l4 : (tD r).2.b.length ≤ _ := rd_len _ _
  have q0 := text_atr r 2 hl
  by_cases c0 : (rdT r 2).1 = txW
  case neg =>
    have g0 : ((rdT r 2).1 == [116, 120]) = false := by simpa [txW] using c0
    have hS : readT r = (zeroT, (rdT r 2).2) := if_pos c0
    rw [hS]
    generalize rdT r 2 = q at q0 g0 ⊢
    simp only [runA, runB, runC, runD, runE, runF, fieldE, storeE, binE, ↓reduceIte, Nat.reduceLT, Nat.reduceLeDiff, Nat.reduceEqDiff, Nat.reduceAdd, Nat.reduceMul, Nat.reduceSub, reduceCtorEq, putAt, unE, Nat.reduceBEq, convE, buildE, List.replicate, Int.reduceLT, Int.reduceLE, Int.reduceToNat, mkE, mapSetE, hN, hF, ty_3, ty_9, ty_27, ty_54, ty_91, notIf, isEq, h1, q0, g0]
    simp only [runB, finC, finD, Option.isSome_some, Option.isSome_none, ↓reduceIte, Nat.reduceEqDiff, Nat.reduceAdd, Nat.reduceMul, forall_eq_or_imp, forall_eq, implies_true, Nat.reduceBEq, reduceCtorEq, false_implies, List.zip_cons_cons, List.zip_nil_left, List.zip_nil_right, Nat.reduceLeDiff, List.forall_mem_nil, rs_46, agg_54, sz_54, zeroT, Txn.av]
  have g0 : ((rdT r 2).1 == [116, 120]) = true := by rw [c0]; decide
  have q1 := num_atr (rdT r 2).2 4 (by omega)
  have q2 := num_atr (tA r).2 4 (by omega)
  have q3 := num_atr (tB r).2 1000 (by omega)
  have q4 := num_atr (tC r).2 1099511627776 (by omega)
  have q5 := text_atr (tD r).2 4096 (by omega)
  have q6 := err_atr (tE r).2
  have q7 := txCk_at (gotT r)
  have hR : readT r = if (tE r).2.e ≠ 0 ∨ ¬ okT (gotT r) then (zeroT, (tE r).2) else (gotT r, (tE r).2) := if_neg (by simp [c0])
  rw [hR]
  have hgot : gotT r = ⟨(tA r).1, (tB r).1, (tC r).1, (tD r).1, (tE r).1⟩ := rfl
  rw [show rd (rdT r 2).2 4 = tA r from rfl] at q1
  rw [show rd (tA r).2 4 = tB r from rfl] at q2
  rw [show rd (tB r).2 1000 = tC r from rfl] at q3
  rw [show rd (tC r).2 1099511627776 = tD r from rfl] at q4
  rw [show rdT (tD r).2 4096 = tE r from rfl] at q5
  rw [hgot] at q7 ⊢
  dsimp only at q7
  generalize rdT r 2 = z0 at q0 q1 g0
  generalize tA r = z1 at q1 q2 q7 ⊢
  generalize tB r = z2 at q2 q3 q7 ⊢
  generalize tC r = z3 at q3 q4 q7 ⊢
  generalize tD r = z4 at q4 q5 q7 ⊢
  generalize tE r = z5 at q5 q6 q7 ⊢
  by_cases c1 : z5.2.e = 0
  case neg =>
    have g1 : (z5.2.e != 0) = true := by simpa using c1
    rw [if_pos (Or.inl c1)]
    simp only [runA, runB, runC, runD, runE, runF, fieldE, storeE, binE, ↓reduceIte, Nat.reduceLT, Nat.reduceLeDiff, Nat.reduceEqDiff, Nat.reduceAdd, Nat.reduceMul, Nat.reduceSub, reduceCtorEq, putAt, unE, Nat.reduceBEq, convE, buildE, List.replicate, Int.reduceLT, Int.reduceLE, Int.reduceToNat, mkE, mapSetE, hN, hF, ty_3, ty_9, ty_27, ty_54, ty_91, notIf, isEq, h1, h2, h3, q0, q1, q2, q3, q4, q5, q6, g0, g1]
    simp only [runB, finC, finD, Option.isSome_some, Option.isSome_none, ↓reduceIte, Nat.reduceEqDiff, Nat.reduceAdd, Nat.reduceMul, forall_eq_or_imp, forall_eq, implies_true, Nat.reduceBEq, reduceCtorEq, false_implies, List.zip_cons_cons, List.zip_nil_left, List.zip_nil_right, Nat.reduceLeDiff, List.forall_mem_nil, rs_46, agg_54, sz_54, zeroT, Txn.av]
  have g1 : (z5.2.e != 0) = false := by simpa using c1
  by_cases c2 : okT ⟨z1.1, z2.1, z3.1, z4.1, z5.1⟩
  · rw [show txS ⟨z1.1, z2.1, z3.1, z4.1, z5.1⟩ = 0 from if_pos c2] at q7
    have b0 : ((0 : Int) != 0) = false := rfl
    rw [if_neg (by rintro (h | h); exact h c1; exact h c2)]
    simp only [runA, runB, runC, runD, runE, runF, fieldE, storeE, binE, ↓reduceIte, Nat.reduceLT, Nat.reduceLeDiff, Nat.reduceEqDiff, Nat.reduceAdd, Nat.reduceMul, Nat.reduceSub, reduceCtorEq, putAt, unE, Nat.reduceBEq, convE, buildE, List.replicate, Int.reduceLT, Int.reduceLE, Int.reduceToNat, mkE, mapSetE, hN, hF, ty_3, ty_9, ty_27, ty_54, ty_91, notIf, isEq, h1, h2, h3, h4, q0, q1, q2, q3, q4, q5, q6, q7, g0, g1, b0]
    simp only [runB, finC, finD, Option.isSome_some, Option.isSome_none, ↓reduceIte, Nat.reduceEqDiff, Nat.reduceAdd, Nat.reduceMul, forall_eq_or_imp, forall_eq, implies_true, Nat.reduceBEq, reduceCtorEq, false_implies, List.zip_cons_cons, List.zip_nil_left, List.zip_nil_right, Nat.reduceLeDiff, List.forall_mem_nil, rs_46, agg_54, sz_54, Txn.av]
  · rw [show txS ⟨z1.1, z2.1, z3.1, z4.1, z5.1⟩ = 9 from if_neg c2] at q7
    have b0 : ((9 : Int) != 0) = true := rfl
    rw [if_pos (Or.inr c2)]
    simp only [runA, runB, runC, runD, runE, runF, fieldE, storeE, binE, ↓reduceIte, Nat.reduceLT, Nat.reduceLeDiff, Nat.reduceEqDiff, Nat.reduceAdd, Nat.reduceMul, Nat.reduceSub, reduceCtorEq, putAt, unE, Nat.reduceBEq, convE, buildE, List.replicate, Int.reduceLT, Int.reduceLE, Int.reduceToNat, mkE, mapSetE, hN, hF, ty_3, ty_9, ty_27, ty_54, ty_91, notIf, isEq, h1, h2, h3, h4, q0, q1, q2, q3, q4, q5, q6, q7, g0, g1, b0]
    simp only [runB, finC, finD, Option.isSome_some, Option.isSome_none, ↓reduceIte, Nat.reduceEqDiff, Nat.reduceAdd, Nat.reduceMul, forall_eq_or_imp, forall_eq, implies_true, Nat.reduceBEq, reduceCtorEq, false_implies, List.zip_cons_cons, List.zip_nil_left, List.zip_nil_right, Nat.reduceLeDiff, List.forall_mem_nil, rs_46, agg_54, sz_54, zeroT, Txn.av]

def cs (k : Nat) : List UInt8 := [99, 108, 105, 101, 110, 116] ++ [UInt8.ofNat (48 + k)]
def Txn.signed (t : Txn) (s : List UInt8) : Txn := ⟨t.fr, t.to, t.am, t.no, s⟩
end Go.Proofs.Ytldehcnaepgamaa.AM
