/-
  QA: St1 St2 St3 St4 St6.
-/
import Derived.Test.YtcfijanfcgnnhaaQ9
import Derived.Test.YtcfijanfcgnnhaaQ5
set_option linter.unusedVariables false
set_option linter.unusedSimpArgs false
namespace Go.Proofs.Ytcfijanfcgnnhaa.AM
open Go

variable {Γ : FuncId → Contract}

abbrev Acc := Int × Int
def arrA (c : Int) (a : Acc) (i : Nat) : Int := if i = 0 then c else if i = 1 then a.1 else a.2
def wsN (c : Int) (a : Acc) : Nat → WS
  | 0 => ⟨[], 0⟩
  | i + 1 => wNum (wsN c a i) (arrA c a i)
theorem wsN_len (c : Int) (a : Acc) : ∀ i, (wsN c a i).b.length ≤ 6 * i
  | 0 => by simp [wsN]
  | i + 1 => by
    have := wsN_len c a i
    rw [wsN]
    unfold wNum
    split
    · dsimp only; omega
    · split
      · dsimp only
        rw [List.length_append, putB_length]
        have : (min (max (6 : Int) 0) 8).toNat = 6 := rfl
        omega
      · omega
/-- An account's leaf. -/
def leafA (c : Int) (a : Acc) : List UInt8 := shortS (doneR (wsN c a 3)).1
theorem leafA_length (c : Int) (a : Acc) : (leafA c a).length = 8 := shortS_length _
def accP (a : Acc) : List PC := [.int .i64 a.1, .int .i64 a.2]
structure Lf where
  c : Int
  a : Acc
noncomputable def lfC : Contract := mkC (α := Lf) (fun _ => True) (fun p => [.c (.int .i64 p.c), .agg [.c (.int .i64 p.a.1), .c (.int .i64 p.a.2)]]) (fun _ => []) (fun p => ⟨[.pv (.c (.str (leafA p.c p.a)))], []⟩)
theorem lf_at (c : Int) (x y : Int) : lfC [.c (.int .i64 c), .agg [.c (.int .i64 x), .c (.int .i64 y)]] [] = some ⟨[.pv (.c (.str (leafA c (x, y))))], []⟩ :=
  mkC_at (α := Lf) ⟨c, (x, y)⟩ trivial (by
    rintro ⟨c', x', y'⟩ _ h _
    simp only [List.cons.injEq, AV.c.injEq, PC.int.injEq, AV.agg.injEq, true_and, and_true] at h
    obtain ⟨rfl, rfl, rfl⟩ := h
    rfl)

theorem num_at6 (b : List UInt8) (e n : Int) (h : b.length ≤ 100000) : numC [.ptr 6400000 0, .c (.int .i64 n)] [[.own 1 (bytes b), .c (.int .i64 e), .c (.bool true)]] = some ⟨[], [wOV (wNum ⟨b, e⟩ n).b (wNum ⟨b, e⟩ n).e true]⟩ := by
  simp [numC, asB_bytes, inObj, h]
theorem done_at (b : List UInt8) (e : Int) : doneC [.ptr 6400000 0] [[.own 1 (bytes b), .c (.int .i64 e), .c (.bool true)]] = some ⟨[.fresh 1 (bytes (doneR ⟨b, e⟩).1), .pv (.c (.int .i64 (doneR ⟨b, e⟩).2))], [wOV b e true]⟩ := by
  simp [doneC, asB_bytes, inObj]

set_option maxRecDepth 100000 in
set_option maxHeartbeats 2000000 in
theorem stLeaf_sound (hΓ : SoundG Try.prog Γ) (h1 : Γ 47 = newC) (h2 : Γ 48 = numC) (h3 : Γ 49 = doneC) (h4 : Γ 86 = shortC) : SoundC Try.prog 67 lfC := by
  refine sound_fn Try.func67 (by kernel_rfl) rfl rfl ?_
  intro args objs r hr
  obtain ⟨⟨c, x, y⟩, _, rfl, rfl, rfl⟩ := mkC_inv hr
  refine ⟨rfl, by show 2 ≤ _; decide, fun E hN hns hF => ?_⟩
  refine vc_sound hΓ mixed _ _ _ ?_
  have hN := hN.trans nt_67
  dsimp only
  simp only [runA, runB, runC, runD, runE, runF, fieldE, storeE, binE, ↓reduceIte, Nat.reduceLT, Nat.reduceLeDiff, Nat.reduceEqDiff, Nat.reduceAdd, Nat.reduceMul, Nat.reduceSub, reduceCtorEq, putAt, unE, Nat.reduceBEq, convE, buildE, List.replicate, Int.reduceLT, Int.reduceLE, Int.reduceToNat, mkE, mapSetE, hN, hF, ty_3, ty_9, ty_27, ty_71, ty_98, ty_138, ty_153, notIf, isEq, h1, newC]
  refine AWP.loop (fun k st => ∃ i : Nat, i ≤ 3 ∧ k = 3 - i ∧ st = ⟨[(5, .ptr 642 0), (16, .agg [.c (.int .i64 c), .c (.int .i64 x), .c (.int .i64 y)]), (17, .c (.int .i64 (i : Int)))],
    [(642, .obj [.own 650 1 (bytes (wsN c (x, y) i).b), .c (.int .i64 (wsN c (x, y) i).e), .c (.bool true)] false), (650, .row 1 (wsN c (x, y) i).b.length)]⟩) ⟨3, _, ?w, 0, Nat.zero_le _, rfl, rfl⟩ ?r
  case w =>
    rw [hns]
    simp only [runB, finC, finD, AS.get, AS.mem, false_implies, implies_true, ↓reduceIte, Nat.reduceEqDiff, Option.isSome_some, Option.isSome_none, forall_eq_or_imp, forall_eq, reduceCtorEq, Nat.reduceAdd, Nat.reduceMul, List.zip_cons_cons, List.zip_nil_left, List.zip_nil_right, List.forall_mem_nil]
    simp [wsN, bytes]
  case r =>
    rintro k st ⟨i, hi, rfl, rfl⟩
    refine vc_sound hΓ mixed _ _ _ ?_
    have hlen := wsN_len c (x, y) i
    by_cases hlt : i < 3
    · have g1 : decide ((i : Int) < 3) = true := by simp; omega
      have g2 : ((i : Int) < ((3 : Nat) : Int)) = True := by simp; omega
      have e1 : IntKind.i64.wrap ((i : Int) + 1) = (i : Int) + 1 := wrapI (by omega)
      have hx : ([AV.c (.int .i64 c), AV.c (.int .i64 x), AV.c (.int .i64 y)] : List AV)[i]? = some (.c (.int .i64 (arrA c (x, y) i))) := by
        unfold arrA
        rcases (show i = 0 ∨ i = 1 ∨ i = 2 by omega) with rfl | rfl | rfl <;> rfl
      have hn := num_at6 (wsN c (x, y) i).b (wsN c (x, y) i).e (arrA c (x, y) i) (by omega)
      have hw : wNum ⟨(wsN c (x, y) i).b, (wsN c (x, y) i).e⟩ (arrA c (x, y) i) = wsN c (x, y) (i + 1) := rfl
      rw [hw] at hn
      generalize hg : ([AV.c (.int .i64 c), AV.c (.int .i64 x), AV.c (.int .i64 y)] : List AV) = ar at hx
      simp only [runA, runB, runC, runD, runE, runF, fieldE, storeE, binE, ↓reduceIte, Nat.reduceLT, Nat.reduceLeDiff, Nat.reduceEqDiff, Nat.reduceAdd, Nat.reduceMul, Nat.reduceSub, reduceCtorEq, putAt, unE, Nat.reduceBEq, convE, buildE, List.replicate, Int.reduceLT, Int.reduceLE, Int.reduceToNat, mkE, mapSetE, hN, hF, ty_3, ty_9, ty_27, ty_71, ty_98, ty_138, ty_153, notIf, isEq, g1, g2, e1, hx, h2, hn, bytes_length]
      refine ⟨3 - (i + 1), _, by omega, ?_, i + 1, by omega, rfl, rfl⟩
      rw [hns]
      subst hg
      simp only [runB, finC, finD, AS.get, AS.mem, false_implies, implies_true, ↓reduceIte, Nat.reduceEqDiff, Option.isSome_some, Option.isSome_none, forall_eq_or_imp, forall_eq, reduceCtorEq, Nat.reduceAdd, Nat.reduceMul, List.zip_cons_cons, List.zip_nil_left, List.zip_nil_right, List.forall_mem_nil, bytes_length]
      first | done | simp
    · have g1 : decide ((i : Int) < 3) = false := by simp; omega
      obtain rfl : i = 3 := by omega
      have hd := done_at (wsN c (x, y) 3).b (wsN c (x, y) 3).e
      have hw : doneR ⟨(wsN c (x, y) 3).b, (wsN c (x, y) 3).e⟩ = doneR (wsN c (x, y) 3) := rfl
      rw [hw] at hd
      have hdl : (doneR (wsN c (x, y) 3)).1.length ≤ 18 := by unfold doneR; split <;> (try split) <;> simp <;> omega
      have hs := short_at [(doneR (wsN c (x, y) 3)).1] ⟨by simp; omega, by simp⟩
      have hf : [(doneR (wsN c (x, y) 3)).1].flatten = (doneR (wsN c (x, y) 3)).1 := by simp
      rw [hf] at hs
      have hsl : [[PC.sl (bytes (doneR (wsN c (x, y) 3)).1)]] = slices [(doneR (wsN c (x, y) 3)).1] := rfl
      have hle : shortS (doneR (wsN c (x, y) 3)).1 = leafA c (x, y) := rfl
      rw [hle] at hs
      simp only [runA, runB, runC, runD, runE, runF, fieldE, storeE, binE, ↓reduceIte, Nat.reduceLT, Nat.reduceLeDiff, Nat.reduceEqDiff, Nat.reduceAdd, Nat.reduceMul, Nat.reduceSub, reduceCtorEq, putAt, unE, Nat.reduceBEq, convE, buildE, List.replicate, Int.reduceLT, Int.reduceLE, Int.reduceToNat, mkE, mapSetE, hN, hF, ty_3, ty_9, ty_27, ty_71, ty_98, ty_138, ty_153, notIf, isEq, g1, h3, hd, hsl, h4, hs, bytes_length]
      simp only [runB, finC, finD, Option.isSome_some, Option.isSome_none, ↓reduceIte, Nat.reduceEqDiff, Nat.reduceAdd, Nat.reduceMul, forall_eq_or_imp, forall_eq, implies_true, Nat.reduceBEq, reduceCtorEq, false_implies, List.zip_cons_cons, List.zip_nil_left, List.zip_nil_right, Nat.reduceLeDiff, List.forall_mem_nil, rs_67]


variable {Γ : FuncId → Contract}

def accs (l : List Acc) : List (List PC) := l.map accP
theorem accs_length (l : List Acc) : (accs l).length = l.length := by simp [accs]
theorem accs_inj {a b : List Acc} (h : accs a = accs b) : a = b := by
  unfold accs at h
  refine (List.map_inj_right (fun x y h => ?_)).1 h
  obtain ⟨x1, x2⟩ := x
  obtain ⟨y1, y2⟩ := y
  simp only [accP, List.cons.injEq, PC.int.injEq, true_and, and_true] at h
  obtain ⟨rfl, rfl⟩ := h
  rfl
/-- The leaves of the first so many. -/
def lvN (l : List Acc) (i : Nat) : List (List UInt8) := (List.range i).map fun (j : Nat) => leafA ((j : Nat) : Int) (l.getD j (0, 0))
theorem lvN_succ (l : List Acc) (i : Nat) : lvN l (i + 1) = lvN l i ++ [leafA (i : Int) (l.getD i (0, 0))] := by simp [lvN, List.range_succ]
theorem lvN_length (l : List Acc) (i : Nat) : (lvN l i).length = i := by simp [lvN]
def lvA (l : List Acc) : List (List UInt8) := lvN l l.length
theorem lvA_length (l : List Acc) : (lvA l).length = l.length := lvN_length l _
theorem lvA_ok {l : List Acc} (h : l.length ≤ 1099511627) : Okl (lvA l) := by
  refine ⟨by rw [lvA_length]; exact h, fun s hs => ?_⟩
  simp only [lvA, lvN, List.mem_map] at hs
  obtain ⟨j, _, rfl⟩ := hs
  rw [leafA_length]; decide

def okA (l : List Acc) : Prop := l.length ≤ 1099511627
noncomputable def lvC : Contract := mkC (α := List Acc) okA (fun l => [.c (.sl (accs l))]) (fun _ => []) (fun l => ⟨[.pv (.c (.sl (texts (lvA l))))], []⟩)
theorem lv_at (l : List Acc) (h : okA l) : lvC [.c (.sl (accs l))] [] = some ⟨[.pv (.c (.sl (texts (lvA l))))], []⟩ :=
  mkC_at (α := List Acc) l h (fun y _ h1 _ => by
    simp at h1
    rw [accs_inj h1])

set_option maxRecDepth 100000 in
set_option maxHeartbeats 2000000 in
theorem stLeaves_sound (hΓ : SoundG Try.prog Γ) (h1 : Γ 67 = lfC) : SoundC Try.prog 65 lvC := by
  refine sound_fn Try.func65 (by kernel_rfl) rfl rfl ?_
  intro args objs r hr
  obtain ⟨l, hl, rfl, rfl, rfl⟩ := mkC_inv hr
  have hl : l.length ≤ 1099511627 := hl
  refine ⟨rfl, by show 1 ≤ _; decide, fun E hN hns hF => ?_⟩
  refine vc_sound hΓ mixed _ _ _ ?_
  have hN := hN.trans nt_65
  simp only [runA, runB, runC, runD, runE, runF, fieldE, storeE, binE, ↓reduceIte, Nat.reduceLT, Nat.reduceLeDiff, Nat.reduceEqDiff, Nat.reduceAdd, Nat.reduceMul, Nat.reduceSub, reduceCtorEq, putAt, unE, Nat.reduceBEq, convE, buildE, List.replicate, Int.reduceLT, Int.reduceLE, Int.reduceToNat, mkE, mapSetE, hN, hF, ty_3, ty_9, ty_69, ty_71, ty_72, notIf, isEq]
  refine AWP.loop (fun k st => ∃ i : Nat, i ≤ l.length ∧ k = l.length - i ∧ st = ⟨[(3, .own 193 1 (texts (lvN l i))), (6, .c (.sl (accs l))), (7, .c (.int .i64 (l.length : Int))), (8, .c (.int .i64 (i : Int)))], [(193, .row 1 i)]⟩) ⟨l.length, _, ?w, 0, Nat.zero_le _, rfl, rfl⟩ ?r
  case w =>
    rw [hns]
    simp only [runB, finC, finD, AS.get, AS.mem, false_implies, implies_true, ↓reduceIte, Nat.reduceEqDiff, Option.isSome_some, Option.isSome_none, forall_eq_or_imp, forall_eq, reduceCtorEq, Nat.reduceAdd, Nat.reduceMul, List.zip_cons_cons, List.zip_nil_left, List.zip_nil_right, List.forall_mem_nil]
    simp [lvN, texts, accs_length]
  case r =>
    rintro k st ⟨i, hi, rfl, rfl⟩
    refine vc_sound hΓ mixed _ _ _ ?_
    have hlen := lvN_length l i
    by_cases hlt : i < l.length
    · have g1 : decide ((i : Int) < (l.length : Int)) = true := by simpa using hlt
      have e1 : IntKind.i64.wrap ((i : Int) + 1) = (i : Int) + 1 := wrapI (by omega)
      obtain ⟨x, y, ha⟩ : ∃ x y, l[i]? = some (x, y) := ⟨l[i].1, l[i].2, by simp [hlt]⟩
      have har : (accs l)[i]? = some [.int .i64 x, .int .i64 y] := by simp [accs, accP, ha]
      have hlf := lf_at (i : Int) x y
      have hsucc := lvN_succ l i
      rw [show l.getD i (0, 0) = (x, y) from by simp [List.getD, ha]] at hsucc
      have hz := rowsOK_texts
      have hL : (i + 1) * 16 ≤ 140737488355328 := by omega
      simp only [runA, runB, runC, runD, runE, runF, fieldE, storeE, binE, ↓reduceIte, Nat.reduceLT, Nat.reduceLeDiff, Nat.reduceEqDiff, Nat.reduceAdd, Nat.reduceMul, Nat.reduceSub, reduceCtorEq, putAt, unE, Nat.reduceBEq, convE, buildE, List.replicate, Int.reduceLT, Int.reduceLE, Int.reduceToNat, mkE, mapSetE, hN, hF, ty_3, ty_9, ty_69, ty_71, ty_72, notIf, isEq, g1, e1, har, h1, hlf, hz, hL, texts1, texts_app, ← hsucc, texts_length, hlen]
      refine ⟨l.length - (i + 1), _, by omega, ?_, i + 1, by omega, rfl, rfl⟩
      rw [hns]
      simp only [runB, finC, finD, AS.get, AS.mem, false_implies, implies_true, ↓reduceIte, Nat.reduceEqDiff, Option.isSome_some, Option.isSome_none, forall_eq_or_imp, forall_eq, reduceCtorEq, Nat.reduceAdd, Nat.reduceMul, List.zip_cons_cons, List.zip_nil_left, List.zip_nil_right, List.forall_mem_nil]
      first | done | simp
    · have g1 : decide ((i : Int) < (l.length : Int)) = false := by simpa using hlt
      obtain rfl : i = l.length := by omega
      simp only [runA, runB, runC, runD, runE, runF, fieldE, storeE, binE, ↓reduceIte, Nat.reduceLT, Nat.reduceLeDiff, Nat.reduceEqDiff, Nat.reduceAdd, Nat.reduceMul, Nat.reduceSub, reduceCtorEq, putAt, unE, Nat.reduceBEq, convE, buildE, List.replicate, Int.reduceLT, Int.reduceLE, Int.reduceToNat, mkE, mapSetE, hN, hF, ty_3, ty_9, ty_69, ty_71, ty_72, notIf, isEq, g1]
      simp only [runB, finC, finD, Option.isSome_some, Option.isSome_none, ↓reduceIte, Nat.reduceEqDiff, Nat.reduceAdd, Nat.reduceMul, forall_eq_or_imp, forall_eq, implies_true, Nat.reduceBEq, reduceCtorEq, false_implies, List.zip_cons_cons, List.zip_nil_left, List.zip_nil_right, Nat.reduceLeDiff, List.forall_mem_nil, rs_65, lvA]

noncomputable def stRootC : Contract := mkC (α := List Acc) okA (fun l => [.c (.sl (accs l))]) (fun _ => []) (fun l => ⟨[.pv (.c (.str (rootS (lvA l))))], []⟩)
theorem stRoot_at (l : List Acc) (h : okA l) : stRootC [.c (.sl (accs l))] [] = some ⟨[.pv (.c (.str (rootS (lvA l))))], []⟩ :=
  mkC_at (α := List Acc) l h (fun y _ h1 _ => by
    simp at h1
    rw [accs_inj h1])
set_option maxRecDepth 100000 in
theorem stRoot_sound (hΓ : SoundG Try.prog Γ) (h1 : Γ 65 = lvC) (h2 : Γ 68 = rootC) : SoundC Try.prog 38 stRootC := by
  refine sound_fn Try.func38 (by kernel_rfl) rfl rfl ?_
  intro args objs r hr
  obtain ⟨l, hl, rfl, rfl, rfl⟩ := mkC_inv hr
  refine ⟨rfl, by show 1 ≤ _; decide, fun E hN hns hF => ?_⟩
  refine vc_sound hΓ mixed _ _ _ ?_
  have hN := hN.trans nt_38
  have q1 := lv_at l hl
  have q2 := root_at (lvA l) (lvA_ok hl)
  simp only [runA, runB, runC, runD, runE, runF, fieldE, storeE, binE, ↓reduceIte, Nat.reduceLT, Nat.reduceLeDiff, Nat.reduceEqDiff, Nat.reduceAdd, Nat.reduceMul, Nat.reduceSub, reduceCtorEq, putAt, unE, Nat.reduceBEq, convE, buildE, List.replicate, Int.reduceLT, Int.reduceLE, Int.reduceToNat, mkE, mapSetE, hN, hF, ty_9, ty_69, ty_71, ty_72, notIf, isEq, h1, h2, q1, q2]
  simp only [runB, finC, finD, Option.isSome_some, Option.isSome_none, ↓reduceIte, Nat.reduceEqDiff, Nat.reduceAdd, Nat.reduceMul, forall_eq_or_imp, forall_eq, implies_true, Nat.reduceBEq, reduceCtorEq, false_implies, List.zip_cons_cons, List.zip_nil_left, List.zip_nil_right, Nat.reduceLeDiff, List.forall_mem_nil, rs_38]

structure Pv where
  l : List Acc
  a : Int
noncomputable def proveC : Contract := mkC (α := Pv) (fun p => okA p.l) (fun p => [.c (.sl (accs p.l)), .c (.int .i64 p.a)]) (fun _ => []) (fun p => ⟨[.pv (.c (.sl (texts (pathS (lvA p.l) p.a).1))), .pv (.c (.int .i64 (pathS (lvA p.l) p.a).2))], []⟩)
theorem prove_at (l : List Acc) (a : Int) (h : okA l) : proveC [.c (.sl (accs l)), .c (.int .i64 a)] [] = some ⟨[.pv (.c (.sl (texts (pathS (lvA l) a).1))), .pv (.c (.int .i64 (pathS (lvA l) a).2))], []⟩ :=
  mkC_at (α := Pv) ⟨l, a⟩ h (by
    rintro ⟨l', a'⟩ _ h' _
    simp only [List.cons.injEq, AV.c.injEq, PC.int.injEq, PC.sl.injEq, true_and, and_true] at h'
    obtain ⟨h', rfl⟩ := h'
    obtain rfl := accs_inj h'
    rfl)
set_option maxRecDepth 100000 in
theorem prove_sound (hΓ : SoundG Try.prog Γ) (h1 : Γ 65 = lvC) (h2 : Γ 64 = pathC) : SoundC Try.prog 35 proveC := by
  refine sound_fn Try.func35 (by kernel_rfl) rfl rfl ?_
  intro args objs r hr
  obtain ⟨⟨l, a⟩, hl, rfl, rfl, rfl⟩ := mkC_inv hr
  have hl : okA l := hl
  refine ⟨rfl, by show 2 ≤ _; decide, fun E hN hns hF => ?_⟩
  refine vc_sound hΓ mixed _ _ _ ?_
  have hN := hN.trans nt_35
  dsimp only
  have q1 := lv_at l hl
  have q2 := path_at (lvA l) a (lvA_ok hl)
  simp only [runA, runB, runC, runD, runE, runF, fieldE, storeE, binE, ↓reduceIte, Nat.reduceLT, Nat.reduceLeDiff, Nat.reduceEqDiff, Nat.reduceAdd, Nat.reduceMul, Nat.reduceSub, reduceCtorEq, putAt, unE, Nat.reduceBEq, convE, buildE, List.replicate, Int.reduceLT, Int.reduceLE, Int.reduceToNat, mkE, mapSetE, hN, hF, ty_3, ty_9, ty_42, ty_69, ty_71, ty_72, notIf, isEq, h1, h2, q1, q2]
  simp only [runB, finC, finD, Option.isSome_some, Option.isSome_none, ↓reduceIte, Nat.reduceEqDiff, Nat.reduceAdd, Nat.reduceMul, forall_eq_or_imp, forall_eq, implies_true, Nat.reduceBEq, reduceCtorEq, false_implies, List.zip_cons_cons, List.zip_nil_left, List.zip_nil_right, Nat.reduceLeDiff, List.forall_mem_nil, rs_35]

structure Ve where
  root : List UInt8
  c : Int
  a : Acc
  path : List (List UInt8)
def veOK (p : Ve) : Prop := p.c < 9223372036854775808 ∧ Okl p.path
/-- Does an account lead to the root? -/
noncomputable def verS (root : List UInt8) (c : Int) (a : Acc) (path : List (List UInt8)) : Bool := decide (0 ≤ c) && (climbS (leafA c a) (max c 0).toNat path == root)
noncomputable def verC : Contract := mkC (α := Ve) veOK (fun p => [.c (.str p.root), .c (.int .i64 p.c), .agg [.c (.int .i64 p.a.1), .c (.int .i64 p.a.2)], .c (.sl (texts p.path))]) (fun _ => []) (fun p => ⟨[.pv (.c (.bool (verS p.root p.c p.a p.path)))], []⟩)
theorem ver_at (root : List UInt8) (c x y : Int) (path : List (List UInt8)) (h1 : c < 9223372036854775808) (h2 : Okl path) : verC [.c (.str root), .c (.int .i64 c), .agg [.c (.int .i64 x), .c (.int .i64 y)], .c (.sl (texts path))] [] = some ⟨[.pv (.c (.bool (verS root c (x, y) path)))], []⟩ :=
  mkC_at (α := Ve) ⟨root, c, (x, y), path⟩ ⟨h1, h2⟩ (by
    rintro ⟨r', c', ⟨x', y'⟩, p'⟩ _ h' _
    simp only [List.cons.injEq, AV.c.injEq, PC.int.injEq, PC.str.injEq, PC.sl.injEq, AV.agg.injEq, true_and, and_true] at h'
    obtain ⟨rfl, rfl, ⟨rfl, rfl⟩, h'⟩ := h'
    obtain rfl := texts_inj h'
    rfl)
set_option maxRecDepth 100000 in
set_option maxHeartbeats 1000000 in
theorem ver_sound (hΓ : SoundG Try.prog Γ) (h1 : Γ 67 = lfC) (h2 : Γ 66 = climbC) : SoundC Try.prog 37 verC := by
  refine sound_fn Try.func37 (by kernel_rfl) rfl rfl ?_
  intro args objs r hr
  obtain ⟨⟨root, c, ⟨x, y⟩, path⟩, ⟨hc, hp⟩, rfl, rfl, rfl⟩ := mkC_inv hr
  have hc : c < 9223372036854775808 := hc
  have hp : Okl path := hp
  refine ⟨rfl, by show 4 ≤ _; decide, fun E hN hns hF => ?_⟩
  refine vc_sound hΓ mixed _ _ _ ?_
  have hN := hN.trans nt_37
  dsimp only
  by_cases hneg : 0 ≤ c
  · have g1 : decide (c ≥ 0) = true := by simpa using hneg
    have q1 := lf_at c x y
    have q2 := climb_at (leafA c (x, y)) c path ⟨by show (leafA c (x, y)).length ≤ _; rw [leafA_length]; decide, hc, hp⟩
    have hv : verS root c (x, y) path = (climbS (leafA c (x, y)) (max c 0).toNat path == root) := by simp [verS, hneg]
    simp only [runA, runB, runC, runD, runE, runF, fieldE, storeE, binE, ↓reduceIte, Nat.reduceLT, Nat.reduceLeDiff, Nat.reduceEqDiff, Nat.reduceAdd, Nat.reduceMul, Nat.reduceSub, reduceCtorEq, putAt, unE, Nat.reduceBEq, convE, buildE, List.replicate, Int.reduceLT, Int.reduceLE, Int.reduceToNat, mkE, mapSetE, hN, hF, ty_3, ty_4, ty_9, ty_71, ty_72, notIf, isEq, g1, h1, h2, q1, q2]
    simp only [runB, finC, finD, Option.isSome_some, Option.isSome_none, ↓reduceIte, Nat.reduceEqDiff, Nat.reduceAdd, Nat.reduceMul, forall_eq_or_imp, forall_eq, implies_true, Nat.reduceBEq, reduceCtorEq, false_implies, List.zip_cons_cons, List.zip_nil_left, List.zip_nil_right, Nat.reduceLeDiff, List.forall_mem_nil, rs_37, hv]
  · have g1 : decide (c ≥ 0) = false := by simp; omega
    have hv : verS root c (x, y) path = false := by simp [verS, hneg]
    simp only [runA, runB, runC, runD, runE, runF, fieldE, storeE, binE, ↓reduceIte, Nat.reduceLT, Nat.reduceLeDiff, Nat.reduceEqDiff, Nat.reduceAdd, Nat.reduceMul, Nat.reduceSub, reduceCtorEq, putAt, unE, Nat.reduceBEq, convE, buildE, List.replicate, Int.reduceLT, Int.reduceLE, Int.reduceToNat, mkE, mapSetE, hN, hF, ty_3, ty_4, ty_9, ty_71, ty_72, notIf, isEq, g1]
    simp only [runB, finC, finD, Option.isSome_some, Option.isSome_none, ↓reduceIte, Nat.reduceEqDiff, Nat.reduceAdd, Nat.reduceMul, forall_eq_or_imp, forall_eq, implies_true, Nat.reduceBEq, reduceCtorEq, false_implies, List.zip_cons_cons, List.zip_nil_left, List.zip_nil_right, Nat.reduceLeDiff, List.forall_mem_nil, rs_37, hv]


variable {Γ : FuncId → Contract}

theorem rootS_length : ∀ (n : Nat) (l : List (List UInt8)), l.length ≤ n → 1 < l.length → (rootS l).length = 8
  | 0, l, h, h1 => by omega
  | n + 1, l, h, h1 => by
    have hl := upS_length l
    rw [rootS_gt (by omega)]
    by_cases h2 : 1 < (upS l).length
    · exact rootS_length n _ (by omega) h2
    · rw [rootS_le (by omega)]
      match l, h1 with
      | a :: b :: tl, _ => rw [upS]; exact shortS_length _

def four : List Acc := [(0, 0), (0, 0), (0, 0), (0, 0)]
theorem four_prove : proveC [.c (.sl [[.int .i64 0, .int .i64 0], [.int .i64 0, .int .i64 0], [.int .i64 0, .int .i64 0], [.int .i64 0, .int .i64 0]]), .c (.int .i64 9)] [] = some ⟨[.pv (.c (.sl [])), .pv (.c (.int .i64 4))], []⟩ := by
  have h := prove_at four 9 (by show four.length ≤ _; decide)
  have hp : pathS (lvA four) 9 = ([], 4) := by unfold pathS; rw [if_pos (.inr (by rw [lvA_length]; decide))]
  rw [hp] at h
  exact h
theorem four_root : stRootC [.c (.sl [[.int .i64 0, .int .i64 0], [.int .i64 0, .int .i64 0], [.int .i64 0, .int .i64 0], [.int .i64 0, .int .i64 0]])] [] = some ⟨[.pv (.c (.str (rootS (lvA four))))], []⟩ :=
  stRoot_at four (by show four.length ≤ _; decide)

noncomputable def alive35C : Contract := mkC (α := Unit) (fun _ => True) (fun _ => []) (fun _ => []) (fun _ => ⟨[.pv (.c (.bool true))], []⟩)
theorem alive35_at : alive35C [] [] = some ⟨[.pv (.c (.bool true))], []⟩ := mkC_at (α := Unit) () trivial (fun _ _ _ _ => rfl)
set_option maxRecDepth 100000 in
set_option maxHeartbeats 1000000 in
theorem alive35_sound (hΓ : SoundG Try.prog Γ) (h1 : Γ 35 = proveC) (h2 : Γ 38 = stRootC) : SoundC Try.prog 34 alive35C := by
  refine sound_fn Try.func34 (by kernel_rfl) rfl rfl ?_
  intro args objs r hr
  obtain ⟨_, _, rfl, rfl, rfl⟩ := mkC_inv hr
  refine ⟨rfl, by show 0 ≤ _; decide, fun E hN hns hF => ?_⟩
  refine vc_sound hΓ mixed _ _ _ ?_
  have hN := hN.trans nt_34
  have q1 := four_prove
  have q2 := four_root
  have g1 : ((4 : Int) == 4) = true := rfl
  have hl := rootS_length 4 (lvA four) (by rw [lvA_length]; decide) (by rw [lvA_length]; decide)
  have g2 : (((8 : Nat) : Int) == 8) = true := rfl
  have t4 : (4 : Int).toNat = 4 := rfl
  have b4 : ((4 : Int) * ((16 : Nat) : Int) ≤ 140737488355328) = True := eq_true (by decide)
  simp only [runA, runB, runC, runD, runE, runF, fieldE, storeE, binE, ↓reduceIte, Nat.reduceLT, Nat.reduceLeDiff, Nat.reduceEqDiff, Nat.reduceAdd, Nat.reduceMul, Nat.reduceSub, reduceCtorEq, putAt, unE, Nat.reduceBEq, convE, buildE, List.replicate, Int.reduceLT, Int.reduceLE, Int.reduceToNat, mkE, mapSetE, hN, hF, ty_3, ty_4, ty_9, ty_42, ty_69, ty_71, notIf, isEq, h1, h2, q1, q2, g1, g2, hl, t4, b4, Int.reduceMul, Int.le_refl]
  simp only [runB, finC, finD, Option.isSome_some, Option.isSome_none, ↓reduceIte, Nat.reduceEqDiff, Nat.reduceAdd, Nat.reduceMul, forall_eq_or_imp, forall_eq, implies_true, Nat.reduceBEq, reduceCtorEq, false_implies, List.zip_cons_cons, List.zip_nil_left, List.zip_nil_right, Nat.reduceLeDiff, List.forall_mem_nil, rs_34]


variable {Γ : FuncId → Contract}

theorem pathP_mem' : ∀ (n : Nat) (l : List (List UInt8)) (a : Nat), l.length ≤ n → Okl l → Okl (pathP l a)
  | 0, l, a, h, hl => by rw [pathP_le (by omega)]; exact ⟨by simp, by simp⟩
  | n + 1, l, a, h, hl => by
    have key : ∀ (n : Nat) (l : List (List UInt8)) (a : Nat), l.length ≤ n → Okl l → Okl (pathP l a) ∧ (pathP l a).length ≤ l.length := by
      intro n
      induction n with
      | zero => intro l a h hl; rw [pathP_le (by omega)]; exact ⟨⟨by simp, by simp⟩, by simp⟩
      | succ n ih =>
        intro l a h hl
        by_cases h1 : l.length ≤ 1
        · rw [pathP_le h1]; exact ⟨⟨by simp, by simp⟩, by simp⟩
        · have hu := upS_length l
          obtain ⟨h2, h3⟩ := ih (upS l) (a / 2) (by omega) (upS_ok hl)
          have h4 := hl.1
          rw [pathP_gt h1]
          refine ⟨⟨by rw [List.length_cons]; omega, fun s hs => ?_⟩, by rw [List.length_cons]; omega⟩
          rcases List.mem_cons.1 hs with rfl | hs
          · unfold List.getD
            cases hg : l[nb a]? with
            | none => simp
            | some x => exact hl.2 x (List.mem_of_getElem? hg)
          · exact h2.2 s hs
    exact (key (n + 1) l a h hl).1
structure Vf where
  root : List UInt8
  c : Int
  a : Acc
  path : List (List UInt8)
structure Sb where
  l : List Acc
  c : Int
structure St where
  l : List Acc
  c : Int
  a : Acc

variable {Γ : FuncId → Contract}


theorem upS_set : ∀ (l : List (List UInt8)) (a : Nat) (x : List UInt8), ∃ y, upS (l.set a x) = (upS l).set (a / 2) y
  | [], a, x => ⟨x, by simp [upS_nil]⟩
  | [z], 0, x => ⟨x, by simp [upS_one]⟩
  | [z], 1, x => ⟨z, by simp [upS_one]⟩
  | [z], a + 2, x => ⟨x, by
    rw [show ([z] : List (List UInt8)).set (a + 2) x = [z] from rfl, upS_one, show (a + 2) / 2 = a / 2 + 1 by omega]
    rfl⟩
  | p :: q :: l, 0, x => ⟨shortS (x ++ q), by
    rw [List.set_cons_zero, upS, upS, show 0 / 2 = 0 from rfl, List.set_cons_zero]⟩
  | p :: q :: l, 1, x => ⟨shortS (p ++ x), by
    rw [List.set_cons_succ, List.set_cons_zero, upS, upS, show 1 / 2 = 0 from rfl, List.set_cons_zero]⟩
  | p :: q :: l, a + 2, x => by
    obtain ⟨y, hy⟩ := upS_set l a x
    exact ⟨y, by
      rw [List.set_cons_succ, List.set_cons_succ, upS, upS, hy, show (a + 2) / 2 = a / 2 + 1 by omega, List.set_cons_succ]⟩
theorem nb_ne (a : Nat) : nb a ≠ a := by unfold nb; split <;> omega
theorem pathP_set : ∀ (n : Nat) (l : List (List UInt8)) (a : Nat) (x : List UInt8), l.length ≤ n → pathP (l.set a x) a = pathP l a
  | 0, l, a, x, h => by rw [pathP_le (by simp; omega), pathP_le (by omega)]
  | n + 1, l, a, x, h => by
    by_cases h1 : l.length ≤ 1
    · rw [pathP_le (by simp; omega), pathP_le h1]
    · obtain ⟨y, hy⟩ := upS_set l a x
      have hu := upS_length l
      rw [pathP_gt (by simp; omega), pathP_gt h1, hy, pathP_set n (upS l) (a / 2) y (by omega)]
      congr 1
      unfold List.getD
      rw [List.getElem?_set_ne (Ne.symm (nb_ne a))]
theorem lvN_get (l : List Acc) {n j : Nat} (h : j < n) : (lvN l n)[j]? = some (leafA (j : Int) (l.getD j (0, 0))) := by
  simp [lvN, h]
theorem lvA_set (l : List Acc) (A : Nat) (a : Acc) (h : A < l.length) : lvA (l.set A a) = (lvA l).set A (leafA (A : Int) a) := by
  apply List.ext_getElem?
  intro j
  rw [List.getElem?_set, lvA_length]
  have hs : (l.set A a).length = l.length := by simp
  unfold lvA
  rw [hs]
  by_cases hj : j < l.length
  · rw [lvN_get _ hj, lvN_get _ hj]
    by_cases e : A = j
    · subst e
      simp [h]
    · rw [if_neg e]
      simp [List.getD, List.getElem?_set, e]
  · have h1 : (lvN (l.set A a) l.length)[j]? = none := by rw [List.getElem?_eq_none_iff, lvN_length]; omega
    have h2 : (lvN l l.length)[j]? = none := by rw [List.getElem?_eq_none_iff, lvN_length]; omega
    rw [h1, h2]
    split
    · rename_i e; subst e; omega
    · rfl
theorem accs_rows (l : List Acc) : rowsOK 2 (accs l) := by
  intro r hr
  simp only [accs, List.mem_map] at hr
  obtain ⟨a, _, rfl⟩ := hr
  rfl
theorem accs_put (l : List Acc) {A : Nat} (x y : Int) (h : A < l.length) : putAt ((accs l).flatten.map AV.c) (A * 2) [.c (.int .i64 x), .c (.int .i64 y)] = (accs (l.set A (x, y))).flatten.map AV.c := by
  have h1 := flat_put (z := 2) (by decide) (rows := accs l) (i := A) (r := accP (x, y)) (accs_rows l) rfl (by rw [accs_length]; exact h)
  have h2 : (accs l).set A (accP (x, y)) = accs (l.set A (x, y)) := by simp [accs, List.map_set]
  rw [h2] at h1
  exact h1
theorem accs_chunks (l : List Acc) {n : Nat} (h : n = l.length) : chunks 2 n (accs l).flatten = accs l := by
  subst h
  have := chunks_flat (accs_rows l)
  rw [accs_length] at this
  exact this
theorem accs_flat (l : List Acc) : ((accs l).flatten.map AV.c).length = l.length * 2 := by rw [flat_len (accs_rows l), accs_length]
theorem accs_flatP (l : List Acc) : ((accs l).flatten).length = l.length * 2 := by rw [flatten_len (accs_rows l), accs_length]

noncomputable def stOneC : Contract := mkC (α := St) (fun p => okA p.l) (fun p => [.c (.sl (accs p.l)), .c (.int .i64 p.c), .agg [.c (.int .i64 p.a.1), .c (.int .i64 p.a.2)]]) (fun _ => []) (fun _ => ⟨[.pv (.c (.bool true))], []⟩)

set_option maxRecDepth 100000 in
set_option maxHeartbeats 2000000 in
theorem stOne_sound (hΓ : SoundG Try.prog Γ) (h1 : Γ 37 = verC) (h2 : Γ 35 = proveC) (h3 : Γ 38 = stRootC) (h4 : Γ 34 = alive35C) (h5 : Γ 36 = textsC) : SoundC Try.prog 7 stOneC := by
  refine sound_fnA ⟨[25], [(7, .frz 9 2)]⟩ Try.func7 (by kernel_rfl) rfl rfl ?_
  intro args objs r hr
  obtain ⟨⟨l, c, ⟨x, y⟩⟩, hl, rfl, rfl, rfl⟩ := mkC_inv hr
  have hl : okA l := hl
  have hl1 : l.length ≤ 1099511627 := hl
  refine ⟨rfl, by show 3 ≤ _; decide, fun E hN hns hF => ?_⟩
  refine vc_sound hΓ mixed _ _ _ ?_
  have hN := hN.trans nt_7
  dsimp only
  have q1 := prove_at l c hl
  have q3 := alive35_at
  have hll := lvA_length l
  have hok := lvA_ok hl1
  have nt1 : (!true) = false := rfl
  by_cases hgo : ¬ (c < 0 ∨ ((lvA l).length : Int) ≤ c) ∧ powN (lvA l).length = true
  · obtain ⟨hk1, hk2⟩ := hgo
    have hS : pathS (lvA l) c = (pathP (lvA l) c.toNat, 0) := by unfold pathS; rw [if_neg hk1, if_pos hk2]
    obtain ⟨A, rfl⟩ : ∃ A : Nat, c = (A : Int) := ⟨c.toNat, by omega⟩
    rw [hS] at q1
    have e0 : ((A : Int)).toNat = A := by omega
    rw [e0] at q1
    have hAl : A < l.length := by omega
    obtain ⟨m, hm⟩ : ∃ m, m = l.set A (x, y) := ⟨_, rfl⟩
    have hml : m.length = l.length := by rw [hm]; simp
    have hlm : lvA m = (lvA l).set A (leafA (A : Int) (x, y)) := by rw [hm]; exact lvA_set l A (x, y) hAl
    have hlml : (lvA m).length = (lvA l).length := by rw [hlm]; simp
    have hSm : pathS (lvA m) (A : Int) = (pathP (lvA l) A, 0) := by
      unfold pathS
      rw [hlml, if_neg hk1, if_pos hk2, hlm, e0, pathP_set _ (lvA l) A _ (Nat.le_refl _)]
    have hm1 : okA m := by show m.length ≤ _; omega
    have q2 := prove_at m (A : Int) hm1
    rw [hSm] at q2
    have q4 := stRoot_at m hm1
    have hcl := climb_path (lvA m).length (lvA m) A (by omega) (Nat.le_refl _) (by rw [hlml]; exact hk2)
    rw [show (lvA m).getD A [] = leafA (A : Int) (x, y) from by rw [hlm]; simp [List.getD, hll, hAl], show pathP (lvA m) A = pathP (lvA l) A from by rw [hlm, pathP_set _ (lvA l) A _ (Nat.le_refl _)]] at hcl
    have hpo := pathP_mem' _ (lvA l) A (Nat.le_refl _) hok
    have q5 := ver_at (rootS (lvA m)) (A : Int) x y (pathP (lvA l) A) (by omega) hpo
    have hv : verS (rootS (lvA m)) (A : Int) (x, y) (pathP (lvA l) A) = true := by
      unfold verS
      rw [show (max (A : Int) 0).toNat = A from by omega, hcl]
      simp
    rw [hv] at q5
    have q6 := texts_at (pathP (lvA l) A) (pathP (lvA l) A) (by have := hpo.1; omega)
    rw [show decide (pathP (lvA l) A = pathP (lvA l) A) = true from by simp] at q6
    have g0 : ((0 : Int) != 0) = false := rfl
    have g1 : ((0 : Int) == 0) = true := rfl
    have hz := accs_rows
    have hL : (l.length * 16 ≤ 140737488355328) = True := eq_true (by omega)
    have hp : decide (0 < l.length) = true := decide_eq_true (by omega)
    have k1 : ((A : Int) < (l.length : Int)) = True := eq_true (by omega)
    have k2 : (A * 2 + 2 ≤ l.length * 2) = True := eq_true (by omega)
    have k3 : (l.length * 2 ≤ l.length * 2) = True := eq_true (by omega)
    have hput := accs_put l x y hAl
    rw [← hm] at hput
    have hT := toPCs_c (accs m).flatten
    have hch := accs_chunks m hml.symm
    have hfl := accs_flat l
    have hfm := accs_flatP m
    rw [hml] at hfm
    simp only [runA, runB, runC, runD, runE, runF, fieldE, storeE, binE, ↓reduceIte, Nat.reduceLT, Nat.reduceLeDiff, Nat.reduceEqDiff, Nat.reduceAdd, Nat.reduceMul, Nat.reduceSub, reduceCtorEq, unE, Nat.reduceBEq, convE, buildE, List.replicate, Int.reduceLT, Int.reduceLE, Int.reduceToNat, mkE, mapSetE, hN, hF, ty_3, ty_4, ty_9, ty_42, ty_69, ty_71, ty_72, notIf, isEq, h1, h2, h3, h4, h5, q1, q2, q3, q4, q5, q6, nt1, g0, g1, accs_length, hz, hL, hp, appendM, newLooseE, k1, k2, k3, hput, hT, hch, hfl, hfm, doHint, Nat.zero_lt_succ]
    refine drawnP_intro (by kernel_rfl) (by kernel_rfl) ?_
    simp only [runA, runB, runC, runD, runE, runF, fieldE, storeE, binE, ↓reduceIte, Nat.reduceLT, Nat.reduceLeDiff, Nat.reduceEqDiff, Nat.reduceAdd, Nat.reduceMul, Nat.reduceSub, reduceCtorEq, unE, Nat.reduceBEq, convE, buildE, List.replicate, Int.reduceLT, Int.reduceLE, Int.reduceToNat, mkE, mapSetE, hN, hF, ty_3, ty_4, ty_9, ty_42, ty_69, ty_71, ty_72, notIf, isEq, h1, h2, h3, h4, h5, q1, q2, q3, q4, q5, q6, nt1, g0, g1, accs_length, hz, hL, hp, appendM, newLooseE, k1, k2, k3, hput, hT, hch, hfl, hfm, doHint, Nat.zero_lt_succ]
    simp only [runB, finC, finD, Option.isSome_some, Option.isSome_none, ↓reduceIte, Nat.reduceEqDiff, Nat.reduceAdd, Nat.reduceMul, forall_eq_or_imp, forall_eq, implies_true, Nat.reduceBEq, reduceCtorEq, false_implies, List.zip_cons_cons, List.zip_nil_left, List.zip_nil_right, Nat.reduceLeDiff, List.forall_mem_nil, rs_7, ty_3, ty_4, ty_9, ty_42, ty_69, ty_71, ty_72]
  · have hS : (pathS (lvA l) c).1 = [] ∧ ((pathS (lvA l) c).2 = 3 ∨ (pathS (lvA l) c).2 = 4) := by
      unfold pathS
      split
      · exact ⟨rfl, .inr rfl⟩
      · rename_i h
        rw [if_neg (fun hp => hgo ⟨h, hp⟩)]
        exact ⟨rfl, .inl rfl⟩
    generalize pathS (lvA l) c = pp at q1 hS
    obtain ⟨p1, p2⟩ := pp
    obtain ⟨rfl, h34⟩ := hS
    have g0 : (p2 != 0) = true := by
      have h34 : p2 = 3 ∨ p2 = 4 := h34
      rcases h34 with rfl | rfl <;> rfl
    have g1 : (((0 : Nat) : Int) == 0) = true := rfl
    have tn : texts [] = [] := rfl
    dsimp only at q1
    rw [tn] at q1
    simp only [runA, runB, runC, runD, runE, runF, fieldE, storeE, binE, ↓reduceIte, Nat.reduceLT, Nat.reduceLeDiff, Nat.reduceEqDiff, Nat.reduceAdd, Nat.reduceMul, Nat.reduceSub, reduceCtorEq, putAt, unE, Nat.reduceBEq, convE, buildE, List.replicate, Int.reduceLT, Int.reduceLE, Int.reduceToNat, mkE, mapSetE, hN, hF, ty_3, ty_4, ty_9, ty_42, ty_69, ty_71, ty_72, notIf, isEq, h2, h4, q1, q3, g0, g1]
    simp only [runB, finC, finD, Option.isSome_some, Option.isSome_none, ↓reduceIte, Nat.reduceEqDiff, Nat.reduceAdd, Nat.reduceMul, forall_eq_or_imp, forall_eq, implies_true, Nat.reduceBEq, reduceCtorEq, false_implies, List.zip_cons_cons, List.zip_nil_left, List.zip_nil_right, Nat.reduceLeDiff, List.forall_mem_nil, rs_7]

end Go.Proofs.Ytcfijanfcgnnhaa.AM
