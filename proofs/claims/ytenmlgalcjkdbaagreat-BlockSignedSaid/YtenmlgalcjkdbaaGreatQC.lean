/-
  QC: Tx0 Sg1 Sg2.
-/
import Derived.Test.YtenmlgalcjkdbaaGreatQP
import Derived.Test.YtenmlgalcjkdbaaGreatQ8
import Derived.Test.YtenmlgalcjkdbaaGreatQ7
set_option linter.unusedVariables false
set_option linter.unusedSimpArgs false
namespace Go.Proofs.YtenmlgalcjkdbaaGreat.AM
open Go

theorem nextN_put {n most : Int} (h0 : 0 ≤ n) (h1 : n ≤ 1099511627776) (h2 : n ≤ most) (rest : List UInt8) : nextN ⟨putB n 6 ++ rest, 0⟩ most = (n, ⟨rest, 0⟩) := by
  unfold nextN
  have hl := len6 n
  have ht : (putB n 6 ++ rest).take 6 = putB n 6 := by rw [List.take_append_of_le_length (by omega), ← hl, List.take_length]
  have hd : (putB n 6 ++ rest).drop 6 = rest := by rw [List.drop_append, List.drop_of_length_le (by omega), hl]; simp
  rw [if_neg (by simp [hl]), ht, hd, getB_putB6 n h0 h1, if_neg (by omega)]
theorem nextT_put {s : List UInt8} {most : Int} (h1 : s.length ≤ 4096) (h2 : (s.length : Int) ≤ most) (rest : List UInt8) : nextT ⟨putB (s.length : Int) 2 ++ (s ++ rest), 0⟩ most = (s, ⟨rest, 0⟩) := by
  unfold nextT
  have hl := len2 (s.length : Int)
  have ht : (putB (s.length : Int) 2 ++ (s ++ rest)).take 2 = putB (s.length : Int) 2 := by rw [List.take_append_of_le_length (by omega), List.take_of_length_le (by omega)]
  have hd : (putB (s.length : Int) 2 ++ (s ++ rest)).drop 2 = s ++ rest := by rw [List.drop_append, List.drop_of_length_le (by omega), hl]; simp
  rw [if_neg (by simp [hl]), ht, hd, getB_putB2 s.length h1, if_neg (by omega), Int.toNat_natCast]
  unfold tookR
  rw [if_neg (by simp)]
  simp
def rd (r : RS) (most : Int) : Int × RS := if r.e = 0 then nextN ⟨r.b, 0⟩ most else (0, r)
def rdT (r : RS) (most : Int) : List UInt8 × RS := if r.e = 0 then nextT ⟨r.b, 0⟩ most else ([], r)
theorem rd_put {n most : Int} (h0 : 0 ≤ n) (h1 : n ≤ 1099511627776) (h2 : n ≤ most) (rest : List UInt8) : rd ⟨putB n 6 ++ rest, 0⟩ most = (n, ⟨rest, 0⟩) := by
  unfold rd; rw [if_pos rfl]; exact nextN_put h0 h1 h2 rest
theorem rdT_put {s : List UInt8} {most : Int} (h1 : s.length ≤ 4096) (h2 : (s.length : Int) ≤ most) (rest : List UInt8) : rdT ⟨putB (s.length : Int) 2 ++ (s ++ rest), 0⟩ most = (s, ⟨rest, 0⟩) := by
  unfold rdT; rw [if_pos rfl]; exact nextT_put h1 h2 rest
theorem nextN_len {b : List UInt8} {most : Int} : (nextN ⟨b, 0⟩ most).2.b.length ≤ b.length := by
  unfold nextN
  split
  · simp
  · split
    · simp
    · simp
theorem rd_len (r : RS) (most : Int) : (rd r most).2.b.length ≤ r.b.length := by
  unfold rd
  split
  · exact nextN_len
  · exact Nat.le_refl _
theorem nextT_len {b : List UInt8} {most : Int} : (nextT ⟨b, 0⟩ most).2.b.length ≤ b.length := by
  unfold nextT
  split
  · simp
  · split
    · simp
    · unfold tookR
      split
      · simp
      · simp
theorem rdT_len (r : RS) (most : Int) : (rdT r most).2.b.length ≤ r.b.length := by
  unfold rdT
  split
  · exact nextT_len
  · exact Nat.le_refl _

theorem open_atr (b : List UInt8) (h : b.length ≤ 140737488355328) : openC [.c (.sl (bytes b))] [] = some ⟨[.newobj [.c (.sl (bytes b)), .c (.int .i64 0), .c (.bool true)]], []⟩ := by
  simp [openC, asB_bytes, h, rOV]
theorem num_atr (r : RS) (most : Int) (h : r.b.length ≤ 140737488355328) : rdNumC [.ptr 6400000 0, .c (.int .i64 most)] [[.c (.sl (bytes r.b)), .c (.int .i64 r.e), .c (.bool true)]] = some ⟨[.pv (.c (.int .i64 (rd r most).1))], [[.c (.sl (bytes (rd r most).2.b)), .c (.int .i64 (rd r most).2.e), .c (.bool true)]]⟩ := by
  have h2 : r.b.length ≤ 9223372036854775807 := by omega
  unfold rd
  by_cases he : r.e = 0
  · simp [rdNumC, asB_bytes, inObj, h2, he, rOV]
  · simp [rdNumC, asB_bytes, inObj, h2, he, rOV]
theorem text_atr (r : RS) (most : Int) (h : r.b.length ≤ 140737488355328) : rdTextC [.ptr 6400000 0, .c (.int .i64 most)] [[.c (.sl (bytes r.b)), .c (.int .i64 r.e), .c (.bool true)]] = some ⟨[.pv (.c (.str (rdT r most).1))], [[.c (.sl (bytes (rdT r most).2.b)), .c (.int .i64 (rdT r most).2.e), .c (.bool true)]]⟩ := by
  have h2 : r.b.length ≤ 9223372036854775807 := by omega
  unfold rdT
  by_cases he : r.e = 0
  · simp [rdTextC, asB_bytes, inObj, h2, he, rOV]
  · simp [rdTextC, asB_bytes, inObj, h2, he, rOV]
theorem err_atr (r : RS) : errC [.ptr 6400000 0] [[.c (.sl (bytes r.b)), .c (.int .i64 r.e), .c (.bool true)]] = some ⟨[.pv (.c (.int .i64 r.e))], [[.c (.sl (bytes r.b)), .c (.int .i64 r.e), .c (.bool true)]]⟩ := by
  simp [errC, inObj]


variable {Γ : FuncId → Contract}

def wotsB : List UInt8 := [119, 111, 116, 115]
def secB (seed : List UInt8) (leaf place : Int) : List UInt8 := [wotsB, putB (seed.length : Int) 2, seed, putB leaf 4, putB place 1].flatten
def secS (seed : List UInt8) (leaf place : Int) : List UInt8 := shortS (secB seed leaf place)
theorem secB_eq (seed : List UInt8) (leaf place : Int) : secB seed leaf place = (((wotsB ++ putB (seed.length : Int) 2) ++ seed) ++ putB leaf 4) ++ putB place 1 := by simp [secB]
theorem putB2 (n : Int) : (putB n 2).length = 2 := by rw [putB_length]; rfl
theorem putB4 (n : Int) : (putB n 4).length = 4 := by rw [putB_length]; rfl
theorem putB1 (n : Int) : (putB n 1).length = 1 := by rw [putB_length]; rfl
theorem secB_length (seed : List UInt8) (leaf place : Int) : (secB seed leaf place).length = seed.length + 11 := by
  rw [secB_eq]
  simp only [List.length_append, putB2, putB4, putB1, wotsB, List.length_cons, List.length_nil]
  omega

structure Sd where
  seed : List UInt8
  leaf : Int
  place : Int
noncomputable def secC : Contract := mkC (α := Sd) (fun p => p.seed.length ≤ 1000000) (fun p => [.c (.str p.seed), .c (.int .i64 p.leaf), .c (.int .i64 p.place)]) (fun _ => []) (fun p => ⟨[.pv (.c (.str (secS p.seed p.leaf p.place)))], []⟩)
theorem sec_at (seed : List UInt8) (leaf place : Int) (h : seed.length ≤ 1000000) : secC [.c (.str seed), .c (.int .i64 leaf), .c (.int .i64 place)] [] = some ⟨[.pv (.c (.str (secS seed leaf place)))], []⟩ :=
  mkC_at (α := Sd) ⟨seed, leaf, place⟩ h (by
    rintro ⟨a, b, c⟩ _ h _
    simp only [List.cons.injEq, AV.c.injEq, PC.int.injEq, PC.str.injEq, true_and, and_true] at h
    obtain ⟨rfl, rfl, rfl⟩ := h
    rfl)

theorem slices5 (a c d e : List UInt8) : [[PC.sl [[PC.int .u8 119], [PC.int .u8 111], [PC.int .u8 116], [PC.int .u8 115]]], [PC.sl (bytes a)], [PC.sl (bytes c)], [PC.sl (bytes d)], [PC.sl (bytes e)]] = slices [wotsB, a, c, d, e] := rfl

set_option maxRecDepth 100000 in
set_option maxHeartbeats 1000000 in
theorem sec_sound (hΓ : SoundG Tryz.prog Γ) (h1 : Γ 95 = putC) (h2 : Γ 199 = shortC) : SoundC Tryz.prog 143 secC := by
  refine sound_fn Tryz.func143 (by kernel_rfl) rfl rfl ?_
  intro args objs r hr
  obtain ⟨⟨seed, leaf, place⟩, hl, rfl, rfl, rfl⟩ := mkC_inv hr
  refine ⟨rfl, by show 3 ≤ _; decide, fun E hN hns hF => ?_⟩
  refine vc_sound hΓ mixed _ _ _ ?_
  have hN := hN.trans nt_143
  dsimp only at hl ⊢
  have hlen := secB_length seed leaf place
  have hs := short_at [wotsB, putB (seed.length : Int) 2, seed, putB leaf 4, putB place 1] ⟨by show (secB seed leaf place).length ≤ _; omega, by simp⟩
  have he : shortS ([wotsB, putB (seed.length : Int) 2, seed, putB leaf 4, putB place 1].flatten) = secS seed leaf place := rfl
  rw [he] at hs
  simp only [runA, runB, runC, runD, runE, runF, fieldE, storeE, binE, ↓reduceIte, Nat.reduceLT, Nat.reduceLeDiff, Nat.reduceEqDiff, Nat.reduceAdd, Nat.reduceMul, Nat.reduceSub, reduceCtorEq, putAt, unE, Nat.reduceBEq, convE, buildE, List.replicate, Int.reduceLT, Int.reduceLE, Int.reduceToNat, mkE, mapSetE, hN, hF, ty_3, ty_5, ty_9, ty_47, ty_159, notIf, isEq, h1, putC, h2, slices5, hs, bytes_length]
  try refine drawnP_intro (by kernel_rfl) (by kernel_rfl) ?_
  try simp only [thenA_normal, vc_ret]
  simp only [runB, finC, finD, Option.isSome_some, Option.isSome_none, ↓reduceIte, Nat.reduceEqDiff, Nat.reduceAdd, Nat.reduceMul, forall_eq_or_imp, forall_eq, implies_true, Nat.reduceBEq, reduceCtorEq, false_implies, List.zip_cons_cons, List.zip_nil_left, List.zip_nil_right, Nat.reduceLeDiff, List.forall_mem_nil, rs_143]

/-- So many steps on. -/
def chainS (s : List UInt8) : Nat → List UInt8
  | 0 => s
  | n + 1 => shortS (chainS s n)
theorem chainS_length (s : List UInt8) (n : Nat) (h : s.length ≤ 1000000) : (chainS s n).length ≤ 1000000 := by
  cases n with
  | zero => exact h
  | succ n => show (shortS _).length ≤ _; rw [shortS_length]; decide
noncomputable def chainC : Contract := mkC (α := List UInt8 × Nat) (fun p => p.1.length ≤ 1000000 ∧ p.2 ≤ 3) (fun p => [.c (.str p.1), .c (.int .i64 (p.2 : Int))]) (fun _ => []) (fun p => ⟨[.pv (.c (.str (chainS p.1 p.2)))], []⟩)
theorem chain_at (s : List UInt8) (n : Nat) (h : s.length ≤ 1000000) (h3 : n ≤ 3) : chainC [.c (.str s), .c (.int .i64 (n : Int))] [] = some ⟨[.pv (.c (.str (chainS s n)))], []⟩ :=
  mkC_at (α := List UInt8 × Nat) (s, n) ⟨h, h3⟩ (by
    rintro ⟨a, b⟩ _ h _
    simp only [List.cons.injEq, AV.c.injEq, PC.int.injEq, PC.str.injEq, true_and, and_true] at h
    obtain ⟨rfl, e⟩ := h
    obtain rfl : b = n := by omega
    rfl)

set_option maxRecDepth 100000 in
set_option maxHeartbeats 1000000 in
theorem chain_sound (hΓ : SoundG Tryz.prog Γ) (h2 : Γ 199 = shortC) : SoundC Tryz.prog 142 chainC := by
  refine sound_fn Tryz.func142 (by kernel_rfl) rfl rfl ?_
  intro args objs r hr
  obtain ⟨⟨s, n⟩, ⟨hl, hn⟩, rfl, rfl, rfl⟩ := mkC_inv hr
  refine ⟨rfl, by show 2 ≤ _; decide, fun E hN hns hF => ?_⟩
  refine vc_sound hΓ mixed _ _ _ ?_
  have hN := hN.trans nt_142
  dsimp only at hl hn ⊢
  have g1 : ¬ ((0 : Int) > (n : Int)) := by omega
  have g2 : ¬ ((3 : Int) < (n : Int)) := by omega
  simp only [runA, runB, runC, runD, runE, runF, fieldE, storeE, binE, ↓reduceIte, Nat.reduceLT, Nat.reduceLeDiff, Nat.reduceEqDiff, Nat.reduceAdd, Nat.reduceMul, Nat.reduceSub, reduceCtorEq, putAt, unE, Nat.reduceBEq, convE, buildE, List.replicate, Int.reduceLT, Int.reduceLE, Int.reduceToNat, mkE, mapSetE, hN, hF, ty_3, ty_5, ty_9, ty_47, ty_159, notIf, isEq, g1, g2]
  refine AWP.loop (fun c st => ∃ i : Nat, i ≤ n ∧ c = n - i ∧ st = ⟨[(0, .c (.str (chainS s i))), (7, .c (.int .i64 (n : Int))), (8, .c (.int .i64 (i : Int)))], []⟩) ⟨n, _, ?w, 0, Nat.zero_le _, rfl, rfl⟩ ?r
  case w =>
    rw [hns]
    simp only [runB, finC, finD, AS.get, AS.mem, false_implies, implies_true, ↓reduceIte, Nat.reduceEqDiff, Option.isSome_some, Option.isSome_none, forall_eq_or_imp, forall_eq, reduceCtorEq, Nat.reduceAdd, Nat.reduceMul, List.zip_cons_cons, List.zip_nil_left, List.zip_nil_right, List.forall_mem_nil, chainS]
    first | done | simp
  case r =>
    rintro c st ⟨i, hi, rfl, rfl⟩
    refine vc_sound hΓ mixed _ _ _ ?_
    by_cases hlt : i < n
    · have h1 : decide ((i : Int) < (n : Int)) = true := by simpa using hlt
      have e1 : IntKind.i64.wrap ((i : Int) + 1) = (i : Int) + 1 := wrapI (by omega)
      have hcl := chainS_length s i hl
      have hs := short_at [chainS s i] ⟨by simp; omega, by simp⟩
      have he : shortS ([chainS s i].flatten) = chainS s (i + 1) := by simp [chainS]
      rw [he] at hs
      have h1s : [[PC.sl (bytes (chainS s i))]] = slices [chainS s i] := rfl
      simp only [runA, runB, runC, runD, runE, runF, fieldE, storeE, binE, ↓reduceIte, Nat.reduceLT, Nat.reduceLeDiff, Nat.reduceEqDiff, Nat.reduceAdd, Nat.reduceMul, Nat.reduceSub, reduceCtorEq, putAt, unE, Nat.reduceBEq, convE, buildE, List.replicate, Int.reduceLT, Int.reduceLE, Int.reduceToNat, mkE, mapSetE, hN, hF, ty_3, ty_5, ty_9, ty_47, ty_159, notIf, isEq, h1, e1, h2, h1s, hs]
      refine ⟨n - (i + 1), _, by omega, ?_, i + 1, by omega, rfl, rfl⟩
      rw [hns]
      simp only [runB, finC, finD, AS.get, AS.mem, false_implies, implies_true, ↓reduceIte, Nat.reduceEqDiff, Option.isSome_some, Option.isSome_none, forall_eq_or_imp, forall_eq, reduceCtorEq, Nat.reduceAdd, Nat.reduceMul, List.zip_cons_cons, List.zip_nil_left, List.zip_nil_right, List.forall_mem_nil]
      first | done | simp
    · have h1 : decide ((i : Int) < (n : Int)) = false := by simpa using hlt
      obtain rfl : i = n := by omega
      simp only [runA, runB, runC, runD, runE, runF, fieldE, storeE, binE, ↓reduceIte, Nat.reduceLT, Nat.reduceLeDiff, Nat.reduceEqDiff, Nat.reduceAdd, Nat.reduceMul, Nat.reduceSub, reduceCtorEq, putAt, unE, Nat.reduceBEq, convE, buildE, List.replicate, Int.reduceLT, Int.reduceLE, Int.reduceToNat, mkE, mapSetE, hN, hF, ty_3, ty_5, ty_9, ty_47, ty_159, notIf, isEq, h1]
      simp only [runB, finC, finD, Option.isSome_some, Option.isSome_none, ↓reduceIte, Nat.reduceEqDiff, Nat.reduceAdd, Nat.reduceMul, forall_eq_or_imp, forall_eq, implies_true, Nat.reduceBEq, reduceCtorEq, false_implies, List.zip_cons_cons, List.zip_nil_left, List.zip_nil_right, Nat.reduceLeDiff, List.forall_mem_nil, rs_142]

def endedOK (l : List (List UInt8)) : Prop := l.flatten.length ≤ 1000000000 ∧ l.length ≤ 1000000000
noncomputable def endedC : Contract := mkC (α := List (List UInt8)) endedOK (fun l => [.c (.sl (texts l))]) (fun _ => []) (fun l => ⟨[.pv (.c (.str (shortS l.flatten)))], []⟩)
theorem ended_at (l : List (List UInt8)) (h : endedOK l) : endedC [.c (.sl (texts l))] [] = some ⟨[.pv (.c (.str (shortS l.flatten)))], []⟩ :=
  mkC_at (α := List (List UInt8)) l h (fun y _ h1 _ => by
    simp at h1
    rw [texts_inj h1])

set_option maxRecDepth 100000 in
set_option maxHeartbeats 1000000 in
theorem ended_sound (hΓ : SoundG Tryz.prog Γ) (h2 : Γ 199 = shortC) : SoundC Tryz.prog 144 endedC := by
  refine sound_fn Tryz.func144 (by kernel_rfl) rfl rfl ?_
  intro args objs r hr
  obtain ⟨l, ⟨hl1, hl2⟩, rfl, rfl, rfl⟩ := mkC_inv hr
  refine ⟨rfl, by show 1 ≤ _; decide, fun E hN hns hF => ?_⟩
  refine vc_sound hΓ mixed _ _ _ ?_
  have hN := hN.trans nt_144
  simp only [runA, runB, runC, runD, runE, runF, fieldE, storeE, binE, ↓reduceIte, Nat.reduceLT, Nat.reduceLeDiff, Nat.reduceEqDiff, Nat.reduceAdd, Nat.reduceMul, Nat.reduceSub, reduceCtorEq, putAt, unE, Nat.reduceBEq, convE, buildE, List.replicate, Int.reduceLT, Int.reduceLE, Int.reduceToNat, mkE, mapSetE, hN, hF, ty_3, ty_5, ty_9, ty_24, ty_47, ty_159, notIf, isEq, texts_length]
  refine AWP.loop (fun c st => ∃ i : Nat, i ≤ l.length ∧ c = l.length - i ∧ st = ⟨[(3, .own 897 1 (bytes (l.take i).flatten)), (6, .c (.sl (texts l))), (7, .c (.int .i64 (l.length : Int))), (8, .c (.int .i64 (i : Int)))], [(897, .row 1 (l.take i).flatten.length)]⟩) ⟨l.length, _, ?w, 0, Nat.zero_le _, rfl, rfl⟩ ?r
  case w =>
    rw [hns]
    simp only [runB, finC, finD, AS.get, AS.mem, false_implies, implies_true, ↓reduceIte, Nat.reduceEqDiff, Option.isSome_some, Option.isSome_none, forall_eq_or_imp, forall_eq, reduceCtorEq, Nat.reduceAdd, Nat.reduceMul, List.zip_cons_cons, List.zip_nil_left, List.zip_nil_right, List.forall_mem_nil]
    simp [bytes]
  case r =>
    rintro c st ⟨i, hi, rfl, rfl⟩
    refine vc_sound hΓ mixed _ _ _ ?_
    by_cases hlt : i < l.length
    · have h1 : decide ((i : Int) < (l.length : Int)) = true := by simpa using hlt
      obtain ⟨b, hb⟩ : ∃ b, l[i]? = some b := ⟨l[i], by simp [hlt]⟩
      have hbr : (texts l)[i]? = some [PC.str b] := by simp [texts, hb]
      have hs := flat_succ hb
      have hle := flat_take l (i + 1)
      rw [hs, List.length_append] at hle
      have e1 : IntKind.i64.wrap ((i : Int) + 1) = (i : Int) + 1 := wrapI (by omega)
      have hz := rowsOK_bytes
      have hL : (l.take i).flatten.length + b.length ≤ 140737488355328 := by omega
      simp only [runA, runB, runC, runD, runE, runF, fieldE, storeE, binE, ↓reduceIte, Nat.reduceLT, Nat.reduceLeDiff, Nat.reduceEqDiff, Nat.reduceAdd, Nat.reduceMul, Nat.reduceSub, reduceCtorEq, putAt, unE, Nat.reduceBEq, convE, buildE, List.replicate, Int.reduceLT, Int.reduceLE, Int.reduceToNat, mkE, mapSetE, hN, hF, ty_3, ty_5, ty_9, ty_24, ty_47, ty_159, notIf, isEq, h1, hbr, e1, hz, hL, bytes_length, bytes_app, ← hs]
      refine ⟨l.length - (i + 1), _, by omega, ?_, i + 1, by omega, rfl, rfl⟩
      rw [hns]
      simp only [runB, finC, finD, AS.get, AS.mem, false_implies, implies_true, ↓reduceIte, Nat.reduceEqDiff, Option.isSome_some, Option.isSome_none, forall_eq_or_imp, forall_eq, reduceCtorEq, Nat.reduceAdd, Nat.reduceMul, List.zip_cons_cons, List.zip_nil_left, List.zip_nil_right, List.forall_mem_nil]
      first | done | (rw [hs]; simp)
    · have h1 : decide ((i : Int) < (l.length : Int)) = false := by simpa using hlt
      obtain rfl : i = l.length := by omega
      have hs := short_at [l.flatten] ⟨by simp; rw [List.length_flatten] at hl1; omega, by simp⟩
      rw [show [l.flatten].flatten = l.flatten from by simp] at hs
      have h1s : [[PC.sl (bytes l.flatten)]] = slices [l.flatten] := rfl
      simp only [runA, runB, runC, runD, runE, runF, fieldE, storeE, binE, ↓reduceIte, Nat.reduceLT, Nat.reduceLeDiff, Nat.reduceEqDiff, Nat.reduceAdd, Nat.reduceMul, Nat.reduceSub, reduceCtorEq, putAt, unE, Nat.reduceBEq, convE, buildE, List.replicate, Int.reduceLT, Int.reduceLE, Int.reduceToNat, mkE, mapSetE, hN, hF, ty_3, ty_5, ty_9, ty_24, ty_47, ty_159, notIf, isEq, h1, h2, h1s, hs, List.take_length]
      simp only [runB, finC, finD, Option.isSome_some, Option.isSome_none, ↓reduceIte, Nat.reduceEqDiff, Nat.reduceAdd, Nat.reduceMul, forall_eq_or_imp, forall_eq, implies_true, Nat.reduceBEq, reduceCtorEq, false_implies, List.zip_cons_cons, List.zip_nil_left, List.zip_nil_right, Nat.reduceLeDiff, List.forall_mem_nil, rs_144]


variable {Γ : FuncId → Contract}

def partsS (seed : List UInt8) (leaf : Int) (n : Nat) : List (List UInt8) := (List.range n).map fun i : Nat => chainS (secS seed leaf (i : Int)) 3
theorem partsS_succ (seed : List UInt8) (leaf : Int) (n : Nat) : partsS seed leaf (n + 1) = partsS seed leaf n ++ [chainS (secS seed leaf (n : Int)) 3] := by simp [partsS, List.range_succ]
theorem partsS_length (seed : List UInt8) (leaf : Int) (n : Nat) : (partsS seed leaf n).length = n := by simp [partsS]
theorem chain3_length (s : List UInt8) : (chainS s 3).length = 8 := shortS_length _
theorem partsS_flat (seed : List UInt8) (leaf : Int) : ∀ n, (partsS seed leaf n).flatten.length = 8 * n
  | 0 => rfl
  | n + 1 => by
    rw [partsS_succ, List.flatten_append, List.length_append, partsS_flat seed leaf n]
    simp [chain3_length]
    omega
def leafS (seed : List UInt8) (leaf : Int) : List UInt8 := shortS (partsS seed leaf 11).flatten

noncomputable def leafC : Contract := mkC (α := List UInt8 × Int) (fun p => p.1.length ≤ 1000000) (fun p => [.c (.str p.1), .c (.int .i64 p.2)]) (fun _ => []) (fun p => ⟨[.pv (.c (.str (leafS p.1 p.2)))], []⟩)
theorem leaf_at (s : List UInt8) (n : Int) (h : s.length ≤ 1000000) : leafC [.c (.str s), .c (.int .i64 n)] [] = some ⟨[.pv (.c (.str (leafS s n)))], []⟩ :=
  mkC_at (α := List UInt8 × Int) (s, n) h (by
    rintro ⟨a, b⟩ _ h _
    simp only [List.cons.injEq, AV.c.injEq, PC.int.injEq, PC.str.injEq, true_and, and_true] at h
    obtain ⟨rfl, rfl⟩ := h
    rfl)

theorem chain3_at (s : List UInt8) (h : s.length ≤ 1000000) : chainC [.c (.str s), .c (.int .i64 3)] [] = some ⟨[.pv (.c (.str (chainS s 3)))], []⟩ := chain_at s 3 h (by decide)

set_option maxRecDepth 100000 in
set_option maxHeartbeats 1000000 in
theorem leaf_sound (hΓ : SoundG Tryz.prog Γ) (h1 : Γ 143 = secC) (h2 : Γ 142 = chainC) (h3 : Γ 144 = endedC) : SoundC Tryz.prog 91 leafC := by
  refine sound_fn Tryz.func91 (by kernel_rfl) rfl rfl ?_
  intro args objs r hr
  obtain ⟨⟨s, n⟩, hl, rfl, rfl, rfl⟩ := mkC_inv hr
  refine ⟨rfl, by show 2 ≤ _; decide, fun E hN hns hF => ?_⟩
  refine vc_sound hΓ mixed _ _ _ ?_
  have hN := hN.trans nt_91
  dsimp only at hl ⊢
  simp only [runA, runB, runC, runD, runE, runF, fieldE, storeE, binE, ↓reduceIte, Nat.reduceLT, Nat.reduceLeDiff, Nat.reduceEqDiff, Nat.reduceAdd, Nat.reduceMul, Nat.reduceSub, reduceCtorEq, putAt, unE, Nat.reduceBEq, convE, buildE, List.replicate, Int.reduceLT, Int.reduceLE, Int.reduceToNat, mkE, mapSetE, hN, hF, ty_3, ty_9, ty_24, notIf, isEq]
  refine AWP.loop (fun c st => ∃ i : Nat, i ≤ 11 ∧ c = 11 - i ∧ st = ⟨[(0, .c (.str s)), (1, .c (.int .i64 n)), (5, .own 1089 1 (texts (partsS s n i))), (7, .c (.int .i64 (i : Int)))], [(1089, .row 1 i)]⟩) ⟨11, _, ?w, 0, Nat.zero_le _, rfl, rfl⟩ ?r
  case w =>
    rw [hns]
    simp only [runB, finC, finD, AS.get, AS.mem, false_implies, implies_true, ↓reduceIte, Nat.reduceEqDiff, Option.isSome_some, Option.isSome_none, forall_eq_or_imp, forall_eq, reduceCtorEq, Nat.reduceAdd, Nat.reduceMul, List.zip_cons_cons, List.zip_nil_left, List.zip_nil_right, List.forall_mem_nil]
    simp [partsS, texts]
  case r =>
    rintro c st ⟨i, hi, rfl, rfl⟩
    refine vc_sound hΓ mixed _ _ _ ?_
    have hpl := partsS_length s n i
    by_cases hlt : i < 11
    · have g1 : decide ((i : Int) < 11) = true := by simp; omega
      have e1 : IntKind.i64.wrap ((i : Int) + 1) = (i : Int) + 1 := wrapI (by omega)
      have hs := sec_at s n (i : Int) hl
      have hc := chain3_at (secS s n (i : Int)) (by unfold secS; rw [shortS_length]; decide)
      have hz := rowsOK_texts
      have hL : (i + 1) * 16 ≤ 140737488355328 := by omega
      have hsucc := partsS_succ s n i
      simp only [runA, runB, runC, runD, runE, runF, fieldE, storeE, binE, ↓reduceIte, Nat.reduceLT, Nat.reduceLeDiff, Nat.reduceEqDiff, Nat.reduceAdd, Nat.reduceMul, Nat.reduceSub, reduceCtorEq, putAt, unE, Nat.reduceBEq, convE, buildE, List.replicate, Int.reduceLT, Int.reduceLE, Int.reduceToNat, mkE, mapSetE, hN, hF, ty_3, ty_9, ty_24, notIf, isEq, g1, e1, h1, hs, h2, hc, texts1, texts_app, ← hsucc, hz, hL, texts_length, hpl]
      refine ⟨11 - (i + 1), _, by omega, ?_, i + 1, by omega, rfl, rfl⟩
      rw [hns]
      simp only [runB, finC, finD, AS.get, AS.mem, false_implies, implies_true, ↓reduceIte, Nat.reduceEqDiff, Option.isSome_some, Option.isSome_none, forall_eq_or_imp, forall_eq, reduceCtorEq, Nat.reduceAdd, Nat.reduceMul, List.zip_cons_cons, List.zip_nil_left, List.zip_nil_right, List.forall_mem_nil]
      first | done | simp
    · have g1 : decide ((i : Int) < 11) = false := by simp; omega
      obtain rfl : i = 11 := by omega
      have hf := partsS_flat s n 11
      have he := ended_at (partsS s n 11) ⟨by omega, by omega⟩
      simp only [runA, runB, runC, runD, runE, runF, fieldE, storeE, binE, ↓reduceIte, Nat.reduceLT, Nat.reduceLeDiff, Nat.reduceEqDiff, Nat.reduceAdd, Nat.reduceMul, Nat.reduceSub, reduceCtorEq, putAt, unE, Nat.reduceBEq, convE, buildE, List.replicate, Int.reduceLT, Int.reduceLE, Int.reduceToNat, mkE, mapSetE, hN, hF, ty_3, ty_9, ty_24, notIf, isEq, g1, h3, he]
      simp only [runB, finC, finD, Option.isSome_some, Option.isSome_none, ↓reduceIte, Nat.reduceEqDiff, Nat.reduceAdd, Nat.reduceMul, forall_eq_or_imp, forall_eq, implies_true, Nat.reduceBEq, reduceCtorEq, false_implies, List.zip_cons_cons, List.zip_nil_left, List.zip_nil_right, Nat.reduceLeDiff, List.forall_mem_nil, rs_91, leafS]

def leavesS (seed : List UInt8) (n : Nat) : List (List UInt8) := (List.range n).map fun i : Nat => leafS seed (i : Int)
theorem leavesS_succ (seed : List UInt8) (n : Nat) : leavesS seed (n + 1) = leavesS seed n ++ [leafS seed (n : Int)] := by simp [leavesS, List.range_succ]
theorem leavesS_length (seed : List UInt8) (n : Nat) : (leavesS seed n).length = n := by simp [leavesS]
def keyAV (seed : List UInt8) (leaves : List (List UInt8)) (next : Int) : AV := .agg [.c (.str seed), .c (.sl (texts leaves)), .c (.int .i64 next)]

noncomputable def newKeyC : Contract := mkC (α := List UInt8 × Nat) (fun p => p.1.length ≤ 64 ∧ p.2 ≤ 4) (fun p => [.c (.str p.1), .c (.int .i64 (p.2 : Int))]) (fun _ => []) (fun p => ⟨[.pv (keyAV p.1 (leavesS p.1 (2 ^ p.2)) 0), .pv (.c (.int .i64 0))], []⟩)
theorem newKey_at (s : List UInt8) (n : Nat) (h : s.length ≤ 64) (h4 : n ≤ 4) : newKeyC [.c (.str s), .c (.int .i64 (n : Int))] [] = some ⟨[.pv (keyAV s (leavesS s (2 ^ n)) 0), .pv (.c (.int .i64 0))], []⟩ :=
  mkC_at (α := List UInt8 × Nat) (s, n) ⟨h, h4⟩ (by
    rintro ⟨a, b⟩ _ h _
    simp only [List.cons.injEq, AV.c.injEq, PC.int.injEq, PC.str.injEq, true_and, and_true] at h
    obtain ⟨rfl, e⟩ := h
    obtain rfl : b = n := by omega
    rfl)

theorem shl_pow (h : Nat) (h4 : h ≤ 4) : shOp .shl .i64 1 (h : Int) = some (.int .i64 ((2 ^ h : Nat) : Int)) := by
  have : h = 0 ∨ h = 1 ∨ h = 2 ∨ h = 3 ∨ h = 4 := by omega
  rcases this with rfl | rfl | rfl | rfl | rfl <;> rfl

set_option maxRecDepth 100000 in
set_option maxHeartbeats 1000000 in
theorem newKey_sound (hΓ : SoundG Tryz.prog Γ) (h1 : Γ 91 = leafC) : SoundC Tryz.prog 44 newKeyC := by
  refine sound_fn Tryz.func44 (by kernel_rfl) rfl rfl ?_
  intro args objs r hr
  obtain ⟨⟨s, h⟩, ⟨hl, h4⟩, rfl, rfl, rfl⟩ := mkC_inv hr
  refine ⟨rfl, by show 2 ≤ _; decide, fun E hN hns hF => ?_⟩
  refine vc_sound hΓ mixed _ _ _ ?_
  have hN := hN.trans nt_44
  dsimp only at hl h4 ⊢
  have g1 : decide ((h : Int) < 0) = false := by simp
  have g2 : decide ((h : Int) > 4) = false := by simp; omega
  have g3 : decide ((s.length : Int) > 64) = false := by simp; omega
  have g4 := shl_pow h h4
  obtain ⟨m, hm⟩ : ∃ m, m = 2 ^ h := ⟨_, rfl⟩
  have hm16 : m ≤ 16 := by
    rw [hm]
    exact Nat.le_trans (Nat.pow_le_pow_right (by decide) h4) (by decide)
  rw [← hm] at g4 ⊢
  simp only [runA, runB, runC, runD, runE, runF, fieldE, storeE, binE, ↓reduceIte, Nat.reduceLT, Nat.reduceLeDiff, Nat.reduceEqDiff, Nat.reduceAdd, Nat.reduceMul, Nat.reduceSub, reduceCtorEq, putAt, unE, Nat.reduceBEq, convE, buildE, List.replicate, Int.reduceLT, Int.reduceLE, Int.reduceToNat, mkE, mapSetE, hN, hF, ty_3, ty_9, ty_24, ty_26, ty_37, notIf, isEq, g1, g2, g3, g4]
  refine AWP.loop (fun c st => ∃ i : Nat, i ≤ m ∧ c = m - i ∧ st = ⟨[(0, .c (.str s)), (4, .ptr 256 0), (6, .ptr 384 0), (24, .c (.int .i64 (m : Int))), (25, .c (.int .i64 (i : Int)))],
    [(256, .obj [.c (.str []), .nilsl, .c (.int .i64 0)] false), (384, .obj [.c (.str s), .own 2177 1 (texts (leavesS s i)), .c (.int .i64 0)] false), (2177, .row 1 i)]⟩) ⟨m, _, ?w, 0, Nat.zero_le _, rfl, rfl⟩ ?r
  case w =>
    rw [hns]
    simp only [runB, finC, finD, AS.get, AS.mem, false_implies, implies_true, ↓reduceIte, Nat.reduceEqDiff, Option.isSome_some, Option.isSome_none, forall_eq_or_imp, forall_eq, reduceCtorEq, Nat.reduceAdd, Nat.reduceMul, List.zip_cons_cons, List.zip_nil_left, List.zip_nil_right, List.forall_mem_nil]
    simp [leavesS, texts]
  case r =>
    rintro c st ⟨i, hi, rfl, rfl⟩
    refine vc_sound hΓ mixed _ _ _ ?_
    have hpl := leavesS_length s i
    by_cases hlt : i < m
    · have k1 : decide ((i : Int) < (m : Int)) = true := by simpa using hlt
      have e1 : IntKind.i64.wrap ((i : Int) + 1) = (i : Int) + 1 := wrapI (by omega)
      have hs := leaf_at s (i : Int) (by omega)
      have hz := rowsOK_texts
      have hL : (i + 1) * 16 ≤ 140737488355328 := by omega
      have hsucc := leavesS_succ s i
      simp only [runA, runB, runC, runD, runE, runF, fieldE, storeE, binE, ↓reduceIte, Nat.reduceLT, Nat.reduceLeDiff, Nat.reduceEqDiff, Nat.reduceAdd, Nat.reduceMul, Nat.reduceSub, reduceCtorEq, putAt, unE, Nat.reduceBEq, convE, buildE, List.replicate, Int.reduceLT, Int.reduceLE, Int.reduceToNat, mkE, mapSetE, hN, hF, ty_3, ty_9, ty_24, ty_26, ty_37, notIf, isEq, k1, e1, h1, hs, texts1, texts_app, ← hsucc, hz, hL, texts_length, hpl]
      refine drawnP_intro (by kernel_rfl) (by kernel_rfl) ?_
      simp only [runA, runB, runC, runD, runE, runF, fieldE, storeE, binE, ↓reduceIte, Nat.reduceLT, Nat.reduceLeDiff, Nat.reduceEqDiff, Nat.reduceAdd, Nat.reduceMul, Nat.reduceSub, reduceCtorEq, putAt, unE, Nat.reduceBEq, convE, buildE, List.replicate, Int.reduceLT, Int.reduceLE, Int.reduceToNat, mkE, mapSetE, hN, hF, ty_3, ty_9, ty_24, ty_26, ty_37, notIf, isEq, e1]
      refine ⟨m - (i + 1), _, by omega, ?_, i + 1, by omega, rfl, rfl⟩
      rw [hns]
      simp only [runB, finC, finD, AS.get, AS.mem, false_implies, implies_true, ↓reduceIte, Nat.reduceEqDiff, Option.isSome_some, Option.isSome_none, forall_eq_or_imp, forall_eq, reduceCtorEq, Nat.reduceAdd, Nat.reduceMul, List.zip_cons_cons, List.zip_nil_left, List.zip_nil_right, List.forall_mem_nil]
      first | done | simp
    · have k1 : decide ((i : Int) < (m : Int)) = false := by simpa using hlt
      obtain rfl : i = m := by omega
      simp only [runA, runB, runC, runD, runE, runF, fieldE, storeE, binE, ↓reduceIte, Nat.reduceLT, Nat.reduceLeDiff, Nat.reduceEqDiff, Nat.reduceAdd, Nat.reduceMul, Nat.reduceSub, reduceCtorEq, putAt, unE, Nat.reduceBEq, convE, buildE, List.replicate, Int.reduceLT, Int.reduceLE, Int.reduceToNat, mkE, mapSetE, hN, hF, ty_3, ty_9, ty_24, ty_26, ty_37, notIf, isEq, k1]
      simp only [runB, finC, finD, Option.isSome_some, Option.isSome_none, ↓reduceIte, Nat.reduceEqDiff, Nat.reduceAdd, Nat.reduceMul, forall_eq_or_imp, forall_eq, implies_true, Nat.reduceBEq, reduceCtorEq, false_implies, List.zip_cons_cons, List.zip_nil_left, List.zip_nil_right, Nat.reduceLeDiff, List.forall_mem_nil, rs_44, agg_26, sz_26, keyAV]

end Go.Proofs.YtenmlgalcjkdbaaGreat.AM
