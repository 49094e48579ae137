/-
  QE: Rd1 Rd2 Rd3.
-/
import Derived.Test.YtcfijanfcgnnhaaQ5
import Derived.Test.YtcfijanfcgnnhaaQD
import Derived.Test.YtcfijanfcgnnhaaQ6
set_option linter.unusedVariables false
set_option linter.unusedSimpArgs false
namespace Go.Proofs.Ytcfijanfcgnnhaa.AM
open Go

variable {Γ : FuncId → Contract}


theorem c_amds (ρ : Ren) (l : List PC) : AMds ρ (l.map .c) (l.map .c) := by
  induction l with
  | nil => trivial
  | cons x l ih => exact ⟨rfl, ih⟩
theorem c_E (me : Nat) (l : List PC) : cellsE me (l.map .c) = .ret (l.map .c, []) := by
  induction l with
  | nil => rfl
  | cons x l ih =>
    show cellsE me (.c x :: l.map .c) = _
    simp only [cellsE, AV.toPC, ih, EP.bind]
    rfl
theorem c_back (me : Nat) (l : List PC) (rs : List Nat) : backCells me (l.map .c) rs = (l.map .c, []) := by
  induction l with
  | nil => rfl
  | cons x l ih =>
    show backCells me (.c x :: l.map .c) rs = _
    simp only [backCells, ih]
    rfl
theorem c_At (nm : Nat → Nat) (me : Nat) (l : List PC) : ∀ j, cellsAt nm me j (l.map .c) = (l.map .c, []) := by
  induction l with
  | nil => intro j; rfl
  | cons x l ih =>
    intro j
    show cellsAt nm me j (.c x :: l.map .c) = _
    simp only [cellsAt, ih]
    rfl
theorem c_pairs (nm : Nat → Nat) (l : List PC) : ∀ (j : Nat) (cs : List AV), cellPairs nm j cs (l.map .c) = ([], []) := by
  induction l with
  | nil => intro j cs; cases cs <;> rfl
  | cons x l ih =>
    intro j cs
    cases cs with
    | nil => rfl
    | cons y cs =>
      show cellPairs nm j (y :: cs) (.c x :: l.map .c) = _
      unfold cellPairs
      split <;> first | (rename_i h1 h2; cases h2; done) | exact ih _ _
theorem ovc_inj {l l' : List PC} (h : l.map OV.c = l'.map OV.c) : l = l' := (List.map_inj_right (fun _ _ h => OV.c.inj h)).1 h
theorem bytes_flat (b : List UInt8) : (bytes b).flatten = b.map fun x => PC.int .u8 x.toNat := by
  induction b with
  | nil => rfl
  | cons x b ih => show [PC.int .u8 (x.toNat : Int)] ++ (bytes b).flatten = _; rw [ih]; rfl
theorem flat_inj {b b' : List UInt8} (h : (bytes b).flatten = (bytes b').flatten) : b = b' := by
  rw [bytes_flat, bytes_flat] at h
  refine (List.map_inj_right (fun x y h => ?_)).1 h
  simp only [PC.int.injEq, true_and] at h
  exact UInt8.toNat_inj.1 (by omega)
theorem flat_bl (b : List UInt8) : (bytes b).flatten.length = b.length := by rw [bytes_flat, List.length_map]

noncomputable def cloneMC : Contract := mkC (α := List UInt8) (fun b => 0 < b.length ∧ b.length ≤ 140737488355328) (fun b => [.msl (inObj 0) 0 b.length false]) (fun b => [(bytes b).flatten.map .c]) (fun b => ⟨[.pv (.c (.sl (bytes b)))], [(bytes b).flatten.map .c]⟩)
theorem cloneM_at (b : List UInt8) (h : 0 < b.length ∧ b.length ≤ 140737488355328) : cloneMC [.msl 6400000 0 b.length false] [(bytes b).flatten.map .c] = some ⟨[.pv (.c (.sl (bytes b)))], [(bytes b).flatten.map .c]⟩ :=
  mkC_at (α := List UInt8) b h (by
    intro y _ _ h
    simp only [List.cons.injEq, and_true] at h
    rw [flat_inj (ovc_inj h)])

set_option maxRecDepth 100000 in
set_option maxHeartbeats 4000000 in
theorem cloneM_sound : SoundC Try.prog 50 cloneMC := by
  refine sound_fnA ⟨[5], [(3, .frz 2 1)]⟩ Try.func50 (by kernel_rfl) rfl rfl ?_
  intro args objs r0 hr
  obtain ⟨b, ⟨hb0, hb1⟩, rfl, rfl, rfl⟩ := mkC_inv hr
  refine ⟨rfl, by show 1 ≤ _; decide, fun E hN hns hF => ?_⟩
  refine vc_sound none0_sound mixed _ _ _ ?_
  have hN := hN.trans nt_50
  have hfl := flat_bl b
  have hT := toPCs_c (bytes b).flatten
  have hch : chunks 1 b.length (bytes b).flatten = bytes b := by
    have := chunks_flat (rowsOK_bytes b)
    rwa [bytes_length] at this
  have htk : (bytes b).flatten.take b.length = (bytes b).flatten := by rw [← hfl, List.take_length]
  have hp : decide (0 < b.length) = true := decide_eq_true hb0
  have k1 : (b.length ≤ b.length) = True := eq_true (Nat.le_refl _)
  have k2 : (b.length ≤ 140737488355328) = True := eq_true hb1
  simp only [runA, runB, runC, runD, runE, runF, fieldE, storeE, binE, ↓reduceIte, Nat.reduceLT, Nat.reduceLeDiff, Nat.reduceEqDiff, Nat.reduceAdd, Nat.reduceMul, Nat.reduceSub, reduceCtorEq, putAt, unE, Nat.reduceBEq, convE, buildE, List.replicate, Int.reduceLT, Int.reduceLE, Int.reduceToNat, mkE, mapSetE, hN, hF, ty_5, ty_27, notIf, isEq, appendX, appendM, newLooseE, doHint, List.length_map, hfl, ← List.map_take, htk, hT, hch, hp, k1, k2, c_At, bytes_length, Nat.zero_lt_succ, Option.isSome_some]
  simp only [runB, finC, finD, Option.isSome_some, Option.isSome_none, ↓reduceIte, Nat.reduceEqDiff, Nat.reduceAdd, Nat.reduceMul, forall_eq_or_imp, forall_eq, implies_true, Nat.reduceBEq, reduceCtorEq, false_implies, List.zip_cons_cons, List.zip_nil_left, List.zip_nil_right, Nat.reduceLeDiff, List.forall_mem_nil, rs_50, c_At, c_pairs, c_amds, bytes_length]

noncomputable def openMC : Contract := mkC (α := List UInt8) (fun b => 0 < b.length ∧ b.length ≤ 140737488355328) (fun b => [.msl (inObj 0) 0 b.length false]) (fun b => [(bytes b).flatten.map .c]) (fun b => ⟨[.newobj [.c (.sl (bytes b)), .c (.int .i64 0), .c (.bool true)]], [(bytes b).flatten.map .c]⟩)
theorem openM_at (b : List UInt8) (h : 0 < b.length ∧ b.length ≤ 140737488355328) : openMC [.msl 6400000 0 b.length false] [(bytes b).flatten.map .c] = some ⟨[.newobj [.c (.sl (bytes b)), .c (.int .i64 0), .c (.bool true)]], [(bytes b).flatten.map .c]⟩ :=
  mkC_at (α := List UInt8) b h (by
    intro y _ _ h
    simp only [List.cons.injEq, and_true] at h
    rw [flat_inj (ovc_inj h)])
set_option maxRecDepth 100000 in
set_option maxHeartbeats 4000000 in
theorem openM_sound (hΓ : SoundG Try.prog Γ) (h1 : Γ 50 = cloneMC) : SoundC Try.prog 13 openMC := by
  refine sound_fn Try.func13 (by kernel_rfl) rfl rfl ?_
  intro args objs r0 hr
  obtain ⟨b, hb, rfl, rfl, rfl⟩ := mkC_inv hr
  refine ⟨rfl, by show 1 ≤ _; decide, fun E hN hns hF => ?_⟩
  refine vc_sound hΓ mixed _ _ _ ?_
  have hN := hN.trans nt_13
  have q1 := cloneM_at b hb
  simp only [runA, runB, runC, runD, runE, runF, fieldE, storeE, binE, ↓reduceIte, Nat.reduceLT, Nat.reduceLeDiff, Nat.reduceEqDiff, Nat.reduceAdd, Nat.reduceMul, Nat.reduceSub, reduceCtorEq, putAt, unE, Nat.reduceBEq, convE, buildE, List.replicate, Int.reduceLT, Int.reduceLE, Int.reduceToNat, mkE, mapSetE, hN, hF, ty_4, ty_5, ty_27, ty_29, ty_42, ty_105, notIf, isEq, h1, q1, c_At, c_E, c_back, bytes_length]
  simp only [runB, finC, finD, Option.isSome_some, Option.isSome_none, ↓reduceIte, Nat.reduceEqDiff, Nat.reduceAdd, Nat.reduceMul, forall_eq_or_imp, forall_eq, implies_true, Nat.reduceBEq, reduceCtorEq, false_implies, List.zip_cons_cons, List.zip_nil_left, List.zip_nil_right, Nat.reduceLeDiff, List.forall_mem_nil, rs_13, c_At, c_pairs, c_amds, bytes_length]

def orC (C D : Contract) : Contract := fun args objs => match C args objs with | some r => some r | none => D args objs
theorem orC_sound {P : Program} {f : FuncId} {C D : Contract} (h1 : SoundC P f C) (h2 : SoundC P f D) : SoundC P f (orC C D) := by
  refine ⟨h1.1, fun args objs r h => ?_⟩
  unfold orC at h
  split at h
  · rename_i r' hr; cases h; exact h1.2 args objs r hr
  · exact h2.2 args objs r h
theorem orOpen_at (b : List UInt8) (h : b.length ≤ 140737488355328) : orC openC openMC [.c (.sl (bytes b))] [] = some ⟨[.newobj [.c (.sl (bytes b)), .c (.int .i64 0), .c (.bool true)]], []⟩ := by
  have : openC [.c (.sl (bytes b))] [] = some ⟨[.newobj [.c (.sl (bytes b)), .c (.int .i64 0), .c (.bool true)]], []⟩ := by
    simp only [openC, asB_bytes, if_pos h]
  simp only [orC, this]
theorem orOpenM_at (b : List UInt8) (h : 0 < b.length ∧ b.length ≤ 140737488355328) : orC openC openMC [.msl 6400000 0 b.length false] [(bytes b).flatten.map .c] = some ⟨[.newobj [.c (.sl (bytes b)), .c (.int .i64 0), .c (.bool true)]], [(bytes b).flatten.map .c]⟩ := by
  have : openC [.msl 6400000 0 b.length false] [(bytes b).flatten.map .c] = none := rfl
  simp only [orC, this, openM_at b h]


variable {Γ : FuncId → Contract}


def gnS (r : RS) (most : Int) : Int × RS := if r.e = 0 then nextN ⟨r.b, 0⟩ most else (0, r)
def gnC : Contract := fun args objs => match args, objs with
  | [.agg [.c (.sl rows), .c (.int .i64 e)], .c (.int .i64 most)], [] => match asB rows with
    | some b => if b.length ≤ 9223372036854775807 then some ⟨[.pv (.c (.int .i64 (gnS ⟨b, e⟩ most).1)), .pv (.agg [.c (.sl (bytes (gnS ⟨b, e⟩ most).2.b)), .c (.int .i64 (gnS ⟨b, e⟩ most).2.e)])], []⟩ else none
    | none => none
  | _, _ => none
theorem gn_at (b : List UInt8) (e most : Int) (h : b.length ≤ 9223372036854775807) : gnC [.agg [.c (.sl (bytes b)), .c (.int .i64 e)], .c (.int .i64 most)] [] = some ⟨[.pv (.c (.int .i64 (gnS ⟨b, e⟩ most).1)), .pv (.agg [.c (.sl (bytes (gnS ⟨b, e⟩ most).2.b)), .c (.int .i64 (gnS ⟨b, e⟩ most).2.e)])], []⟩ := by
  simp only [gnC, asB_bytes, if_pos h]
set_option maxRecDepth 100000 in
set_option maxHeartbeats 8000000 in
theorem gn_sound (hΓ : SoundG Try.prog Γ) (h1 : Γ 51 = getC) : SoundC Try.prog 14 gnC := by
  refine sound_fn Try.func14 (by kernel_rfl) rfl rfl ?_
  intro args objs r hr
  unfold gnC at hr
  split at hr
  · split at hr
    · rename_i rows e most _ b hb
      split at hr
      · rename_i hc
        obtain rfl := asB_inv hb
        cases hr
        refine ⟨rfl, by show 2 ≤ _; decide, fun E hN hns hF => ?_⟩
        refine vc_sound hΓ mixed _ _ _ ?_
        have hN := hN.trans nt_14
        have hz := rowsOK_bytes
        have asb := asB_bytes
        have bn : bytes [] = [] := rfl
        have z0 : ((0 : Nat) : Int) = 0 := rfl
        by_cases he : e = 0
        case neg =>
          have g0 : (e != 0) = true := by simpa using he
          rw [show gnS ⟨b, e⟩ most = (0, ⟨b, e⟩) from if_neg he]
          simp only [runA, runB, runC, runD, runE, runF, fieldE, storeE, binE, ↓reduceIte, Nat.reduceLT, Nat.reduceLeDiff, Nat.reduceEqDiff, Nat.reduceAdd, Nat.reduceMul, Nat.reduceSub, reduceCtorEq, putAt, unE, Nat.reduceBEq, convE, buildE, List.replicate, Int.reduceLT, Int.reduceLE, Int.reduceToNat, mkE, mapSetE, hN, hF, ty_3, ty_5, ty_27, ty_32, notIf, isEq, g0, bytes_length]
          refine drawnP_intro (by kernel_rfl) (by kernel_rfl) ?_
          simp only [runA, runB, runC, runD, runE, runF, fieldE, storeE, binE, ↓reduceIte, Nat.reduceLT, Nat.reduceLeDiff, Nat.reduceEqDiff, Nat.reduceAdd, Nat.reduceMul, Nat.reduceSub, reduceCtorEq, putAt, unE, Nat.reduceBEq, convE, buildE, List.replicate, Int.reduceLT, Int.reduceLE, Int.reduceToNat, mkE, mapSetE, hN, hF, ty_3, ty_5, ty_27, ty_32, notIf, isEq, g0, bytes_length, bn]
          simp only [runB, finC, finD, Option.isSome_some, Option.isSome_none, ↓reduceIte, Nat.reduceEqDiff, Nat.reduceAdd, Nat.reduceMul, forall_eq_or_imp, forall_eq, implies_true, Nat.reduceBEq, reduceCtorEq, false_implies, List.zip_cons_cons, List.zip_nil_left, List.zip_nil_right, Nat.reduceLeDiff, List.forall_mem_nil, rs_14, ty_3, ty_5, ty_27, ty_32, bytes_length, bn]
        subst he
        rw [show gnS ⟨b, 0⟩ most = nextN ⟨b, 0⟩ most from if_pos rfl]
        have g0 : ((0 : Int) != 0) = false := rfl
        unfold nextN
        dsimp only
        by_cases h6 : b.length < 6
        · have g1 : decide ((b.length : Int) < 6) = true := decide_eq_true (by omega)
          rw [if_pos h6]
          simp only [runA, runB, runC, runD, runE, runF, fieldE, storeE, binE, ↓reduceIte, Nat.reduceLT, Nat.reduceLeDiff, Nat.reduceEqDiff, Nat.reduceAdd, Nat.reduceMul, Nat.reduceSub, reduceCtorEq, putAt, unE, Nat.reduceBEq, convE, buildE, List.replicate, Int.reduceLT, Int.reduceLE, Int.reduceToNat, mkE, mapSetE, hN, hF, ty_3, ty_5, ty_27, ty_32, notIf, isEq, g0, g1, bytes_length, bn]
          simp only [runB, finC, finD, Option.isSome_some, Option.isSome_none, ↓reduceIte, Nat.reduceEqDiff, Nat.reduceAdd, Nat.reduceMul, forall_eq_or_imp, forall_eq, implies_true, Nat.reduceBEq, reduceCtorEq, false_implies, List.zip_cons_cons, List.zip_nil_left, List.zip_nil_right, Nat.reduceLeDiff, List.forall_mem_nil, rs_14, ty_3, ty_5, ty_27, ty_32, bytes_length, bn]
        have g1 : decide ((b.length : Int) < 6) = false := decide_eq_false (by omega)
        have k1 : ((6 : Int) ≤ (b.length : Int)) = True := eq_true (by omega)
        have k2 : (min 6 b.length ≤ 9223372036854775807) = True := eq_true (by omega)
        rw [if_neg h6]
        generalize hn : getB (b.take 6) = n
        by_cases hb1 : 1099511627776 < n
        · have g2 : decide (n > 1099511627776) = true := decide_eq_true hb1
          rw [if_pos (.inl hb1)]
          simp only [runA, runB, runC, runD, runE, runF, fieldE, storeE, binE, ↓reduceIte, Nat.reduceLT, Nat.reduceLeDiff, Nat.reduceEqDiff, Nat.reduceAdd, Nat.reduceMul, Nat.reduceSub, reduceCtorEq, putAt, unE, Nat.reduceBEq, convE, buildE, List.replicate, Int.reduceLT, Int.reduceLE, Int.reduceToNat, mkE, mapSetE, hN, hF, ty_3, ty_5, ty_27, ty_32, notIf, isEq, g0, g1, g2, k1, k2, h1, hn, z0, bn, sliceE, boundE, getC, asb, bytes_take, bytes_drop, bytes_length, Int.le_refl, Int.reduceToNat, List.drop_zero, List.take_length, Option.isSome_some, List.length_take, List.length_drop, hz]
          simp only [runB, finC, finD, Option.isSome_some, Option.isSome_none, ↓reduceIte, Nat.reduceEqDiff, Nat.reduceAdd, Nat.reduceMul, forall_eq_or_imp, forall_eq, implies_true, Nat.reduceBEq, reduceCtorEq, false_implies, List.zip_cons_cons, List.zip_nil_left, List.zip_nil_right, Nat.reduceLeDiff, List.forall_mem_nil, rs_14, ty_3, ty_5, ty_27, ty_32, bytes_length, bn]
        have g2 : decide (n > 1099511627776) = false := decide_eq_false hb1
        by_cases hb2 : most < n
        · have g3 : decide (n > most) = true := decide_eq_true hb2
          rw [if_pos (.inr hb2)]
          simp only [runA, runB, runC, runD, runE, runF, fieldE, storeE, binE, ↓reduceIte, Nat.reduceLT, Nat.reduceLeDiff, Nat.reduceEqDiff, Nat.reduceAdd, Nat.reduceMul, Nat.reduceSub, reduceCtorEq, putAt, unE, Nat.reduceBEq, convE, buildE, List.replicate, Int.reduceLT, Int.reduceLE, Int.reduceToNat, mkE, mapSetE, hN, hF, ty_3, ty_5, ty_27, ty_32, notIf, isEq, g0, g1, g2, g3, k1, k2, h1, hn, z0, bn, sliceE, boundE, getC, asb, bytes_take, bytes_drop, bytes_length, Int.le_refl, Int.reduceToNat, List.drop_zero, List.take_length, Option.isSome_some, List.length_take, List.length_drop, hz]
          simp only [runB, finC, finD, Option.isSome_some, Option.isSome_none, ↓reduceIte, Nat.reduceEqDiff, Nat.reduceAdd, Nat.reduceMul, forall_eq_or_imp, forall_eq, implies_true, Nat.reduceBEq, reduceCtorEq, false_implies, List.zip_cons_cons, List.zip_nil_left, List.zip_nil_right, Nat.reduceLeDiff, List.forall_mem_nil, rs_14, ty_3, ty_5, ty_27, ty_32, bytes_length, bn]
        have g3 : decide (n > most) = false := decide_eq_false hb2
        rw [if_neg (fun h => h.elim hb1 hb2)]
        simp only [runA, runB, runC, runD, runE, runF, fieldE, storeE, binE, ↓reduceIte, Nat.reduceLT, Nat.reduceLeDiff, Nat.reduceEqDiff, Nat.reduceAdd, Nat.reduceMul, Nat.reduceSub, reduceCtorEq, putAt, unE, Nat.reduceBEq, convE, buildE, List.replicate, Int.reduceLT, Int.reduceLE, Int.reduceToNat, mkE, mapSetE, hN, hF, ty_3, ty_5, ty_27, ty_32, notIf, isEq, g0, g1, g2, g3, k1, k2, h1, hn, z0, bn, sliceE, boundE, getC, asb, bytes_take, bytes_drop, bytes_length, Int.le_refl, Int.reduceToNat, List.drop_zero, List.take_length, Option.isSome_some, List.length_take, List.length_drop, hz]
        refine drawnP_intro (by kernel_rfl) (by kernel_rfl) ?_
        simp only [runA, runB, runC, runD, runE, runF, fieldE, storeE, binE, ↓reduceIte, Nat.reduceLT, Nat.reduceLeDiff, Nat.reduceEqDiff, Nat.reduceAdd, Nat.reduceMul, Nat.reduceSub, reduceCtorEq, putAt, unE, Nat.reduceBEq, convE, buildE, List.replicate, Int.reduceLT, Int.reduceLE, Int.reduceToNat, mkE, mapSetE, hN, hF, ty_3, ty_5, ty_27, ty_32, notIf, isEq, g0, g1, g2, g3, k1, k2, h1, hn, z0, bn, sliceE, boundE, getC, asb, bytes_take, bytes_drop, bytes_length, Int.le_refl, Int.reduceToNat, List.drop_zero, List.take_length, Option.isSome_some, List.length_take, List.length_drop, hz]
        simp only [runB, finC, finD, Option.isSome_some, Option.isSome_none, ↓reduceIte, Nat.reduceEqDiff, Nat.reduceAdd, Nat.reduceMul, forall_eq_or_imp, forall_eq, implies_true, Nat.reduceBEq, reduceCtorEq, false_implies, List.zip_cons_cons, List.zip_nil_left, List.zip_nil_right, Nat.reduceLeDiff, List.forall_mem_nil, rs_14, ty_3, ty_5, ty_27, ty_32, bytes_length, bn]
      · cases hr
    · cases hr
  · cases hr

def gtS (r : RS) (most : Int) : List UInt8 × RS := if r.e = 0 then nextT ⟨r.b, 0⟩ most else ([], r)
def gtC : Contract := fun args objs => match args, objs with
  | [.agg [.c (.sl rows), .c (.int .i64 e)], .c (.int .i64 most)], [] => match asB rows with
    | some b => if b.length ≤ 9223372036854775807 then some ⟨[.pv (.c (.str (gtS ⟨b, e⟩ most).1)), .pv (.agg [.c (.sl (bytes (gtS ⟨b, e⟩ most).2.b)), .c (.int .i64 (gtS ⟨b, e⟩ most).2.e)])], []⟩ else none
    | none => none
  | _, _ => none
theorem gt_at (b : List UInt8) (e most : Int) (h : b.length ≤ 9223372036854775807) : gtC [.agg [.c (.sl (bytes b)), .c (.int .i64 e)], .c (.int .i64 most)] [] = some ⟨[.pv (.c (.str (gtS ⟨b, e⟩ most).1)), .pv (.agg [.c (.sl (bytes (gtS ⟨b, e⟩ most).2.b)), .c (.int .i64 (gtS ⟨b, e⟩ most).2.e)])], []⟩ := by
  simp only [gtC, asB_bytes, if_pos h]
set_option maxRecDepth 100000 in
set_option maxHeartbeats 8000000 in
theorem gt_sound (hΓ : SoundG Try.prog Γ) (h1 : Γ 51 = getC) : SoundC Try.prog 16 gtC := by
  refine sound_fn Try.func16 (by kernel_rfl) rfl rfl ?_
  intro args objs r hr
  unfold gtC at hr
  split at hr
  · split at hr
    · rename_i rows e most _ b hb
      split at hr
      · rename_i hc
        obtain rfl := asB_inv hb
        cases hr
        refine ⟨rfl, by show 2 ≤ _; decide, fun E hN hns hF => ?_⟩
        refine vc_sound hΓ mixed _ _ _ ?_
        have hN := hN.trans nt_16
        have hz := rowsOK_bytes
        have asb := asB_bytes
        have bn : bytes [] = [] := rfl
        have z0 : ((0 : Nat) : Int) = 0 := rfl
        by_cases he : e = 0
        case neg =>
          have g0 : (e != 0) = true := by simpa using he
          rw [show gtS ⟨b, e⟩ most = ([], ⟨b, e⟩) from if_neg he]
          simp only [runA, runB, runC, runD, runE, runF, fieldE, storeE, binE, ↓reduceIte, Nat.reduceLT, Nat.reduceLeDiff, Nat.reduceEqDiff, Nat.reduceAdd, Nat.reduceMul, Nat.reduceSub, reduceCtorEq, putAt, unE, Nat.reduceBEq, convE, buildE, List.replicate, Int.reduceLT, Int.reduceLE, Int.reduceToNat, mkE, mapSetE, hN, hF, ty_3, ty_5, ty_9, ty_27, ty_32, notIf, isEq, g0, bytes_length]
          refine drawnP_intro (by kernel_rfl) (by kernel_rfl) ?_
          simp only [runA, runB, runC, runD, runE, runF, fieldE, storeE, binE, ↓reduceIte, Nat.reduceLT, Nat.reduceLeDiff, Nat.reduceEqDiff, Nat.reduceAdd, Nat.reduceMul, Nat.reduceSub, reduceCtorEq, putAt, unE, Nat.reduceBEq, convE, buildE, List.replicate, Int.reduceLT, Int.reduceLE, Int.reduceToNat, mkE, mapSetE, hN, hF, ty_3, ty_5, ty_9, ty_27, ty_32, notIf, isEq, g0, bytes_length, bn]
          simp only [runB, finC, finD, Option.isSome_some, Option.isSome_none, ↓reduceIte, Nat.reduceEqDiff, Nat.reduceAdd, Nat.reduceMul, forall_eq_or_imp, forall_eq, implies_true, Nat.reduceBEq, reduceCtorEq, false_implies, List.zip_cons_cons, List.zip_nil_left, List.zip_nil_right, Nat.reduceLeDiff, List.forall_mem_nil, rs_16, ty_3, ty_5, ty_9, ty_27, ty_32, bytes_length, bn]
        subst he
        rw [show gtS ⟨b, 0⟩ most = nextT ⟨b, 0⟩ most from if_pos rfl]
        have g0 : ((0 : Int) != 0) = false := rfl
        unfold nextT
        dsimp only
        by_cases h6 : b.length < 2
        · have g1 : decide ((b.length : Int) < 2) = true := decide_eq_true (by omega)
          rw [if_pos h6]
          simp only [runA, runB, runC, runD, runE, runF, fieldE, storeE, binE, ↓reduceIte, Nat.reduceLT, Nat.reduceLeDiff, Nat.reduceEqDiff, Nat.reduceAdd, Nat.reduceMul, Nat.reduceSub, reduceCtorEq, putAt, unE, Nat.reduceBEq, convE, buildE, List.replicate, Int.reduceLT, Int.reduceLE, Int.reduceToNat, mkE, mapSetE, hN, hF, ty_3, ty_5, ty_9, ty_27, ty_32, notIf, isEq, g0, g1, bytes_length, bn]
          simp only [runB, finC, finD, Option.isSome_some, Option.isSome_none, ↓reduceIte, Nat.reduceEqDiff, Nat.reduceAdd, Nat.reduceMul, forall_eq_or_imp, forall_eq, implies_true, Nat.reduceBEq, reduceCtorEq, false_implies, List.zip_cons_cons, List.zip_nil_left, List.zip_nil_right, Nat.reduceLeDiff, List.forall_mem_nil, rs_16, ty_3, ty_5, ty_9, ty_27, ty_32, bytes_length, bn]
        have g1 : decide ((b.length : Int) < 2) = false := decide_eq_false (by omega)
        have k1 : ((2 : Int) ≤ (b.length : Int)) = True := eq_true (by omega)
        have k2 : (min 2 b.length ≤ 9223372036854775807) = True := eq_true (by omega)
        rw [if_neg h6]
        have hn0 := getB_nonneg (b.take 2)
        generalize hn : getB (b.take 2) = n at hn0
        by_cases hb1 : 4096 < n
        · have g2 : decide (n > 4096) = true := decide_eq_true hb1
          rw [if_pos (.inl hb1)]
          simp only [runA, runB, runC, runD, runE, runF, fieldE, storeE, binE, ↓reduceIte, Nat.reduceLT, Nat.reduceLeDiff, Nat.reduceEqDiff, Nat.reduceAdd, Nat.reduceMul, Nat.reduceSub, reduceCtorEq, putAt, unE, Nat.reduceBEq, convE, buildE, List.replicate, Int.reduceLT, Int.reduceLE, Int.reduceToNat, mkE, mapSetE, hN, hF, ty_3, ty_5, ty_9, ty_27, ty_32, notIf, isEq, g0, g1, g2, k1, k2, h1, hn, z0, bn, sliceE, boundE, getC, asb, bytes_take, bytes_drop, bytes_length, Int.le_refl, Int.reduceToNat, List.drop_zero, List.take_length, Option.isSome_some, List.length_take, List.length_drop, hz]
          simp only [runB, finC, finD, Option.isSome_some, Option.isSome_none, ↓reduceIte, Nat.reduceEqDiff, Nat.reduceAdd, Nat.reduceMul, forall_eq_or_imp, forall_eq, implies_true, Nat.reduceBEq, reduceCtorEq, false_implies, List.zip_cons_cons, List.zip_nil_left, List.zip_nil_right, Nat.reduceLeDiff, List.forall_mem_nil, rs_16, ty_3, ty_5, ty_9, ty_27, ty_32, bytes_length, bn]
        have g2 : decide (n > 4096) = false := decide_eq_false hb1
        by_cases hb2 : most < n
        · have g3 : decide (n > most) = true := decide_eq_true hb2
          rw [if_pos (.inr hb2)]
          simp only [runA, runB, runC, runD, runE, runF, fieldE, storeE, binE, ↓reduceIte, Nat.reduceLT, Nat.reduceLeDiff, Nat.reduceEqDiff, Nat.reduceAdd, Nat.reduceMul, Nat.reduceSub, reduceCtorEq, putAt, unE, Nat.reduceBEq, convE, buildE, List.replicate, Int.reduceLT, Int.reduceLE, Int.reduceToNat, mkE, mapSetE, hN, hF, ty_3, ty_5, ty_9, ty_27, ty_32, notIf, isEq, g0, g1, g2, g3, k1, k2, h1, hn, z0, bn, sliceE, boundE, getC, asb, bytes_take, bytes_drop, bytes_length, Int.le_refl, Int.reduceToNat, List.drop_zero, List.take_length, Option.isSome_some, List.length_take, List.length_drop, hz]
          simp only [runB, finC, finD, Option.isSome_some, Option.isSome_none, ↓reduceIte, Nat.reduceEqDiff, Nat.reduceAdd, Nat.reduceMul, forall_eq_or_imp, forall_eq, implies_true, Nat.reduceBEq, reduceCtorEq, false_implies, List.zip_cons_cons, List.zip_nil_left, List.zip_nil_right, Nat.reduceLeDiff, List.forall_mem_nil, rs_16, ty_3, ty_5, ty_9, ty_27, ty_32, bytes_length, bn]
        have g3 : decide (n > most) = false := decide_eq_false hb2
        rw [if_neg (fun h => h.elim hb1 hb2)]
        have e1 : IntKind.i64.wrap (2 + n) = 2 + n := wrapI (by omega)
        unfold tookR
        dsimp only
        rw [List.length_drop]
        by_cases hs : b.length - 2 < n.toNat
        · have g4 : decide ((b.length : Int) < 2 + n) = true := decide_eq_true (by omega)
          rw [if_pos hs]
          simp only [runA, runB, runC, runD, runE, runF, fieldE, storeE, binE, ↓reduceIte, Nat.reduceLT, Nat.reduceLeDiff, Nat.reduceEqDiff, Nat.reduceAdd, Nat.reduceMul, Nat.reduceSub, reduceCtorEq, putAt, unE, Nat.reduceBEq, convE, buildE, List.replicate, Int.reduceLT, Int.reduceLE, Int.reduceToNat, mkE, mapSetE, hN, hF, ty_3, ty_5, ty_9, ty_27, ty_32, notIf, isEq, g0, g1, g2, g3, g4, e1, k1, k2, h1, hn, z0, bn, sliceE, boundE, getC, asb, bytes_take, bytes_drop, bytes_length, Int.le_refl, Int.reduceToNat, List.drop_zero, List.take_length, Option.isSome_some, List.length_take, List.length_drop, hz]
          simp only [runB, finC, finD, Option.isSome_some, Option.isSome_none, ↓reduceIte, Nat.reduceEqDiff, Nat.reduceAdd, Nat.reduceMul, forall_eq_or_imp, forall_eq, implies_true, Nat.reduceBEq, reduceCtorEq, false_implies, List.zip_cons_cons, List.zip_nil_left, List.zip_nil_right, Nat.reduceLeDiff, List.forall_mem_nil, rs_16, ty_3, ty_5, ty_9, ty_27, ty_32, bytes_length, bn]
        have g4 : decide ((b.length : Int) < 2 + n) = false := decide_eq_false (by omega)
        have k3 : ((2 : Int) ≤ 2 + n) = True := eq_true (by omega)
        have k4 : (2 + n ≤ (b.length : Int)) = True := eq_true (by omega)
        have k5 : ((0 : Int) ≤ 2 + n) = True := eq_true (by omega)
        have t1 : (2 + n).toNat = 2 + n.toNat := by omega
        have t2 : (b.take (2 + n.toNat)).drop 2 = (b.drop 2).take n.toNat := by rw [List.drop_take, show 2 + n.toNat - 2 = n.toNat by omega]
        have t3 : b.drop (2 + n.toNat) = (b.drop 2).drop n.toNat := by rw [List.drop_drop]
        rw [if_neg hs, ← t2, ← t3]
        simp only [runA, runB, runC, runD, runE, runF, fieldE, storeE, binE, ↓reduceIte, Nat.reduceLT, Nat.reduceLeDiff, Nat.reduceEqDiff, Nat.reduceAdd, Nat.reduceMul, Nat.reduceSub, reduceCtorEq, putAt, unE, Nat.reduceBEq, convE, buildE, List.replicate, Int.reduceLT, Int.reduceLE, Int.reduceToNat, mkE, mapSetE, hN, hF, ty_3, ty_5, ty_9, ty_27, ty_32, notIf, isEq, g0, g1, g2, g3, g4, e1, k1, k2, k3, k4, k5, t1, h1, hn, bytesOf_bytes, z0, bn, sliceE, boundE, getC, asb, bytes_take, bytes_drop, bytes_length, Int.le_refl, Int.reduceToNat, List.drop_zero, List.take_length, Option.isSome_some, List.length_take, List.length_drop, hz]
        refine drawnP_intro (by kernel_rfl) (by kernel_rfl) ?_
        simp only [runA, runB, runC, runD, runE, runF, fieldE, storeE, binE, ↓reduceIte, Nat.reduceLT, Nat.reduceLeDiff, Nat.reduceEqDiff, Nat.reduceAdd, Nat.reduceMul, Nat.reduceSub, reduceCtorEq, putAt, unE, Nat.reduceBEq, convE, buildE, List.replicate, Int.reduceLT, Int.reduceLE, Int.reduceToNat, mkE, mapSetE, hN, hF, ty_3, ty_5, ty_9, ty_27, ty_32, notIf, isEq, g0, g1, g2, g3, g4, e1, k1, k2, k3, k4, k5, t1, h1, hn, bytesOf_bytes, z0, bn, sliceE, boundE, getC, asb, bytes_take, bytes_drop, bytes_length, Int.le_refl, Int.reduceToNat, List.drop_zero, List.take_length, Option.isSome_some, List.length_take, List.length_drop, hz]
        simp only [runB, finC, finD, Option.isSome_some, Option.isSome_none, ↓reduceIte, Nat.reduceEqDiff, Nat.reduceAdd, Nat.reduceMul, forall_eq_or_imp, forall_eq, implies_true, Nat.reduceBEq, reduceCtorEq, false_implies, List.zip_cons_cons, List.zip_nil_left, List.zip_nil_right, Nat.reduceLeDiff, List.forall_mem_nil, rs_16, ty_3, ty_5, ty_9, ty_27, ty_32, bytes_length, bn]
      · cases hr
    · cases hr
  · cases hr


variable {Γ : FuncId → Contract}

def numEC : Contract := fun args objs => match args, objs with | [.c (.int .i64 e)], [] => some ⟨[.pv (.c (.int .i64 e))], []⟩ | _, _ => none
def trueC : Contract := fun args objs => match args, objs with | [], [] => some ⟨[.pv (.c (.bool true))], []⟩ | _, _ => none

set_option maxHeartbeats 4000000 in
theorem alive_sound (hΓ : SoundG Try.prog Γ) (h1 : Γ 47 = newC) (h2 : Γ 48 = numC) (h3 : Γ 49 = doneC) (h4 : Γ 18 = numEC) : SoundC Try.prog 12 trueC := by
  refine sound_fn Try.func12 (by kernel_rfl) rfl rfl ?_
  intro args objs r hr
  unfold trueC at hr
  split at hr
  · cases hr
    refine ⟨rfl, by show 0 ≤ _; decide, fun E hN hns hF => ?_⟩
    refine vc_sound hΓ mixed _ _ _ ?_
    have hN := hN.trans nt_12
    have ha : asB (bytes []) = some [] := rfl
    have e1 : wNum ⟨[], 0⟩ 1 = ⟨[0, 0, 0, 0, 0, 1], 0⟩ := by decide +kernel
    have e2 : doneR ⟨[0, 0, 0, 0, 0, 1], 0⟩ = ([0, 0, 0, 0, 0, 1], 0) := by decide +kernel
    have e3 : bytesOf (bytes [0, 0, 0, 0, 0, 1]) = some [0, 0, 0, 0, 0, 1] := bytesOf_bytes _
    simp only [runA, runB, runC, runD, runE, runF, fieldE, storeE, binE, ↓reduceIte, Nat.reduceLT, Nat.reduceLeDiff, Nat.reduceEqDiff, Nat.reduceAdd, Nat.reduceMul, Nat.reduceSub, reduceCtorEq, putAt, unE, Nat.reduceBEq, convE, buildE, List.replicate, Int.reduceLT, Int.reduceLE, Int.reduceToNat, mkE, mapSetE, hN, hF, ty_3, ty_4, ty_5, ty_9, ty_27, ty_42, ty_98, notIf, isEq, h1, h2, h3, h4, newC, numC, doneC, numEC, asB_bytes, e1, e2, e3, bytes_length]
    simp only [runB, finC, finD, Option.isSome_some, Option.isSome_none, ↓reduceIte, Nat.reduceEqDiff, Nat.reduceAdd, Nat.reduceMul, forall_eq_or_imp, forall_eq, implies_true, Nat.reduceBEq, reduceCtorEq, false_implies, List.zip_cons_cons, List.zip_nil_left, List.zip_nil_right, Nat.reduceLeDiff, List.forall_mem_nil, rs_12]
  · cases hr


structure Fd where
  k : Int
  n : Int
  s : List UInt8
def Fd.pcs (f : Fd) : List PC := [.int .i64 f.k, .int .i64 f.n, .str f.s]
def frows (l : List Fd) : List (List PC) := l.map Fd.pcs
theorem frows_length (l : List Fd) : (frows l).length = l.length := by simp [frows]
theorem frowsD (l : List Fd) (i : Nat) (h : i < l.length) : ∃ k n s, (frows l)[i]? = some [.int .i64 k, .int .i64 n, .str s] := ⟨l[i].k, l[i].n, l[i].s, by simp [frows, h, Fd.pcs]⟩
def cellU (us : List Int) : List AV := (us.map (PC.int .u8)).map AV.c
theorem cellU_length (us : List Int) : (cellU us).length = us.length := by simp [cellU]
theorem cellU_get {us : List Int} {i : Nat} (h : i < us.length) : (cellU us)[i]? = some (.c (.int .u8 (us.getD i 0))) := by simp [cellU, List.getD, h]
theorem cellU_put {us : List Int} {i : Nat} (w : Int) (h : i < us.length) : putAt (cellU us) i [.c (.int .u8 w)] = cellU (us.set i w) := by
  unfold cellU putAt
  simp only [List.map_set, List.length_cons, List.length_nil, Nat.zero_add]
  rw [List.set_eq_take_append_cons_drop, if_pos (by simpa using h)]
  simp
theorem cellU_amds (ρ : Ren) (us : List Int) : AMds ρ (cellU us) (cellU us) := c_amds ρ _
theorem cellU_start (b : List UInt8) : (bytes b).flatten.map AV.c = cellU (b.map fun x => (x.toNat : Int)) := by
  unfold cellU
  rw [bytes_flat, List.map_map, List.map_map, List.map_map]
  rfl
/-- A reader's state is as the document's. -/
def OKr (N : Nat) (s : RS) : Prop := s.b.length ≤ N ∧ (s.e ≠ 0 → s.b = [])
theorem nextN_ok {N : Nat} (b : List UInt8) (m : Int) (h : b.length ≤ N) : OKr N (nextN ⟨b, 0⟩ m).2 := by
  unfold nextN
  split
  · exact ⟨by simp, fun _ => rfl⟩
  · split
    · exact ⟨by simp, fun _ => rfl⟩
    · exact ⟨by simp; omega, fun h => (h rfl).elim⟩
theorem nextT_ok {N : Nat} (b : List UInt8) (m : Int) (h : b.length ≤ N) : OKr N (nextT ⟨b, 0⟩ m).2 := by
  unfold nextT
  split
  · exact ⟨by simp, fun _ => rfl⟩
  · split
    · exact ⟨by simp, fun _ => rfl⟩
    · unfold tookR
      split
      · exact ⟨by simp, fun _ => rfl⟩
      · exact ⟨by simp; omega, fun h => (h rfl).elim⟩
theorem gnS_ok {N : Nat} {s : RS} (m : Int) (h : OKr N s) : OKr N (gnS s m).2 := by
  unfold gnS
  split
  · exact nextN_ok s.b m h.1
  · exact h
theorem gtS_ok {N : Nat} {s : RS} (m : Int) (h : OKr N s) : OKr N (gtS s m).2 := by
  unfold gtS
  split
  · exact nextT_ok s.b m h.1
  · exact h
theorem rdNum_p (b : List UInt8) (e m : Int) (h : b.length ≤ 9223372036854775807) : rdNumC [.ptr 6400000 0, .c (.int .i64 m)] [[.c (.sl (bytes b)), .c (.int .i64 e), .c (.bool true)]] = some ⟨[.pv (.c (.int .i64 (gnS ⟨b, e⟩ m).1))], [[.c (.sl (bytes (gnS ⟨b, e⟩ m).2.b)), .c (.int .i64 (gnS ⟨b, e⟩ m).2.e), .c (.bool true)]]⟩ := by
  unfold gnS
  by_cases he : e = 0
  · simp [rdNumC, asB_bytes, inObj, h, he]
  · simp [rdNumC, asB_bytes, inObj, h, he]
theorem rdText_p (b : List UInt8) (e m : Int) (h : b.length ≤ 9223372036854775807) : rdTextC [.ptr 6400000 0, .c (.int .i64 m)] [[.c (.sl (bytes b)), .c (.int .i64 e), .c (.bool true)]] = some ⟨[.pv (.c (.str (gtS ⟨b, e⟩ m).1))], [[.c (.sl (bytes (gtS ⟨b, e⟩ m).2.b)), .c (.int .i64 (gtS ⟨b, e⟩ m).2.e), .c (.bool true)]]⟩ := by
  unfold gtS
  by_cases he : e = 0
  · simp [rdTextC, asB_bytes, inObj, h, he]
  · simp [rdTextC, asB_bytes, inObj, h, he]
theorem err_p (b : List UInt8) (e : Int) : errC [.ptr 6400000 0] [[.c (.sl (bytes b)), .c (.int .i64 e), .c (.bool true)]] = some ⟨[.pv (.c (.int .i64 e))], [[.c (.sl (bytes b)), .c (.int .i64 e), .c (.bool true)]]⟩ := by
  simp [errC, inObj]
theorem left_p {N : Nat} (b : List UInt8) (e : Int) (h : OKr N ⟨b, e⟩) : leftC [.ptr 6400000 0] [[.c (.sl (bytes b)), .c (.int .i64 e), .c (.bool true)]] = some ⟨[.pv (.c (.int .i64 (b.length : Int)))], [[.c (.sl (bytes b)), .c (.int .i64 e), .c (.bool true)]]⟩ := by
  by_cases he : e = 0
  · simp [leftC, inObj, he, bytes_length]
  · have hb : b = [] := h.2 he
    simp [leftC, inObj, he, hb]
theorem numE_p (e : Int) : numEC [.c (.int .i64 e)] [] = some ⟨[.pv (.c (.int .i64 e))], []⟩ := rfl
theorem true_p : trueC [] [] = some ⟨[.pv (.c (.bool true))], []⟩ := rfl
noncomputable def readsMC : Contract := mkC (α := List UInt8 × List Fd) (fun p => (0 < p.1.length ∧ p.1.length ≤ 140737488355328) ∧ p.2.length ≤ 9223372036854775807) (fun p => [.c (.sl (bytes p.1)), .c (.sl (frows p.2))]) (fun _ => []) (fun _ => ⟨[.pv (.c (.bool true))], []⟩)

set_option maxRecDepth 100000 in
set_option maxHeartbeats 4000000 in
theorem readsM_sound (hΓ : SoundG Try.prog Γ) (h1 : Γ 12 = trueC) (h2 : Γ 13 = orC openC openMC) (h3 : Γ 14 = gnC) (h4 : Γ 16 = gtC) (h5 : Γ 15 = rdNumC) (h6 : Γ 17 = rdTextC) (h7 : Γ 19 = errC) (h8 : Γ 20 = leftC) (h9 : Γ 18 = numEC) : SoundC Try.prog 4 readsMC := by
  refine sound_fnA ⟨[14], []⟩ Try.func4 (by kernel_rfl) rfl rfl ?_
  intro args objs r0 hr
  obtain ⟨⟨b, l⟩, ⟨hb, hl⟩, rfl, rfl, rfl⟩ := mkC_inv hr
  refine ⟨rfl, by show 2 ≤ _; decide, fun E hN hns hF => ?_⟩
  refine vc_sound hΓ mixed _ _ _ ?_
  have hN := hN.trans nt_4
  have hl : l.length ≤ 9223372036854775807 := hl
  have hb : (0 < b.length ∧ b.length ≤ 140737488355328) := hb
  have nt1 : (!true) = false := rfl
  have ntf : (!false) = true := rfl
  have z0 : ((0 : Nat) : Int) = 0 := rfl
  have hz := rowsOK_bytes
  have q1 := true_p
  have q2 := orOpenM_at b hb
  have hbl : b.length ≤ 140737488355328 := by omega
  have k1 : (b.length ≤ 140737488355328) = True := eq_true hbl
  have hp : decide (0 < b.length) = true := decide_eq_true hb.1
  simp only [runA, runB, runC, runD, runE, runF, fieldE, storeE, binE, ↓reduceIte, Nat.reduceLT, Nat.reduceLeDiff, Nat.reduceEqDiff, Nat.reduceAdd, Nat.reduceMul, Nat.reduceSub, reduceCtorEq, putAt, unE, Nat.reduceBEq, convE, buildE, List.replicate, Int.reduceLT, Int.reduceLE, Int.reduceToNat, mkE, mapSetE, hN, hF, ty_3, ty_4, ty_5, ty_9, ty_27, ty_28, ty_29, ty_32, ty_34, ty_42, notIf, isEq, nt1, ntf, z0, hz, bytes_length, frows_length, h1, h2, q1, q2, k1, hp, appendM, newLooseE, c_At, c_E, c_back]
  refine AWP.loop (fun k st => ∃ (j : Nat) (us : List Int), us.length = b.length ∧ j ≤ b.length ∧ k = b.length - j ∧ st = ⟨[(0, .c (.sl (bytes b))), (1, .c (.sl (frows l))), (5, .msl 1024 0 b.length false), (6, .ptr 1154 0), (7, .c (.int .i64 (j : Int)))], [(1154, .obj [.c (.sl (bytes b)), .c (.int .i64 0), .c (.bool true)] false), (1024, .obj (cellU us) false)]⟩) ⟨b.length, _, ?w, 0, b.map (fun x => (x.toNat : Int)), by simp, Nat.zero_le _, rfl, rfl⟩ ?r
  case w =>
    rw [hns]
    simp only [runB, finC, finD, AS.get, AS.mem, false_implies, implies_true, ↓reduceIte, Nat.reduceEqDiff, Option.isSome_some, Option.isSome_none, forall_eq_or_imp, forall_eq, reduceCtorEq, Nat.reduceAdd, Nat.reduceMul, List.zip_cons_cons, List.zip_nil_left, List.zip_nil_right, List.forall_mem_nil, cellU_start, cellU_amds]
    first | done | simp
  case r =>
    rintro k st ⟨j, us, hus, hj, rfl, rfl⟩
    refine vc_sound hΓ mixed _ _ _ ?_
    by_cases hjl : j < b.length
    · have g1 : decide ((j : Int) < (b.length : Int)) = true := decide_eq_true (by omega)
      have k2 : ((j : Int) < (b.length : Int)) = True := eq_true (by omega)
      have k3 : (j + 1 ≤ b.length) = True := eq_true hjl
      have e1 : IntKind.i64.wrap ((j : Int) + 1) = (j : Int) + 1 := wrapI (by omega)
      have hcl := cellU_length us
      rw [hus] at hcl
      have hc := cellU_get (us := us) (i := j) (by omega)
      generalize us.getD j 0 = u0 at hc
      obtain ⟨w0, hw0⟩ : ∃ w0, IntKind.u8.wrap (u0 + 1) = w0 := ⟨_, rfl⟩
      have hp := cellU_put (us := us) (i := j) w0 (by omega)
      simp only [runA, runB, runC, runD, runE, runF, fieldE, storeE, binE, ↓reduceIte, Nat.reduceLT, Nat.reduceLeDiff, Nat.reduceEqDiff, Nat.reduceAdd, Nat.reduceMul, Nat.reduceSub, reduceCtorEq, unE, Nat.reduceBEq, convE, buildE, List.replicate, Int.reduceLT, Int.reduceLE, Int.reduceToNat, mkE, mapSetE, hN, hF, ty_3, ty_4, ty_5, ty_9, ty_27, ty_28, ty_29, ty_32, ty_34, ty_42, notIf, isEq, nt1, ntf, z0, hz, bytes_length, frows_length, g1, k2, k3, e1, hcl, hc, hw0, hp]
      refine ⟨b.length - (j + 1), _, by omega, ?_, j + 1, us.set j w0, by simpa using hus, hjl, rfl, rfl⟩
      rw [hns]
      simp only [runB, finC, finD, AS.get, AS.mem, false_implies, implies_true, ↓reduceIte, Nat.reduceEqDiff, Option.isSome_some, Option.isSome_none, forall_eq_or_imp, forall_eq, reduceCtorEq, Nat.reduceAdd, Nat.reduceMul, List.zip_cons_cons, List.zip_nil_left, List.zip_nil_right, List.forall_mem_nil, cellU_amds]
      first | done | simp
    obtain rfl : j = b.length := by omega
    have gE : decide (((b.length : Nat) : Int) < (b.length : Int)) = false := decide_eq_false (by omega)
    simp only [runA, runB, runC, runD, runE, runF, fieldE, storeE, binE, ↓reduceIte, Nat.reduceLT, Nat.reduceLeDiff, Nat.reduceEqDiff, Nat.reduceAdd, Nat.reduceMul, Nat.reduceSub, reduceCtorEq, putAt, unE, Nat.reduceBEq, convE, buildE, List.replicate, Int.reduceLT, Int.reduceLE, Int.reduceToNat, mkE, mapSetE, hN, hF, ty_3, ty_4, ty_5, ty_9, ty_27, ty_28, ty_29, ty_32, ty_34, ty_42, notIf, isEq, nt1, ntf, z0, hz, bytes_length, frows_length, gE]
    refine AWP.loop (fun k st => ∃ (i : Nat) (s : RS), i ≤ l.length ∧ k = l.length - i ∧ OKr b.length s ∧ st = ⟨[(1, .c (.sl (frows l))), (6, .ptr 1154 0), (8, .ptr 512 0), (9, .c (.int .i64 (i : Int)))], [(1154, .obj [.c (.sl (bytes s.b)), .c (.int .i64 s.e), .c (.bool true)] false), (512, .obj [.c (.sl (bytes s.b)), .c (.int .i64 s.e)] false)]⟩) ⟨l.length, _, ?w2, 0, ⟨b, 0⟩, Nat.zero_le _, rfl, ⟨Nat.le_refl _, fun h => (h rfl).elim⟩, rfl⟩ ?r2
    case w2 =>
      rw [hns]
      simp only [runB, finC, finD, AS.get, AS.mem, false_implies, implies_true, ↓reduceIte, Nat.reduceEqDiff, Option.isSome_some, Option.isSome_none, forall_eq_or_imp, forall_eq, reduceCtorEq, Nat.reduceAdd, Nat.reduceMul, List.zip_cons_cons, List.zip_nil_left, List.zip_nil_right, List.forall_mem_nil, c_At, c_amds, cellU_amds]
      first | done | simp
    case r2 =>
      rintro k st ⟨i, ⟨sb, se⟩, hi, rfl, hs, rfl⟩
      refine vc_sound hΓ mixed _ _ _ ?_
      have hsl : sb.length ≤ 9223372036854775807 := by have := hs.1; dsimp only at this; omega
      by_cases hlt : i < l.length
      case neg =>
        have g1 : decide ((i : Int) < (l.length : Int)) = false := decide_eq_false (by omega)
        simp only [runA, runB, runC, runD, runE, runF, fieldE, storeE, binE, ↓reduceIte, Nat.reduceLT, Nat.reduceLeDiff, Nat.reduceEqDiff, Nat.reduceAdd, Nat.reduceMul, Nat.reduceSub, reduceCtorEq, putAt, unE, Nat.reduceBEq, convE, buildE, List.replicate, Int.reduceLT, Int.reduceLE, Int.reduceToNat, mkE, mapSetE, hN, hF, ty_3, ty_4, ty_5, ty_9, ty_27, ty_28, ty_29, ty_32, ty_34, ty_42, notIf, isEq, nt1, ntf, z0, hz, bytes_length, frows_length, g1]
        simp only [runB, finC, finD, Option.isSome_some, Option.isSome_none, ↓reduceIte, Nat.reduceEqDiff, Nat.reduceAdd, Nat.reduceMul, forall_eq_or_imp, forall_eq, implies_true, Nat.reduceBEq, reduceCtorEq, false_implies, List.zip_cons_cons, List.zip_nil_left, List.zip_nil_right, Nat.reduceLeDiff, List.forall_mem_nil, rs_4, ty_3, ty_4, ty_5, ty_9, ty_27, ty_28, ty_29, ty_32, ty_34, ty_42]
      have g1 : decide ((i : Int) < (l.length : Int)) = true := decide_eq_true (by omega)
      by_cases h40 : i < 40
      case neg =>
        have g2 : decide ((i : Int) < 40) = false := decide_eq_false (by omega)
        simp only [runA, runB, runC, runD, runE, runF, fieldE, storeE, binE, ↓reduceIte, Nat.reduceLT, Nat.reduceLeDiff, Nat.reduceEqDiff, Nat.reduceAdd, Nat.reduceMul, Nat.reduceSub, reduceCtorEq, putAt, unE, Nat.reduceBEq, convE, buildE, List.replicate, Int.reduceLT, Int.reduceLE, Int.reduceToNat, mkE, mapSetE, hN, hF, ty_3, ty_4, ty_5, ty_9, ty_27, ty_28, ty_29, ty_32, ty_34, ty_42, notIf, isEq, nt1, ntf, z0, hz, bytes_length, frows_length, g1, g2]
        simp only [runB, finC, finD, Option.isSome_some, Option.isSome_none, ↓reduceIte, Nat.reduceEqDiff, Nat.reduceAdd, Nat.reduceMul, forall_eq_or_imp, forall_eq, implies_true, Nat.reduceBEq, reduceCtorEq, false_implies, List.zip_cons_cons, List.zip_nil_left, List.zip_nil_right, Nat.reduceLeDiff, List.forall_mem_nil, rs_4, ty_3, ty_4, ty_5, ty_9, ty_27, ty_28, ty_29, ty_32, ty_34, ty_42]
      have g2 : decide ((i : Int) < 40) = true := decide_eq_true (by omega)
      have e1 : IntKind.i64.wrap ((i : Int) + 1) = (i : Int) + 1 := wrapI (by omega)
      obtain ⟨fk, fnn, fs, hf⟩ := frowsD l i hlt
      by_cases hk : fk = 0
      · have g3 : (fk == 0) = true := by simpa using hk
        have q3 := gn_at sb se fnn hsl
        have q5 := rdNum_p sb se fnn hsl
        have hs' := gnS_ok fnn hs
        generalize gnS ⟨sb, se⟩ fnn = G at q3 q5 hs'
        obtain ⟨v, ⟨sb', se'⟩⟩ := G
        dsimp only at q3 q5 hs'
        have q7 := err_p sb' se'
        have q8 := left_p sb' se' hs'
        have q9 := numE_p se'
        have n1 : (v != v) = false := bne_self_eq_false' _
        have n2 : (se' != se') = false := bne_self_eq_false' _
        have n3 : ((sb'.length : Int) != (sb'.length : Int)) = false := bne_self_eq_false' _
        simp only [runA, runB, runC, runD, runE, runF, fieldE, storeE, binE, ↓reduceIte, Nat.reduceLT, Nat.reduceLeDiff, Nat.reduceEqDiff, Nat.reduceAdd, Nat.reduceMul, Nat.reduceSub, reduceCtorEq, putAt, unE, Nat.reduceBEq, convE, buildE, List.replicate, Int.reduceLT, Int.reduceLE, Int.reduceToNat, mkE, mapSetE, hN, hF, ty_3, ty_4, ty_5, ty_9, ty_27, ty_28, ty_29, ty_32, ty_34, ty_42, notIf, isEq, nt1, ntf, z0, hz, bytes_length, frows_length, g1, g2, g3, e1, hf, h3, h5, h7, h8, h9, q3, q5, q7, q8, q9, n1, n2, n3]
        iterate 3 (try (refine drawnP_intro (by kernel_rfl) (by kernel_rfl) ?_; simp only [runA, runB, runC, runD, runE, runF, fieldE, storeE, binE, ↓reduceIte, Nat.reduceLT, Nat.reduceLeDiff, Nat.reduceEqDiff, Nat.reduceAdd, Nat.reduceMul, Nat.reduceSub, reduceCtorEq, putAt, unE, Nat.reduceBEq, convE, buildE, List.replicate, Int.reduceLT, Int.reduceLE, Int.reduceToNat, mkE, mapSetE, hN, hF, ty_3, ty_4, ty_5, ty_9, ty_27, ty_28, ty_29, ty_32, ty_34, ty_42, notIf, isEq, nt1, ntf, z0, hz, bytes_length, frows_length, g1, g2, g3, e1, hf, h3, h5, h7, h8, h9, q3, q5, q7, q8, q9, n1, n2, n3]))
        refine ⟨l.length - (i + 1), _, by omega, ?_, i + 1, ⟨sb', se'⟩, hlt, rfl, hs', rfl⟩
        rw [hns]
        simp only [runB, finC, finD, AS.get, AS.mem, false_implies, implies_true, ↓reduceIte, Nat.reduceEqDiff, Option.isSome_some, Option.isSome_none, forall_eq_or_imp, forall_eq, reduceCtorEq, Nat.reduceAdd, Nat.reduceMul, List.zip_cons_cons, List.zip_nil_left, List.zip_nil_right, List.forall_mem_nil, c_At, c_amds]
        first | done | simp
      · have g3 : (fk == 0) = false := by simpa using hk
        have q3 := gt_at sb se fnn hsl
        have q5 := rdText_p sb se fnn hsl
        have hs' := gtS_ok fnn hs
        generalize gtS ⟨sb, se⟩ fnn = G at q3 q5 hs'
        obtain ⟨v, ⟨sb', se'⟩⟩ := G
        dsimp only at q3 q5 hs'
        have q7 := err_p sb' se'
        have q8 := left_p sb' se' hs'
        have q9 := numE_p se'
        have n1 : (v == v) = true := beq_self_eq_true v
        have n2 : (se' != se') = false := bne_self_eq_false' _
        have n3 : ((sb'.length : Int) != (sb'.length : Int)) = false := bne_self_eq_false' _
        simp only [runA, runB, runC, runD, runE, runF, fieldE, storeE, binE, ↓reduceIte, Nat.reduceLT, Nat.reduceLeDiff, Nat.reduceEqDiff, Nat.reduceAdd, Nat.reduceMul, Nat.reduceSub, reduceCtorEq, putAt, unE, Nat.reduceBEq, convE, buildE, List.replicate, Int.reduceLT, Int.reduceLE, Int.reduceToNat, mkE, mapSetE, hN, hF, ty_3, ty_4, ty_5, ty_9, ty_27, ty_28, ty_29, ty_32, ty_34, ty_42, notIf, isEq, nt1, ntf, z0, hz, bytes_length, frows_length, g1, g2, g3, e1, hf, h4, h6, h7, h8, h9, q3, q5, q7, q8, q9, n1, n2, n3]
        iterate 3 (try (refine drawnP_intro (by kernel_rfl) (by kernel_rfl) ?_; simp only [runA, runB, runC, runD, runE, runF, fieldE, storeE, binE, ↓reduceIte, Nat.reduceLT, Nat.reduceLeDiff, Nat.reduceEqDiff, Nat.reduceAdd, Nat.reduceMul, Nat.reduceSub, reduceCtorEq, putAt, unE, Nat.reduceBEq, convE, buildE, List.replicate, Int.reduceLT, Int.reduceLE, Int.reduceToNat, mkE, mapSetE, hN, hF, ty_3, ty_4, ty_5, ty_9, ty_27, ty_28, ty_29, ty_32, ty_34, ty_42, notIf, isEq, nt1, ntf, z0, hz, bytes_length, frows_length, g1, g2, g3, e1, hf, h4, h6, h7, h8, h9, q3, q5, q7, q8, q9, n1, n2, n3]))
        refine ⟨l.length - (i + 1), _, by omega, ?_, i + 1, ⟨sb', se'⟩, hlt, rfl, hs', rfl⟩
        rw [hns]
        simp only [runB, finC, finD, AS.get, AS.mem, false_implies, implies_true, ↓reduceIte, Nat.reduceEqDiff, Option.isSome_some, Option.isSome_none, forall_eq_or_imp, forall_eq, reduceCtorEq, Nat.reduceAdd, Nat.reduceMul, List.zip_cons_cons, List.zip_nil_left, List.zip_nil_right, List.forall_mem_nil, c_At, c_amds]
        first | done | simp
noncomputable def readsNC : Contract := mkC (α := List UInt8 × List Fd) (fun p => p.1.length = 0 ∧ p.2.length ≤ 9223372036854775807) (fun p => [.c (.sl (bytes p.1)), .c (.sl (frows p.2))]) (fun _ => []) (fun _ => ⟨[.pv (.c (.bool true))], []⟩)

set_option maxRecDepth 100000 in
set_option maxHeartbeats 4000000 in
theorem readsN_sound (hΓ : SoundG Try.prog Γ) (h1 : Γ 12 = trueC) (h2 : Γ 13 = orC openC openMC) (h3 : Γ 14 = gnC) (h4 : Γ 16 = gtC) (h5 : Γ 15 = rdNumC) (h6 : Γ 17 = rdTextC) (h7 : Γ 19 = errC) (h8 : Γ 20 = leftC) (h9 : Γ 18 = numEC) : SoundC Try.prog 4 readsNC := by
  refine sound_fn Try.func4 (by kernel_rfl) rfl rfl ?_
  intro args objs r0 hr
  obtain ⟨⟨b, l⟩, ⟨hb, hl⟩, rfl, rfl, rfl⟩ := mkC_inv hr
  refine ⟨rfl, by show 2 ≤ _; decide, fun E hN hns hF => ?_⟩
  refine vc_sound hΓ mixed _ _ _ ?_
  have hN := hN.trans nt_4
  have hl : l.length ≤ 9223372036854775807 := hl
  have hb : b.length = 0 := hb
  have nt1 : (!true) = false := rfl
  have ntf : (!false) = true := rfl
  have z0 : ((0 : Nat) : Int) = 0 := rfl
  have hz := rowsOK_bytes
  have q1 := true_p
  have q2 := orOpen_at b (by omega)
  have hbl : b.length ≤ 140737488355328 := by omega
  have k1 : (b.length ≤ 140737488355328) = True := eq_true hbl
  simp only [runA, runB, runC, runD, runE, runF, fieldE, storeE, binE, ↓reduceIte, Nat.reduceLT, Nat.reduceLeDiff, Nat.reduceEqDiff, Nat.reduceAdd, Nat.reduceMul, Nat.reduceSub, reduceCtorEq, putAt, unE, Nat.reduceBEq, convE, buildE, List.replicate, Int.reduceLT, Int.reduceLE, Int.reduceToNat, mkE, mapSetE, hN, hF, ty_3, ty_4, ty_5, ty_9, ty_27, ty_28, ty_29, ty_32, ty_34, ty_42, notIf, isEq, nt1, ntf, z0, hz, bytes_length, frows_length, h1, h2, q1, q2, k1, List.nil_append, Nat.zero_add]
  refine AWP.loop (fun k st => k = 0 ∧ st = ⟨[(0, .c (.sl (bytes b))), (1, .c (.sl (frows l))), (5, .own 897 1 (bytes b)), (6, .ptr 1154 0), (7, .c (.int .i64 0))], [(1154, .obj [.c (.sl (bytes b)), .c (.int .i64 0), .c (.bool true)] false), (897, .row 1 b.length)]⟩) ⟨0, _, ?w, rfl, rfl⟩ ?r
  case w =>
    rw [hns]
    simp only [runB, finC, finD, AS.get, AS.mem, false_implies, implies_true, ↓reduceIte, Nat.reduceEqDiff, Option.isSome_some, Option.isSome_none, forall_eq_or_imp, forall_eq, reduceCtorEq, Nat.reduceAdd, Nat.reduceMul, List.zip_cons_cons, List.zip_nil_left, List.zip_nil_right, List.forall_mem_nil, c_At, c_amds]
    first | done | simp [hb]
  case r =>
    rintro k st ⟨rfl, rfl⟩
    refine vc_sound hΓ mixed _ _ _ ?_
    have gE : decide ((0 : Int) < (b.length : Int)) = false := decide_eq_false (by omega)
    simp only [runA, runB, runC, runD, runE, runF, fieldE, storeE, binE, ↓reduceIte, Nat.reduceLT, Nat.reduceLeDiff, Nat.reduceEqDiff, Nat.reduceAdd, Nat.reduceMul, Nat.reduceSub, reduceCtorEq, putAt, unE, Nat.reduceBEq, convE, buildE, List.replicate, Int.reduceLT, Int.reduceLE, Int.reduceToNat, mkE, mapSetE, hN, hF, ty_3, ty_4, ty_5, ty_9, ty_27, ty_28, ty_29, ty_32, ty_34, ty_42, notIf, isEq, nt1, ntf, z0, hz, bytes_length, frows_length, gE]
    refine AWP.loop (fun k st => ∃ (i : Nat) (s : RS), i ≤ l.length ∧ k = l.length - i ∧ OKr b.length s ∧ st = ⟨[(1, .c (.sl (frows l))), (6, .ptr 1154 0), (8, .ptr 512 0), (9, .c (.int .i64 (i : Int)))], [(1154, .obj [.c (.sl (bytes s.b)), .c (.int .i64 s.e), .c (.bool true)] false), (512, .obj [.c (.sl (bytes s.b)), .c (.int .i64 s.e)] false)]⟩) ⟨l.length, _, ?w2, 0, ⟨b, 0⟩, Nat.zero_le _, rfl, ⟨Nat.le_refl _, fun h => (h rfl).elim⟩, rfl⟩ ?r2
    case w2 =>
      rw [hns]
      simp only [runB, finC, finD, AS.get, AS.mem, false_implies, implies_true, ↓reduceIte, Nat.reduceEqDiff, Option.isSome_some, Option.isSome_none, forall_eq_or_imp, forall_eq, reduceCtorEq, Nat.reduceAdd, Nat.reduceMul, List.zip_cons_cons, List.zip_nil_left, List.zip_nil_right, List.forall_mem_nil, c_At, c_amds, cellU_amds]
      first | done | simp
    case r2 =>
      rintro k st ⟨i, ⟨sb, se⟩, hi, rfl, hs, rfl⟩
      refine vc_sound hΓ mixed _ _ _ ?_
      have hsl : sb.length ≤ 9223372036854775807 := by have := hs.1; dsimp only at this; omega
      by_cases hlt : i < l.length
      case neg =>
        have g1 : decide ((i : Int) < (l.length : Int)) = false := decide_eq_false (by omega)
        simp only [runA, runB, runC, runD, runE, runF, fieldE, storeE, binE, ↓reduceIte, Nat.reduceLT, Nat.reduceLeDiff, Nat.reduceEqDiff, Nat.reduceAdd, Nat.reduceMul, Nat.reduceSub, reduceCtorEq, putAt, unE, Nat.reduceBEq, convE, buildE, List.replicate, Int.reduceLT, Int.reduceLE, Int.reduceToNat, mkE, mapSetE, hN, hF, ty_3, ty_4, ty_5, ty_9, ty_27, ty_28, ty_29, ty_32, ty_34, ty_42, notIf, isEq, nt1, ntf, z0, hz, bytes_length, frows_length, g1]
        simp only [runB, finC, finD, Option.isSome_some, Option.isSome_none, ↓reduceIte, Nat.reduceEqDiff, Nat.reduceAdd, Nat.reduceMul, forall_eq_or_imp, forall_eq, implies_true, Nat.reduceBEq, reduceCtorEq, false_implies, List.zip_cons_cons, List.zip_nil_left, List.zip_nil_right, Nat.reduceLeDiff, List.forall_mem_nil, rs_4, ty_3, ty_4, ty_5, ty_9, ty_27, ty_28, ty_29, ty_32, ty_34, ty_42]
      have g1 : decide ((i : Int) < (l.length : Int)) = true := decide_eq_true (by omega)
      by_cases h40 : i < 40
      case neg =>
        have g2 : decide ((i : Int) < 40) = false := decide_eq_false (by omega)
        simp only [runA, runB, runC, runD, runE, runF, fieldE, storeE, binE, ↓reduceIte, Nat.reduceLT, Nat.reduceLeDiff, Nat.reduceEqDiff, Nat.reduceAdd, Nat.reduceMul, Nat.reduceSub, reduceCtorEq, putAt, unE, Nat.reduceBEq, convE, buildE, List.replicate, Int.reduceLT, Int.reduceLE, Int.reduceToNat, mkE, mapSetE, hN, hF, ty_3, ty_4, ty_5, ty_9, ty_27, ty_28, ty_29, ty_32, ty_34, ty_42, notIf, isEq, nt1, ntf, z0, hz, bytes_length, frows_length, g1, g2]
        simp only [runB, finC, finD, Option.isSome_some, Option.isSome_none, ↓reduceIte, Nat.reduceEqDiff, Nat.reduceAdd, Nat.reduceMul, forall_eq_or_imp, forall_eq, implies_true, Nat.reduceBEq, reduceCtorEq, false_implies, List.zip_cons_cons, List.zip_nil_left, List.zip_nil_right, Nat.reduceLeDiff, List.forall_mem_nil, rs_4, ty_3, ty_4, ty_5, ty_9, ty_27, ty_28, ty_29, ty_32, ty_34, ty_42]
      have g2 : decide ((i : Int) < 40) = true := decide_eq_true (by omega)
      have e1 : IntKind.i64.wrap ((i : Int) + 1) = (i : Int) + 1 := wrapI (by omega)
      obtain ⟨fk, fnn, fs, hf⟩ := frowsD l i hlt
      by_cases hk : fk = 0
      · have g3 : (fk == 0) = true := by simpa using hk
        have q3 := gn_at sb se fnn hsl
        have q5 := rdNum_p sb se fnn hsl
        have hs' := gnS_ok fnn hs
        generalize gnS ⟨sb, se⟩ fnn = G at q3 q5 hs'
        obtain ⟨v, ⟨sb', se'⟩⟩ := G
        dsimp only at q3 q5 hs'
        have q7 := err_p sb' se'
        have q8 := left_p sb' se' hs'
        have q9 := numE_p se'
        have n1 : (v != v) = false := bne_self_eq_false' _
        have n2 : (se' != se') = false := bne_self_eq_false' _
        have n3 : ((sb'.length : Int) != (sb'.length : Int)) = false := bne_self_eq_false' _
        simp only [runA, runB, runC, runD, runE, runF, fieldE, storeE, binE, ↓reduceIte, Nat.reduceLT, Nat.reduceLeDiff, Nat.reduceEqDiff, Nat.reduceAdd, Nat.reduceMul, Nat.reduceSub, reduceCtorEq, putAt, unE, Nat.reduceBEq, convE, buildE, List.replicate, Int.reduceLT, Int.reduceLE, Int.reduceToNat, mkE, mapSetE, hN, hF, ty_3, ty_4, ty_5, ty_9, ty_27, ty_28, ty_29, ty_32, ty_34, ty_42, notIf, isEq, nt1, ntf, z0, hz, bytes_length, frows_length, g1, g2, g3, e1, hf, h3, h5, h7, h8, h9, q3, q5, q7, q8, q9, n1, n2, n3]
        iterate 3 (try (refine drawnP_intro (by kernel_rfl) (by kernel_rfl) ?_; simp only [runA, runB, runC, runD, runE, runF, fieldE, storeE, binE, ↓reduceIte, Nat.reduceLT, Nat.reduceLeDiff, Nat.reduceEqDiff, Nat.reduceAdd, Nat.reduceMul, Nat.reduceSub, reduceCtorEq, putAt, unE, Nat.reduceBEq, convE, buildE, List.replicate, Int.reduceLT, Int.reduceLE, Int.reduceToNat, mkE, mapSetE, hN, hF, ty_3, ty_4, ty_5, ty_9, ty_27, ty_28, ty_29, ty_32, ty_34, ty_42, notIf, isEq, nt1, ntf, z0, hz, bytes_length, frows_length, g1, g2, g3, e1, hf, h3, h5, h7, h8, h9, q3, q5, q7, q8, q9, n1, n2, n3]))
        refine ⟨l.length - (i + 1), _, by omega, ?_, i + 1, ⟨sb', se'⟩, hlt, rfl, hs', rfl⟩
        rw [hns]
        simp only [runB, finC, finD, AS.get, AS.mem, false_implies, implies_true, ↓reduceIte, Nat.reduceEqDiff, Option.isSome_some, Option.isSome_none, forall_eq_or_imp, forall_eq, reduceCtorEq, Nat.reduceAdd, Nat.reduceMul, List.zip_cons_cons, List.zip_nil_left, List.zip_nil_right, List.forall_mem_nil, c_At, c_amds]
        first | done | simp
      · have g3 : (fk == 0) = false := by simpa using hk
        have q3 := gt_at sb se fnn hsl
        have q5 := rdText_p sb se fnn hsl
        have hs' := gtS_ok fnn hs
        generalize gtS ⟨sb, se⟩ fnn = G at q3 q5 hs'
        obtain ⟨v, ⟨sb', se'⟩⟩ := G
        dsimp only at q3 q5 hs'
        have q7 := err_p sb' se'
        have q8 := left_p sb' se' hs'
        have q9 := numE_p se'
        have n1 : (v == v) = true := beq_self_eq_true v
        have n2 : (se' != se') = false := bne_self_eq_false' _
        have n3 : ((sb'.length : Int) != (sb'.length : Int)) = false := bne_self_eq_false' _
        simp only [runA, runB, runC, runD, runE, runF, fieldE, storeE, binE, ↓reduceIte, Nat.reduceLT, Nat.reduceLeDiff, Nat.reduceEqDiff, Nat.reduceAdd, Nat.reduceMul, Nat.reduceSub, reduceCtorEq, putAt, unE, Nat.reduceBEq, convE, buildE, List.replicate, Int.reduceLT, Int.reduceLE, Int.reduceToNat, mkE, mapSetE, hN, hF, ty_3, ty_4, ty_5, ty_9, ty_27, ty_28, ty_29, ty_32, ty_34, ty_42, notIf, isEq, nt1, ntf, z0, hz, bytes_length, frows_length, g1, g2, g3, e1, hf, h4, h6, h7, h8, h9, q3, q5, q7, q8, q9, n1, n2, n3]
        iterate 3 (try (refine drawnP_intro (by kernel_rfl) (by kernel_rfl) ?_; simp only [runA, runB, runC, runD, runE, runF, fieldE, storeE, binE, ↓reduceIte, Nat.reduceLT, Nat.reduceLeDiff, Nat.reduceEqDiff, Nat.reduceAdd, Nat.reduceMul, Nat.reduceSub, reduceCtorEq, putAt, unE, Nat.reduceBEq, convE, buildE, List.replicate, Int.reduceLT, Int.reduceLE, Int.reduceToNat, mkE, mapSetE, hN, hF, ty_3, ty_4, ty_5, ty_9, ty_27, ty_28, ty_29, ty_32, ty_34, ty_42, notIf, isEq, nt1, ntf, z0, hz, bytes_length, frows_length, g1, g2, g3, e1, hf, h4, h6, h7, h8, h9, q3, q5, q7, q8, q9, n1, n2, n3]))
        refine ⟨l.length - (i + 1), _, by omega, ?_, i + 1, ⟨sb', se'⟩, hlt, rfl, hs', rfl⟩
        rw [hns]
        simp only [runB, finC, finD, AS.get, AS.mem, false_implies, implies_true, ↓reduceIte, Nat.reduceEqDiff, Option.isSome_some, Option.isSome_none, forall_eq_or_imp, forall_eq, reduceCtorEq, Nat.reduceAdd, Nat.reduceMul, List.zip_cons_cons, List.zip_nil_left, List.zip_nil_right, List.forall_mem_nil, c_At, c_amds]
        first | done | simp

end Go.Proofs.Ytcfijanfcgnnhaa.AM
