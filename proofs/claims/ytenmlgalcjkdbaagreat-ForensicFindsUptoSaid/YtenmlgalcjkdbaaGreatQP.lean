/-
  QP: PkN PkT Pk4 Pk5 Pk8 Pk9 PkA PkB PkC PkD.
-/
import Derived.Test.YtenmlgalcjkdbaaGreatQ5
set_option linter.unusedVariables false
set_option linter.unusedSimpArgs false
namespace Go.Proofs.YtenmlgalcjkdbaaGreat.AM
open Go

variable {Γ : FuncId → Contract}

/-- What is done. -/
def doneR (w : WS) : List UInt8 × Int := if w.e = 0 then (if 16384 < w.b.length then ([], 5) else (w.b, 0)) else ([], w.e)
def newC : Contract := fun args objs => match args, objs with
  | [], [] => some ⟨[.newobj (wOV [] 0 true)], []⟩
  | _, _ => none
theorem new_sound : SoundC Tryz.prog 13 newC := by
  refine sound_fn Tryz.func13 (by kernel_rfl) rfl rfl ?_
  intro args objs r hr
  unfold newC at hr
  split at hr
  · cases hr
    refine ⟨rfl, by show 0 ≤ _; decide, fun E hN hns hF => ?_⟩
    refine vc_sound none0_sound mixed _ _ _ ?_
    have hN := hN.trans nt_13
    simp only [runA, runB, runC, runD, runE, runF, fieldE, storeE, binE, ↓reduceIte, Nat.reduceLT, Nat.reduceLeDiff, Nat.reduceEqDiff, Nat.reduceAdd, Nat.reduceMul, Nat.reduceSub, reduceCtorEq, putAt, unE, Nat.reduceBEq, convE, buildE, List.replicate, Int.reduceLT, Int.reduceLE, Int.reduceToNat, mkE, mapSetE, hN, hF, ty_4, ty_37, ty_44, ty_47, ty_101, Option.getD_some]
    simp only [runB, finC, finD, Option.isSome_some, Option.isSome_none, ↓reduceIte, Nat.reduceEqDiff, Nat.reduceAdd, Nat.reduceMul, forall_eq_or_imp, forall_eq, implies_true, Nat.reduceBEq, reduceCtorEq, false_implies, List.zip_cons_cons, List.zip_nil_left, List.zip_nil_right, Nat.reduceLeDiff, List.forall_mem_nil, rs_13, bytes_length]
    simp [bytes]
  · cases hr

def doneC : Contract := fun args objs => match args, objs with
  | [.nilptr], [] => some ⟨[.fresh 1 (bytes []), .pv (.c (.int .i64 9))], []⟩
  | [.ptr p 0], [[.own 1 rows, .c (.int .i64 e), .c (.bool made)]] => match asB rows with
    | some b => if p = inObj 0 then
        if made then some ⟨[.fresh 1 (bytes (doneR ⟨b, e⟩).1), .pv (.c (.int .i64 (doneR ⟨b, e⟩).2))], [wOV b e true]⟩ else some ⟨[.fresh 1 (bytes []), .pv (.c (.int .i64 9))], [wOV b e false]⟩ else none
    | none => none
  | _, _ => none

set_option maxHeartbeats 4000000 in
theorem done_sound (hΓ : SoundG Tryz.prog Γ) (h55 : Γ 54 = cloneC) : SoundC Tryz.prog 15 doneC := by
  refine sound_fn Tryz.func15 (by kernel_rfl) rfl rfl ?_
  intro args objs r hr
  unfold doneC at hr
  split at hr
  · cases hr
    refine ⟨rfl, by show 1 ≤ _; decide, fun E hN hns hF => ?_⟩
    refine vc_sound hΓ mixed _ _ _ ?_
    have hN := hN.trans nt_15
    simp only [runA, runB, runC, runD, runE, runF, fieldE, storeE, binE, ↓reduceIte, Nat.reduceLT, Nat.reduceLeDiff, Nat.reduceEqDiff, Nat.reduceAdd, Nat.reduceMul, Nat.reduceSub, reduceCtorEq, putAt, unE, Nat.reduceBEq, convE, buildE, List.replicate, Int.reduceLT, Int.reduceLE, Int.reduceToNat, mkE, mapSetE, hN, hF, ty_3, ty_4, ty_5, ty_37, ty_44, ty_47, ty_101, notIf, isEq]
    simp only [runB, finC, finD, Option.isSome_some, Option.isSome_none, ↓reduceIte, Nat.reduceEqDiff, Nat.reduceAdd, Nat.reduceMul, forall_eq_or_imp, forall_eq, implies_true, Nat.reduceBEq, reduceCtorEq, false_implies, List.zip_cons_cons, List.zip_nil_left, List.zip_nil_right, Nat.reduceLeDiff, List.forall_mem_nil, rs_15, bytes_length]
    simp [bytes]
  · split at hr
    · rename_i rows e made _ b hb
      split at hr
      · rename_i hc
        subst hc
        obtain rfl := asB_inv hb
        split at hr
        · rename_i hm
          cases hr
          refine ⟨rfl, by show 1 ≤ _; decide, fun E hN hns hF => ?_⟩
          refine vc_sound hΓ mixed _ _ _ ?_
          have hN := hN.trans nt_15
          subst hm
          have hz := rowsOK_bytes
          cases h4 : (e != 0)
          · by_cases h3n : 16384 < b.length
            · have h3 : decide ((b.length : Int) > 16384) = true := by simp; omega
              simp only [runA, runB, runC, runD, runE, runF, fieldE, storeE, binE, ↓reduceIte, Nat.reduceLT, Nat.reduceLeDiff, Nat.reduceEqDiff, Nat.reduceAdd, Nat.reduceMul, Nat.reduceSub, reduceCtorEq, putAt, unE, Nat.reduceBEq, convE, buildE, List.replicate, Int.reduceLT, Int.reduceLE, Int.reduceToNat, mkE, mapSetE, hN, hF, ty_3, ty_4, ty_5, ty_37, ty_44, ty_47, ty_101, notIf, isEq, h3, h4, h55, cloneC, bytes_length, hz]
              simp only [bne_eq_false_iff_eq] at h4
              simp only [runB, finC, finD, Option.isSome_some, Option.isSome_none, ↓reduceIte, Nat.reduceEqDiff, Nat.reduceAdd, Nat.reduceMul, forall_eq_or_imp, forall_eq, implies_true, Nat.reduceBEq, reduceCtorEq, false_implies, List.zip_cons_cons, List.zip_nil_left, List.zip_nil_right, Nat.reduceLeDiff, List.forall_mem_nil, rs_15, bytes_length]
              simp [doneR, h3n, h4, bytes]
            · have h3 : decide ((b.length : Int) > 16384) = false := by simp; omega
              have hL : b.length ≤ 140737488355328 := by omega
              simp only [runA, runB, runC, runD, runE, runF, fieldE, storeE, binE, ↓reduceIte, Nat.reduceLT, Nat.reduceLeDiff, Nat.reduceEqDiff, Nat.reduceAdd, Nat.reduceMul, Nat.reduceSub, reduceCtorEq, putAt, unE, Nat.reduceBEq, convE, buildE, List.replicate, Int.reduceLT, Int.reduceLE, Int.reduceToNat, mkE, mapSetE, hN, hF, ty_3, ty_4, ty_5, ty_37, ty_44, ty_47, ty_101, notIf, isEq, h3, h4, h55, cloneC, bytes_length, hz, hL]
              simp only [bne_eq_false_iff_eq] at h4
              simp only [runB, finC, finD, Option.isSome_some, Option.isSome_none, ↓reduceIte, Nat.reduceEqDiff, Nat.reduceAdd, Nat.reduceMul, forall_eq_or_imp, forall_eq, implies_true, Nat.reduceBEq, reduceCtorEq, false_implies, List.zip_cons_cons, List.zip_nil_left, List.zip_nil_right, Nat.reduceLeDiff, List.forall_mem_nil, rs_15, bytes_length]
              simp [doneR, h3n, h4]
          · simp only [runA, runB, runC, runD, runE, runF, fieldE, storeE, binE, ↓reduceIte, Nat.reduceLT, Nat.reduceLeDiff, Nat.reduceEqDiff, Nat.reduceAdd, Nat.reduceMul, Nat.reduceSub, reduceCtorEq, putAt, unE, Nat.reduceBEq, convE, buildE, List.replicate, Int.reduceLT, Int.reduceLE, Int.reduceToNat, mkE, mapSetE, hN, hF, ty_3, ty_4, ty_5, ty_37, ty_44, ty_47, ty_101, notIf, isEq, h4, bytes_length, hz]
            refine drawnP_intro (by kernel_rfl) (by kernel_rfl) ?_
            simp only [bne_iff_ne, ne_eq] at h4
            try simp only [runA, runB, runC, runD, runE, runF, fieldE, storeE, binE, ↓reduceIte, Nat.reduceLT, Nat.reduceLeDiff, Nat.reduceEqDiff, Nat.reduceAdd, Nat.reduceMul, Nat.reduceSub, reduceCtorEq, putAt, unE, Nat.reduceBEq, convE, buildE, List.replicate, Int.reduceLT, Int.reduceLE, Int.reduceToNat, mkE, mapSetE, hN, hF, ty_3, ty_4, ty_5, ty_37, ty_44, ty_47, ty_101, bytes_length]
            simp only [runB, finC, finD, Option.isSome_some, Option.isSome_none, ↓reduceIte, Nat.reduceEqDiff, Nat.reduceAdd, Nat.reduceMul, forall_eq_or_imp, forall_eq, implies_true, Nat.reduceBEq, reduceCtorEq, false_implies, List.zip_cons_cons, List.zip_nil_left, List.zip_nil_right, Nat.reduceLeDiff, List.forall_mem_nil, rs_15, bytes_length]
            simp [doneR, h4, bytes]
        · rename_i hm
          cases hr
          refine ⟨rfl, by show 1 ≤ _; decide, fun E hN hns hF => ?_⟩
          refine vc_sound hΓ mixed _ _ _ ?_
          have hN := hN.trans nt_15
          have hm : made = false := by simpa using hm
          subst hm
          simp only [runA, runB, runC, runD, runE, runF, fieldE, storeE, binE, ↓reduceIte, Nat.reduceLT, Nat.reduceLeDiff, Nat.reduceEqDiff, Nat.reduceAdd, Nat.reduceMul, Nat.reduceSub, reduceCtorEq, putAt, unE, Nat.reduceBEq, convE, buildE, List.replicate, Int.reduceLT, Int.reduceLE, Int.reduceToNat, mkE, mapSetE, hN, hF, ty_3, ty_4, ty_5, ty_37, ty_44, ty_47, ty_101, notIf, isEq]
          simp only [runB, finC, finD, Option.isSome_some, Option.isSome_none, ↓reduceIte, Nat.reduceEqDiff, Nat.reduceAdd, Nat.reduceMul, forall_eq_or_imp, forall_eq, implies_true, Nat.reduceBEq, reduceCtorEq, false_implies, List.zip_cons_cons, List.zip_nil_left, List.zip_nil_right, Nat.reduceLeDiff, List.forall_mem_nil, rs_15, bytes_length]
          simp [bytes]
      · cases hr
    · cases hr
  · cases hr


variable {Γ : FuncId → Contract}

/-- What a text makes of a writer. -/
def rText (w : WS) (s : List UInt8) : WS := if 4096 < s.length then ⟨w.b, if w.e = 0 then 5 else w.e⟩ else if w.b.length ≤ 16384 then ⟨w.b ++ putB s.length 2 ++ s, w.e⟩ else w
def textC : Contract := fun args objs => match args, objs with
  | [.nilptr, .c (.str s)], [] => some ⟨[], []⟩
  | [.ptr p 0, .c (.str s)], [[.own 1 rows, .c (.int .i64 e), .c (.bool made)]] => match asB rows with
    | some b => if p = inObj 0 ∧ b.length ≤ 100000 ∧ s.length ≤ 9223372036854775807 then
        if made then some ⟨[], [wOV (rText ⟨b, e⟩ s).b (rText ⟨b, e⟩ s).e true]⟩ else some ⟨[], [wOV b e false]⟩ else none
    | none => none
  | _, _ => none

set_option maxHeartbeats 4000000 in
theorem text_sound (hΓ : SoundG Tryz.prog Γ) (h53 : Γ 95 = putC) (h52 : Γ 104 = faultC) : SoundC Tryz.prog 53 textC := by
  refine sound_fn Tryz.func53 (by kernel_rfl) rfl rfl ?_
  intro args objs r hr
  unfold textC at hr
  split at hr
  · cases hr
    refine ⟨rfl, by show 2 ≤ _; decide, fun E hN hns hF => ?_⟩
    refine vc_sound hΓ mixed _ _ _ ?_
    have hN := hN.trans nt_53
    simp only [runA, runB, runC, runD, runE, runF, fieldE, storeE, binE, ↓reduceIte, Nat.reduceLT, Nat.reduceLeDiff, Nat.reduceEqDiff, Nat.reduceAdd, Nat.reduceMul, Nat.reduceSub, reduceCtorEq, putAt, unE, Nat.reduceBEq, convE, buildE, List.replicate, Int.reduceLT, Int.reduceLE, Int.reduceToNat, mkE, mapSetE, hN, hF, ty_3, ty_4, ty_5, ty_9, ty_37, ty_44, ty_47, ty_101, notIf, isEq]
    simp only [runB, finC, finD, Option.isSome_some, Option.isSome_none, ↓reduceIte, Nat.reduceEqDiff, Nat.reduceAdd, Nat.reduceMul, forall_eq_or_imp, forall_eq, implies_true, Nat.reduceBEq, reduceCtorEq, false_implies, List.zip_cons_cons, List.zip_nil_left, List.zip_nil_right, Nat.reduceLeDiff, List.forall_mem_nil, rs_53]
  · split at hr
    · rename_i s rows e made _ b hb
      split at hr
      · rename_i hc
        obtain ⟨rfl, hlen, hcs⟩ := hc
        obtain rfl := asB_inv hb
        split at hr
        · rename_i hm
          cases hr
          refine ⟨rfl, by show 2 ≤ _; decide, fun E hN hns hF => ?_⟩
          refine vc_sound hΓ mixed _ _ _ ?_
          have hN := hN.trans nt_53
          subst hm
          have hz := rowsOK_bytes
          have hpl := putB_length s.length 2
          rw [show (min (max (2 : Int) 0) 8).toNat = 2 from rfl] at hpl
          have hL : b.length ≤ 140737488355326 := by omega
          by_cases h1n : 4096 < s.length
          · have h1 : decide ((s.length : Int) > 4096) = true := by simp; omega
            cases h4 : (e == 0)
            all_goals
              simp only [runA, runB, runC, runD, runE, runF, fieldE, storeE, binE, ↓reduceIte, Nat.reduceLT, Nat.reduceLeDiff, Nat.reduceEqDiff, Nat.reduceAdd, Nat.reduceMul, Nat.reduceSub, reduceCtorEq, putAt, unE, Nat.reduceBEq, convE, buildE, List.replicate, Int.reduceLT, Int.reduceLE, Int.reduceToNat, mkE, mapSetE, hN, hF, ty_3, ty_4, ty_5, ty_9, ty_37, ty_44, ty_47, ty_101, notIf, isEq, h1, h4, h52, h53, faultC, putC, bytes_length, bytes_app, hz, hL]
            all_goals
              simp only [beq_iff_eq, beq_eq_false_iff_ne, ne_eq] at h4
            all_goals
              simp only [runB, finC, finD, Option.isSome_some, Option.isSome_none, ↓reduceIte, Nat.reduceEqDiff, Nat.reduceAdd, Nat.reduceMul, forall_eq_or_imp, forall_eq, implies_true, Nat.reduceBEq, reduceCtorEq, false_implies, List.zip_cons_cons, List.zip_nil_left, List.zip_nil_right, Nat.reduceLeDiff, List.forall_mem_nil, rs_53, inBlockA_normal, bytes_length]
            all_goals simp [rText, h1n, h4]
          · have h1 : decide ((s.length : Int) > 4096) = false := by simp; omega
            have hL7 : b.length + 2 + s.length ≤ 140737488355328 := by omega
            cases h3 : decide ((b.length : Int) ≤ 16384)
            all_goals
              simp only [runA, runB, runC, runD, runE, runF, fieldE, storeE, binE, ↓reduceIte, Nat.reduceLT, Nat.reduceLeDiff, Nat.reduceEqDiff, Nat.reduceAdd, Nat.reduceMul, Nat.reduceSub, reduceCtorEq, putAt, unE, Nat.reduceBEq, convE, buildE, List.replicate, Int.reduceLT, Int.reduceLE, Int.reduceToNat, mkE, mapSetE, hN, hF, ty_3, ty_4, ty_5, ty_9, ty_37, ty_44, ty_47, ty_101, notIf, isEq, h1, h3, h52, h53, faultC, putC, bytes_length, bytes_app, hz, hL, hL7, hpl]
            all_goals try refine drawnP_intro (by kernel_rfl) (by kernel_rfl) ?_
            all_goals
              simp only [decide_eq_false_iff_not, decide_eq_true_eq] at h3
              rw [show (16384 : Int) = ((16384 : Nat) : Int) from rfl, Int.ofNat_le] at h3
            all_goals
              simp only [runB, finC, finD, Option.isSome_some, Option.isSome_none, ↓reduceIte, Nat.reduceEqDiff, Nat.reduceAdd, Nat.reduceMul, forall_eq_or_imp, forall_eq, implies_true, Nat.reduceBEq, reduceCtorEq, false_implies, List.zip_cons_cons, List.zip_nil_left, List.zip_nil_right, Nat.reduceLeDiff, List.forall_mem_nil, rs_53, inBlockA_normal, bytes_length]
            all_goals simp [rText, h1n, h3, hpl, Nat.add_assoc]
        · rename_i hm
          cases hr
          refine ⟨rfl, by show 2 ≤ _; decide, fun E hN hns hF => ?_⟩
          refine vc_sound hΓ mixed _ _ _ ?_
          have hN := hN.trans nt_53
          have hm : made = false := by simpa using hm
          subst hm
          simp only [runA, runB, runC, runD, runE, runF, fieldE, storeE, binE, ↓reduceIte, Nat.reduceLT, Nat.reduceLeDiff, Nat.reduceEqDiff, Nat.reduceAdd, Nat.reduceMul, Nat.reduceSub, reduceCtorEq, putAt, unE, Nat.reduceBEq, convE, buildE, List.replicate, Int.reduceLT, Int.reduceLE, Int.reduceToNat, mkE, mapSetE, hN, hF, ty_3, ty_4, ty_5, ty_9, ty_37, ty_44, ty_47, ty_101, notIf, isEq]
          simp only [runB, finC, finD, Option.isSome_some, Option.isSome_none, ↓reduceIte, Nat.reduceEqDiff, Nat.reduceAdd, Nat.reduceMul, forall_eq_or_imp, forall_eq, implies_true, Nat.reduceBEq, reduceCtorEq, false_implies, List.zip_cons_cons, List.zip_nil_left, List.zip_nil_right, Nat.reduceLeDiff, List.forall_mem_nil, rs_53, bytes_length]
      · cases hr
    · cases hr
  · cases hr


variable {Γ : FuncId → Contract}


/-- The document's writer. -/
def rNum (w : WS) (n : Int) : WS := if n < 0 ∨ 1099511627776 < n then ⟨w.b, if w.e = 0 then 4 else w.e⟩ else if w.b.length ≤ 16384 then ⟨w.b ++ putB n 6, w.e⟩ else w
def wAgg (w : WS) : AV := .agg [.c (.sl (bytes w.b)), .c (.int .i64 w.e)]
def rNumC : Contract := fun args objs => match args, objs with
  | [.agg [.c (.sl rows), .c (.int .i64 e)], .c (.int .i64 n)], [] => match asB rows with
    | some b => if b.length ≤ 100000 then some ⟨[.pv (wAgg (rNum ⟨b, e⟩ n))], []⟩ else none
    | none => none
  | _, _ => none

set_option maxHeartbeats 4000000 in
theorem rNum_sound (hΓ : SoundG Tryz.prog Γ) (h54 : Γ 159 = putC) : SoundC Tryz.prog 160 rNumC := by
  refine sound_fn Tryz.func160 (by kernel_rfl) rfl rfl ?_
  intro args objs r hr
  unfold rNumC at hr
  split at hr
  · split at hr
    · rename_i rows e n _ b hb
      split at hr
      · rename_i hc
        cases hr
        obtain rfl := asB_inv hb
        refine ⟨rfl, by show 2 ≤ _; decide, fun E hN hns hF => ?_⟩
        refine vc_sound hΓ mixed _ _ _ ?_
        have hN := hN.trans nt_160
        have hz := rowsOK_bytes
        have hz0 : rowsOK 1 [] := fun _ h => by cases h
        have hpl := putB_length n 6
        rw [show (min (max (6 : Int) 0) 8).toNat = 6 from rfl] at hpl
        have hL : b.length ≤ 140737488355328 := by omega
        have hL6 : b.length ≤ 140737488355322 := by omega
        cases h1 : decide (n < 0) <;> cases h2 : decide (n > 1099511627776) <;> cases h3 : decide ((b.length : Int) ≤ 16384) <;> cases h4 : (e == 0)
        all_goals
          simp only [runA, runB, runC, runD, runE, runF, fieldE, storeE, binE, ↓reduceIte, Nat.reduceLT, Nat.reduceLeDiff, Nat.reduceEqDiff, Nat.reduceAdd, Nat.reduceMul, Nat.reduceSub, reduceCtorEq, putAt, unE, Nat.reduceBEq, convE, buildE, List.replicate, Int.reduceLT, Int.reduceLE, Int.reduceToNat, mkE, mapSetE, hN, hF, ty_3, ty_5, ty_47, ty_170, notIf, isEq, h1, h2, h3, h4, h54, putC, bytes_length, bytes_app, hz, hz0, hL, hL6, hpl]
        all_goals
          simp only [decide_eq_false_iff_not, decide_eq_true_eq, gt_iff_lt, beq_iff_eq, beq_eq_false_iff_ne, ne_eq] at h1 h2 h3 h4
          rw [show (16384 : Int) = ((16384 : Nat) : Int) from rfl, Int.ofNat_le] at h3
        all_goals
          simp only [runB, finC, finD, Option.isSome_some, Option.isSome_none, ↓reduceIte, Nat.reduceEqDiff, Nat.reduceAdd, Nat.reduceMul, forall_eq_or_imp, forall_eq, implies_true, Nat.reduceBEq, reduceCtorEq, false_implies, List.zip_cons_cons, List.zip_nil_left, List.zip_nil_right, Nat.reduceLeDiff, List.forall_mem_nil, rs_160, ty_3, ty_5, ty_47, ty_170, wAgg, bytes_length]
        all_goals simp [rNum, h1, h2, h3, h4]
      · cases hr
    · cases hr
  · cases hr


variable {Γ : FuncId → Contract}

def rTextC : Contract := fun args objs => match args, objs with
  | [.agg [.c (.sl rows), .c (.int .i64 e)], .c (.str s)], [] => match asB rows with
    | some b => if b.length ≤ 100000 ∧ s.length ≤ 9223372036854775807 then some ⟨[.pv (wAgg (rText ⟨b, e⟩ s))], []⟩ else none
    | none => none
  | _, _ => none

set_option maxHeartbeats 4000000 in
theorem rText_sound (hΓ : SoundG Tryz.prog Γ) (h54 : Γ 159 = putC) : SoundC Tryz.prog 161 rTextC := by
  refine sound_fn Tryz.func161 (by kernel_rfl) rfl rfl ?_
  intro args objs r hr
  unfold rTextC at hr
  split at hr
  · split at hr
    · rename_i rows e s _ b hb
      split at hr
      · rename_i hc
        obtain ⟨hc, hcs⟩ := hc
        cases hr
        obtain rfl := asB_inv hb
        refine ⟨rfl, by show 2 ≤ _; decide, fun E hN hns hF => ?_⟩
        refine vc_sound hΓ mixed _ _ _ ?_
        have hN := hN.trans nt_161
        have hz := rowsOK_bytes
        have hz0 : rowsOK 1 [] := fun _ h => by cases h
        have hpl := putB_length s.length 2
        rw [show (min (max (2 : Int) 0) 8).toNat = 2 from rfl] at hpl
        have hL : b.length ≤ 140737488355328 := by omega
        have hL6 : b.length ≤ 140737488355326 := by omega
        by_cases h1n : 4096 < s.length
        · have h1 : decide ((s.length : Int) > 4096) = true := by simp; omega
          cases h4 : (e == 0)
          all_goals
            simp only [runA, runB, runC, runD, runE, runF, fieldE, storeE, binE, ↓reduceIte, Nat.reduceLT, Nat.reduceLeDiff, Nat.reduceEqDiff, Nat.reduceAdd, Nat.reduceMul, Nat.reduceSub, reduceCtorEq, putAt, unE, Nat.reduceBEq, convE, buildE, List.replicate, Int.reduceLT, Int.reduceLE, Int.reduceToNat, mkE, mapSetE, hN, hF, ty_3, ty_5, ty_9, ty_47, ty_170, notIf, isEq, h1, h4, h54, putC, bytes_length, bytes_app, hz, hz0, hL, hL6, hpl]
          all_goals
            simp only [beq_iff_eq, beq_eq_false_iff_ne, ne_eq] at h4
          all_goals
            simp only [runB, finC, finD, Option.isSome_some, Option.isSome_none, ↓reduceIte, Nat.reduceEqDiff, Nat.reduceAdd, Nat.reduceMul, forall_eq_or_imp, forall_eq, implies_true, Nat.reduceBEq, reduceCtorEq, false_implies, List.zip_cons_cons, List.zip_nil_left, List.zip_nil_right, Nat.reduceLeDiff, List.forall_mem_nil, rs_161, ty_3, ty_5, ty_9, ty_47, ty_170, wAgg, bytes_length]
          all_goals simp [rText, h1n, h4]
        · have h1 : decide ((s.length : Int) > 4096) = false := by simp; omega
          have hL7 : b.length + 2 + s.length ≤ 140737488355328 := by omega
          cases h3 : decide ((b.length : Int) ≤ 16384)
          all_goals
            simp only [runA, runB, runC, runD, runE, runF, fieldE, storeE, binE, ↓reduceIte, Nat.reduceLT, Nat.reduceLeDiff, Nat.reduceEqDiff, Nat.reduceAdd, Nat.reduceMul, Nat.reduceSub, reduceCtorEq, putAt, unE, Nat.reduceBEq, convE, buildE, List.replicate, Int.reduceLT, Int.reduceLE, Int.reduceToNat, mkE, mapSetE, hN, hF, ty_3, ty_5, ty_9, ty_47, ty_170, notIf, isEq, h1, h3, h54, putC, bytes_length, bytes_app, hz, hz0, hL, hL6, hL7, hpl]
          all_goals
            simp only [decide_eq_false_iff_not, decide_eq_true_eq] at h3
            rw [show (16384 : Int) = ((16384 : Nat) : Int) from rfl, Int.ofNat_le] at h3
          all_goals
            simp only [runB, finC, finD, Option.isSome_some, Option.isSome_none, ↓reduceIte, Nat.reduceEqDiff, Nat.reduceAdd, Nat.reduceMul, forall_eq_or_imp, forall_eq, implies_true, Nat.reduceBEq, reduceCtorEq, false_implies, List.zip_cons_cons, List.zip_nil_left, List.zip_nil_right, Nat.reduceLeDiff, List.forall_mem_nil, rs_161, ty_3, ty_5, ty_9, ty_47, ty_170, wAgg, bytes_length]
          all_goals simp [rText, h1n, h3]
      · cases hr
    · cases hr
  · cases hr

/-- What the reference does. -/
def rDoneC : Contract := fun args objs => match args, objs with
  | [.agg [.c (.sl rows), .c (.int .i64 e)]], [] => match asB rows with
    | some b => some ⟨[.pv (.c (.sl (bytes (doneR ⟨b, e⟩).1))), .pv (.c (.int .i64 (doneR ⟨b, e⟩).2))], []⟩
    | none => none
  | _, _ => none

set_option maxHeartbeats 4000000 in
theorem rDone_sound : SoundC Tryz.prog 110 rDoneC := by
  refine sound_fn Tryz.func110 (by kernel_rfl) rfl rfl ?_
  intro args objs r hr
  unfold rDoneC at hr
  split at hr
  · split at hr
    · rename_i rows e _ b hb
      cases hr
      obtain rfl := asB_inv hb
      refine ⟨rfl, by show 1 ≤ _; decide, fun E hN hns hF => ?_⟩
      refine vc_sound none0_sound mixed _ _ _ ?_
      have hN := hN.trans nt_110
      cases h3 : decide ((b.length : Int) > 16384) <;> cases h4 : (e != 0)
      all_goals
        simp only [runA, runB, runC, runD, runE, runF, fieldE, storeE, binE, ↓reduceIte, Nat.reduceLT, Nat.reduceLeDiff, Nat.reduceEqDiff, Nat.reduceAdd, Nat.reduceMul, Nat.reduceSub, reduceCtorEq, putAt, unE, Nat.reduceBEq, convE, buildE, List.replicate, Int.reduceLT, Int.reduceLE, Int.reduceToNat, mkE, mapSetE, hN, hF, ty_3, ty_5, ty_47, ty_170, notIf, isEq, h3, h4, bytes_length]
      all_goals try refine drawnP_intro (by kernel_rfl) (by kernel_rfl) ?_
      all_goals
        simp only [decide_eq_false_iff_not, decide_eq_true_eq, gt_iff_lt, bne_iff_ne, ne_eq, bne_eq_false_iff_eq] at h3 h4
        rw [show (16384 : Int) = ((16384 : Nat) : Int) from rfl, Int.ofNat_lt] at h3
      all_goals
        try simp only [runA, runB, runC, runD, runE, runF, fieldE, storeE, binE, ↓reduceIte, Nat.reduceLT, Nat.reduceLeDiff, Nat.reduceEqDiff, Nat.reduceAdd, Nat.reduceMul, Nat.reduceSub, reduceCtorEq, putAt, unE, Nat.reduceBEq, convE, buildE, List.replicate, Int.reduceLT, Int.reduceLE, Int.reduceToNat, mkE, mapSetE, hN, hF, ty_3, ty_5, ty_47, ty_170, bytes_length]
      all_goals
        simp only [runB, finC, finD, Option.isSome_some, Option.isSome_none, ↓reduceIte, Nat.reduceEqDiff, Nat.reduceAdd, Nat.reduceMul, forall_eq_or_imp, forall_eq, implies_true, Nat.reduceBEq, reduceCtorEq, false_implies, List.zip_cons_cons, List.zip_nil_left, List.zip_nil_right, Nat.reduceLeDiff, List.forall_mem_nil, rs_110, bytes_length]
      all_goals simp [doneR, h3, h4, bytes]
    · cases hr
  · cases hr


variable {Γ : FuncId → Contract}


variable {Γ : FuncId → Contract}

theorem bytes_take (l : List UInt8) (n : Nat) : (bytes l).take n = bytes (l.take n) := by simp [bytes, List.map_take]
theorem bytes_drop (l : List UInt8) (n : Nat) : (bytes l).drop n = bytes (l.drop n) := by simp [bytes, List.map_drop]

structure RS where
  b : List UInt8
  e : Int
  deriving DecidableEq
/-- Octets as a number. -/
def getB (l : List UInt8) : Int := ((l.foldl (fun (u : Nat) c => (u * 256 + c.toNat) % 4611686018427387904) 0 : Nat) : Int)
def getC : Contract := fun args objs => match args, objs with
  | [.c (.sl rows)], [] => match asB rows with
    | some b => if b.length ≤ 9223372036854775807 then some ⟨[.pv (.c (.int .i64 (getB b)))], []⟩ else none
    | none => none
  | _, _ => none
def getTo (l : List UInt8) (i : Nat) : Nat := (l.take i).foldl (fun (u : Nat) c => (u * 256 + c.toNat) % 4611686018427387904) 0
theorem getTo_lt (l : List UInt8) (i : Nat) : getTo l i < 4611686018427387904 := by
  unfold getTo
  have : ∀ (l : List UInt8) (u : Nat), u < 4611686018427387904 → l.foldl (fun (u : Nat) c => (u * 256 + c.toNat) % 4611686018427387904) u < 4611686018427387904 := by
    intro l
    induction l with
    | nil => intro u h; exact h
    | cons c l ih => intro u h; exact ih _ (Nat.mod_lt _ (by decide))
  exact this _ _ (by decide)


variable {Γ : FuncId → Contract}

def gotTo (l : List UInt8) (i : Nat) : Nat := (l.take i).foldl (fun (u : Nat) c => (u * 256 + c.toNat) % 18446744073709551616) 0
theorem gotTo_succ {l : List UInt8} {i : Nat} {c : UInt8} (h : l[i]? = some c) : gotTo l (i + 1) = (gotTo l i * 256 + c.toNat) % 18446744073709551616 := by
  unfold gotTo
  rw [List.take_add_one, h, List.foldl_append]
  rfl
theorem gotTo_lt (l : List UInt8) (i : Nat) : gotTo l i < 18446744073709551616 := by
  unfold gotTo
  have : ∀ (l : List UInt8) (u : Nat), u < 18446744073709551616 → l.foldl (fun (u : Nat) c => (u * 256 + c.toNat) % 18446744073709551616) u < 18446744073709551616 := by
    intro l
    induction l with
    | nil => intro u h; exact h
    | cons c l ih => intro u h; exact ih _ (Nat.mod_lt _ (by decide))
  exact this _ _ (by decide)
theorem gotTo_getTo (l : List UInt8) (i : Nat) : gotTo l i % 4611686018427387904 = getTo l i := by
  unfold gotTo getTo
  have : ∀ (l : List UInt8) (u v : Nat), u % 4611686018427387904 = v → l.foldl (fun (u : Nat) c => (u * 256 + c.toNat) % 18446744073709551616) u % 4611686018427387904 = l.foldl (fun (u : Nat) c => (u * 256 + c.toNat) % 4611686018427387904) v := by
    intro l
    induction l with
    | nil => intro u v h; exact h
    | cons c l ih =>
      intro u v h
      refine ih _ _ ?_
      rw [← h]
      show (u * 256 + c.toNat) % 18446744073709551616 % 4611686018427387904 = (u % 4611686018427387904 * 256 + c.toNat) % 4611686018427387904
      omega
  exact this _ _ _ (by decide)

theorem or_low (a c : Nat) (hc : c < 256) (h : a * 256 + c < 18446744073709551616) : (BitVec.ofInt 64 ((a * 256 : Nat) : Int) ||| BitVec.ofInt 64 (c : Int)).toNat = a * 256 + c := by
  rw [BitVec.toNat_or]
  simp only [BitVec.ofInt_natCast, BitVec.toNat_ofNat]
  rw [show (2 : Nat) ^ 64 = 18446744073709551616 from rfl]
  have h1 : a * 256 % 18446744073709551616 = a * 256 := Nat.mod_eq_of_lt (Nat.lt_of_le_of_lt (Nat.le_add_right _ _) h)
  have h2 : c % 18446744073709551616 = c := Nat.mod_eq_of_lt (Nat.lt_of_lt_of_le hc (by decide))
  rw [h1, h2]
  have h3 : a * 256 = 2 ^ 8 * a := Nat.mul_comm a 256
  rw [h3]
  exact (Nat.two_pow_add_eq_or_of_lt (i := 8) hc a).symm

theorem or_stepA (g c : Nat) (hc : c < 256) : IntKind.u64.wrap (((BitVec.ofInt IntKind.u64.bits (((g * 256) % 18446744073709551616 : Nat) : Int) ||| BitVec.ofInt IntKind.u64.bits (c : Int)).toNat : Nat) : Int) = (((g * 256 + c) % 18446744073709551616 : Nat) : Int) := by
  have h1 : (g * 256) % 18446744073709551616 = (g % 72057594037927936) * 256 := by omega
  have h2 : (g % 72057594037927936) * 256 + c < 18446744073709551616 := by omega
  have h3 : (g * 256 + c) % 18446744073709551616 = (g % 72057594037927936) * 256 + c := by
    rw [Nat.add_mod, h1, Nat.mod_eq_of_lt (Nat.lt_of_lt_of_le hc (by decide) : c < 18446744073709551616), Nat.mod_eq_of_lt h2]
  rw [h1, h3]
  have := or_low (g % 72057594037927936) c hc h2
  rw [show IntKind.u64.bits = 64 from rfl, this]
  exact wrapU (by omega)
theorem and_step (g : Nat) : IntKind.u64.wrap (((BitVec.ofInt IntKind.u64.bits ((g : Nat) : Int) &&& BitVec.ofInt IntKind.u64.bits 4611686018427387903).toNat : Nat) : Int) = ((g % 4611686018427387904 : Nat) : Int) := by
  rw [show IntKind.u64.bits = 64 from rfl, BitVec.toNat_and]
  rw [show BitVec.ofInt 64 4611686018427387903 = BitVec.ofNat 64 4611686018427387903 from rfl]
  simp only [BitVec.ofInt_natCast, BitVec.toNat_ofNat]
  rw [show (2 : Nat) ^ 64 = 18446744073709551616 from rfl]
  rw [show (4611686018427387903 : Nat) % 18446744073709551616 = 2 ^ 62 - 1 from rfl, Nat.and_two_pow_sub_one_eq_mod, show (2 : Nat) ^ 62 = 4611686018427387904 from rfl]
  have : g % 18446744073709551616 % 4611686018427387904 = g % 4611686018427387904 := by omega
  rw [this]
  exact wrapU (by omega)

set_option maxHeartbeats 4000000 in
theorem get_sound : SoundC Tryz.prog 113 getC := by
  refine sound_fn Tryz.func113 (by kernel_rfl) rfl rfl ?_
  intro args objs r hr
  unfold getC at hr
  split at hr
  · split at hr
    · rename_i rows _ b hb
      split at hr
      · rename_i hc
        obtain rfl := asB_inv hb
        cases hr
        refine ⟨rfl, by show 1 ≤ _; decide, fun E hN hns hF => ?_⟩
        refine vc_sound none0_sound mixed _ _ _ ?_
        have hN := hN.trans nt_113
        simp only [runA, runB, runC, runD, runE, runF, fieldE, storeE, binE, ↓reduceIte, Nat.reduceLT, Nat.reduceLeDiff, Nat.reduceEqDiff, Nat.reduceAdd, Nat.reduceMul, Nat.reduceSub, reduceCtorEq, putAt, unE, Nat.reduceBEq, convE, buildE, List.replicate, Int.reduceLT, Int.reduceLE, Int.reduceToNat, mkE, mapSetE, hN, hF, ty_3, ty_5, ty_47, ty_195, notIf, isEq, bytes_length]
        refine AWP.loop (fun c s => ∃ i : Nat, i ≤ b.length ∧ c = b.length - i ∧ s = ⟨[(3, .c (.int .u64 (gotTo b i : Nat))), (6, .c (.sl (bytes b))), (7, .c (.int .i64 (b.length : Int))), (8, .c (.int .i64 (i : Int)))], []⟩) ⟨b.length, _, ?w, 0, Nat.zero_le _, rfl, rfl⟩ ?r
        case w =>
          rw [hns]
          simp only [runB, finC, finD, AS.get, AS.mem, false_implies, implies_true, ↓reduceIte, Nat.reduceEqDiff, Option.isSome_some, Option.isSome_none, forall_eq_or_imp, forall_eq, reduceCtorEq, Nat.reduceAdd, Nat.reduceMul, List.zip_cons_cons, List.zip_nil_left, List.zip_nil_right, List.forall_mem_nil]
          simp [gotTo]
        case r =>
          rintro c s ⟨i, hi, rfl, rfl⟩
          refine vc_sound none0_sound mixed _ _ _ ?_
          by_cases hlt : i < b.length
          · have h1 : decide ((i : Int) < (b.length : Int)) = true := by simpa using hlt
            obtain ⟨x, hx⟩ : ∃ x, b[i]? = some x := ⟨b[i], by simp [hlt]⟩
            have hxr : (bytes b)[i]? = some [PC.int .u8 (x.toNat : Int)] := by simp [bytes, hx]
            have hs := gotTo_succ hx
            have hlt2 := gotTo_lt b i
            have hx256 := x.toNat_lt
            have e2 : IntKind.u64.wrap (x.toNat : Int) = (x.toNat : Int) := wrapU (by omega)
            have e5 : IntKind.i64.wrap ((i : Int) + 1) = (i : Int) + 1 := wrapI (by omega)
            have e6 : shOp .shl .u64 ((gotTo b i : Nat) : Int) 8 = some (.int .u64 (((gotTo b i * 256) % 18446744073709551616 : Nat) : Int)) := by
              have hm : min (8 : Int).toNat IntKind.u64.bits = 8 := rfl
              simp only [shOp, if_neg (show ¬ ((8 : Int) < 0) by decide), hm]
              rw [IntKind.wrap_u64]
              congr 2
            have e7 := or_stepA (gotTo b i) x.toNat (by omega)
            rw [← hs] at e7
            simp only [runA, runB, runC, runD, runE, runF, fieldE, storeE, binE, ↓reduceIte, Nat.reduceLT, Nat.reduceLeDiff, Nat.reduceEqDiff, Nat.reduceAdd, Nat.reduceMul, Nat.reduceSub, reduceCtorEq, putAt, unE, Nat.reduceBEq, convE, buildE, List.replicate, Int.reduceLT, Int.reduceLE, Int.reduceToNat, mkE, mapSetE, hN, hF, ty_3, ty_5, ty_47, ty_195, notIf, isEq, bytes_length, h1, hxr, e2, e5, e6, e7]
            refine ⟨b.length - (i + 1), _, by omega, ?_, i + 1, by omega, rfl, rfl⟩
            rw [hns]
            simp only [runB, finC, finD, AS.get, AS.mem, false_implies, implies_true, ↓reduceIte, Nat.reduceEqDiff, Option.isSome_some, Option.isSome_none, forall_eq_or_imp, forall_eq, reduceCtorEq, Nat.reduceAdd, Nat.reduceMul, List.zip_cons_cons, List.zip_nil_left, List.zip_nil_right, List.forall_mem_nil]
            first | done | simp
          · have h1 : decide ((i : Int) < (b.length : Int)) = false := by simpa using hlt
            obtain rfl : i = b.length := by omega
            have e8 := and_step (gotTo b b.length)
            rw [gotTo_getTo] at e8
            have hlt2 := getTo_lt b b.length
            have e4 : IntKind.i64.wrap (getTo b b.length : Int) = (getTo b b.length : Int) := wrapI (by omega)
            simp only [runA, runB, runC, runD, runE, runF, fieldE, storeE, binE, ↓reduceIte, Nat.reduceLT, Nat.reduceLeDiff, Nat.reduceEqDiff, Nat.reduceAdd, Nat.reduceMul, Nat.reduceSub, reduceCtorEq, putAt, unE, Nat.reduceBEq, convE, buildE, List.replicate, Int.reduceLT, Int.reduceLE, Int.reduceToNat, mkE, mapSetE, hN, hF, ty_3, ty_5, ty_47, ty_195, notIf, isEq, bytes_length, h1, e8, e4]
            simp only [runB, finC, finD, Option.isSome_some, Option.isSome_none, ↓reduceIte, Nat.reduceEqDiff, Nat.reduceAdd, Nat.reduceMul, forall_eq_or_imp, forall_eq, implies_true, Nat.reduceBEq, reduceCtorEq, false_implies, List.zip_cons_cons, List.zip_nil_left, List.zip_nil_right, Nat.reduceLeDiff, List.forall_mem_nil, rs_113]
            simp [getB, getTo]
      · cases hr
    · cases hr
  · cases hr


variable {Γ : FuncId → Contract}

/-- The next number, of a reader that is ready. -/
def nextN (r : RS) (most : Int) : Int × RS :=
  if r.b.length < 6 then (0, ⟨[], 8⟩) else
  if 1099511627776 < getB (r.b.take 6) ∨ most < getB (r.b.take 6) then (0, ⟨[], 4⟩) else (getB (r.b.take 6), ⟨r.b.drop 6, 0⟩)

variable {Γ : FuncId → Contract}

theorem getB_nonneg (l : List UInt8) : 0 ≤ getB l := by unfold getB; omega

end Go.Proofs.YtenmlgalcjkdbaaGreat.AM
