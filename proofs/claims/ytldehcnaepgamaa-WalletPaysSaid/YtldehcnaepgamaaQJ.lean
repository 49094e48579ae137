/-
  QJ: Wa1 Wa2 Wa3 Wa4.
-/
import Derived.Test.YtldehcnaepgamaaQF
import Derived.Test.YtldehcnaepgamaaQG
set_option linter.unusedVariables false
set_option linter.unusedSimpArgs false
namespace Go.Proofs.Ytldehcnaepgamaa.AM
open Go

variable {Γ : FuncId → Contract}


structure Wl where
  cl : Int
  key : Ky
  no : Int
  sent : List Txn
def Wl.av (w : Wl) : AV := .agg [.c (.int .i64 w.cl), .c (.str w.key.seed), .c (.sl (texts w.key.leaves)), .c (.int .i64 w.key.next), .c (.int .i64 w.no), .c (.sl (trows w.sent))]
theorem Wl.av_inj {a b : Wl} (h : a.av = b.av) : a = b := by
  obtain ⟨a0, ⟨a1, a2, a3⟩, a4, a5⟩ := a
  obtain ⟨b0, ⟨b1, b2, b3⟩, b4, b5⟩ := b
  simp only [Wl.av, AV.agg.injEq, List.cons.injEq, AV.c.injEq, PC.sl.injEq, PC.int.injEq, PC.str.injEq, texts_iff, trows_iff, true_and, and_true] at h
  obtain ⟨rfl, rfl, rfl, rfl, rfl, rfl⟩ := h
  rfl
theorem Wl.av_iff {a b : Wl} : a.av = b.av ↔ a = b := ⟨Wl.av_inj, fun h => by rw [h]⟩
def zeroW : Wl := ⟨0, zeroK, 0, []⟩
def okW (w : Wl) : Prop := (0 ≤ w.cl ∧ w.cl ≤ 3) ∧ goodK w.key ∧ (0 ≤ w.no ∧ w.no ≤ 1099511627776) ∧ (w.sent.length : Int) = w.no ∧ ∀ i, i < w.sent.length → (w.sent.getD i zeroT).fr = w.cl ∧ (w.sent.getD i zeroT).no = (i : Int)
open Classical in
noncomputable def chkW (w : Wl) : Int := if okW w then 0 else 9
set_option maxHeartbeats 1000000 in
theorem wclient_sound : SoundC Try.prog 74 clientC := by
  refine sound_fn Try.func74 (by kernel_rfl) rfl rfl ?_
  intro args objs r hr
  unfold clientC at hr
  split at hr
  · rename_i n
    cases hr
    refine ⟨rfl, by show 1 ≤ _; decide, fun E hN hns hF => ?_⟩
    refine vc_sound none0_sound mixed _ _ _ ?_
    have hN := hN.trans nt_74
    simp +contextual (maxSteps := 10000000) only [runA, runB, runC, runD, runE, runF, fieldE, storeE, binE, ↓reduceIte, Nat.reduceLT, Nat.reduceLeDiff, Nat.reduceEqDiff, Nat.reduceAdd, Nat.reduceMul, Nat.reduceSub, reduceCtorEq, putAt, unE, Nat.reduceBEq, convE, buildE, List.replicate, Int.reduceLT, Int.reduceLE, Int.reduceToNat, mkE, mapSetE, hN, hF, ty_3, ty_4, notIf, isEq, bytes_length, false_implies, implies_true]
    simp only [runB, finC, finD, Option.isSome_some, Option.isSome_none, ↓reduceIte, Nat.reduceEqDiff, Nat.reduceAdd, Nat.reduceMul, forall_eq_or_imp, forall_eq, implies_true, Nat.reduceBEq, reduceCtorEq, false_implies, List.zip_cons_cons, List.zip_nil_left, List.zip_nil_right, Nat.reduceLeDiff, List.forall_mem_nil, rs_74]
  · cases hr

noncomputable def clnFC : Contract := mkC (α := List Txn) (fun l => l.length ≤ 1099511627776) (fun l => [.c (.sl (trows l))]) (fun _ => []) (fun l => ⟨[.fresh 5 (trows l)], []⟩)
theorem clnF_at (l : List Txn) (h : l.length ≤ 1099511627776) : clnFC [.c (.sl (trows l))] [] = some ⟨[.fresh 5 (trows l)], []⟩ :=
  mkC_at (α := List Txn) l h (by
    rintro y _ h _
    simp only [List.cons.injEq, AV.c.injEq, PC.sl.injEq, trows_iff, and_true] at h
    rw [h])
set_option maxRecDepth 100000 in
set_option maxHeartbeats 4000000 in
theorem clnF_sound  : SoundC Try.prog 73 clnFC := by
  refine sound_fn Try.func73 (by kernel_rfl) rfl rfl ?_
  intro args objs r0 hr
  obtain ⟨l, hl, rfl, rfl, rfl⟩ := mkC_inv hr
  refine ⟨rfl, by show 1 ≤ _; decide, fun E hN hns hF => ?_⟩
  refine vc_sound none0_sound mixed _ _ _ ?_
  have hN := hN.trans nt_73
  have hl : l.length ≤ 1099511627776 := hl
  have hz := rowsOK_trows l
  have hz0 : rowsOK 5 [] := fun _ h => by cases h
  cases l with
  | nil =>
    simp only [trows_nil, runA, runB, runC, runD, runE, runF, fieldE, storeE, binE, ↓reduceIte, Nat.reduceLT, Nat.reduceLeDiff, Nat.reduceEqDiff, Nat.reduceAdd, Nat.reduceMul, Nat.reduceSub, reduceCtorEq, putAt, unE, Nat.reduceBEq, convE, buildE, List.replicate, Int.reduceLT, Int.reduceLE, Int.reduceToNat, mkE, mapSetE, hN, hF, ty_50, ty_54, notIf, isEq, hz0]
    constructor
    all_goals simp only [runB, finC, finD, Option.isSome_some, Option.isSome_none, ↓reduceIte, Nat.reduceEqDiff, Nat.reduceAdd, Nat.reduceMul, forall_eq_or_imp, forall_eq, implies_true, Nat.reduceBEq, reduceCtorEq, false_implies, List.zip_cons_cons, List.zip_nil_left, List.zip_nil_right, Nat.reduceLeDiff, List.forall_mem_nil, rs_73]
  | cons x l =>
    have hx : trows (x :: l) = x.pcs :: trows l := rfl
    have hxl : (trows l).length = l.length := trows_length l
    rw [List.length_cons] at hl
    have hL : (0 + (l.length + 1)) * 48 ≤ 140737488355328 := by omega
    have hL2 : (l.length + 1) * 48 ≤ 140737488355328 := by omega
    rw [hx] at hz ⊢
    simp only [runA, runB, runC, runD, runE, runF, fieldE, storeE, binE, ↓reduceIte, Nat.reduceLT, Nat.reduceLeDiff, Nat.reduceEqDiff, Nat.reduceAdd, Nat.reduceMul, Nat.reduceSub, reduceCtorEq, putAt, unE, Nat.reduceBEq, convE, buildE, List.replicate, Int.reduceLT, Int.reduceLE, Int.reduceToNat, mkE, mapSetE, hN, hF, ty_50, ty_54, notIf, isEq, hz, hL, hL2, hxl]
    simp only [runB, finC, finD, Option.isSome_some, Option.isSome_none, ↓reduceIte, Nat.reduceEqDiff, Nat.reduceAdd, Nat.reduceMul, forall_eq_or_imp, forall_eq, implies_true, Nat.reduceBEq, reduceCtorEq, false_implies, List.zip_cons_cons, List.zip_nil_left, List.zip_nil_right, Nat.reduceLeDiff, List.forall_mem_nil, rs_73, hxl]

noncomputable def nwW (n : Int) : Wl := if 0 ≤ n ∧ n ≤ 3 then ⟨n, txKeyK n, 0, []⟩ else zeroW
def nwE (n : Int) : Int := if 0 ≤ n ∧ n ≤ 3 then 0 else 4
noncomputable def nwC : Contract := mkC (α := Int) (fun p => True) (fun p => [.c (.int .i64 p)]) (fun p => []) (fun p => ⟨[.pv (nwW p).av, .pv (.c (.int .i64 (nwE p)))], []⟩)
theorem nw_at (n : Int) : nwC [.c (.int .i64 n)] [] = some ⟨[.pv (nwW n).av, .pv (.c (.int .i64 (nwE n)))], []⟩ := by
  exact mkC_at (α := Int) n trivial (by
    rintro n' _ h ho
    have hh := And.intro h ho
    clear h ho
    simp only [List.cons.injEq, AV.c.injEq, AV.agg.injEq, PC.int.injEq, PC.str.injEq, PC.bool.injEq, PC.sl.injEq, OV.c.injEq, OV.own.injEq, OV.mp.injEq, bytes_iff, texts_iff, true_and, and_true, and_self, beq_self_eq_true] at hh
    simp only [hh])

set_option maxRecDepth 100000 in
set_option maxHeartbeats 4000000 in
theorem nw_sound (hΓ : SoundG Try.prog Γ) (h1 : Γ 74 = clientC) (h2 : Γ 35 = txKeyC) : SoundC Try.prog 34 nwC := by
  refine sound_fn Try.func34 (by kernel_rfl) rfl rfl ?_
  intro args objs r0 hr
  obtain ⟨n, _, rfl, rfl, rfl⟩ := mkC_inv hr
  refine ⟨rfl, by show 1 ≤ _; decide, fun E hN hns hF => ?_⟩
  refine vc_sound hΓ mixed _ _ _ ?_
  have hN := hN.trans nt_34
  have nt1 : (!true) = false := rfl
  have ntf : (!false) = true := rfl
  unfold nwW nwE
  by_cases hn : 0 ≤ n ∧ n ≤ 3
  · have q1 := client_t hn
    have q2 := txKey_at n
    rw [if_pos hn, if_pos hn]
    unfold Ky.av at q2
    unfold Wl.av
    dsimp only
    generalize txKeyK n = k at q2 ⊢
    simp only [runA, runB, runC, runD, runE, runF, fieldE, storeE, binE, ↓reduceIte, Nat.reduceLT, Nat.reduceLeDiff, Nat.reduceEqDiff, Nat.reduceAdd, Nat.reduceMul, Nat.reduceSub, reduceCtorEq, putAt, unE, Nat.reduceBEq, convE, buildE, List.replicate, Int.reduceLT, Int.reduceLE, Int.reduceToNat, mkE, mapSetE, hN, hF, ty_3, ty_4, ty_24, ty_27, ty_50, ty_52, notIf, isEq, h1, q1, nt1, h2, q2]
    simp only [runB, finC, finD, Option.isSome_some, Option.isSome_none, ↓reduceIte, Nat.reduceEqDiff, Nat.reduceAdd, Nat.reduceMul, forall_eq_or_imp, forall_eq, implies_true, Nat.reduceBEq, reduceCtorEq, false_implies, List.zip_cons_cons, List.zip_nil_left, List.zip_nil_right, Nat.reduceLeDiff, List.forall_mem_nil, rs_34, ty_3, ty_4, ty_24, ty_27, ty_50, ty_52, trows_nil]
  · have q1 := client_f hn
    rw [if_neg hn, if_neg hn]
    unfold Wl.av zeroW zeroK
    dsimp only
    simp only [runA, runB, runC, runD, runE, runF, fieldE, storeE, binE, ↓reduceIte, Nat.reduceLT, Nat.reduceLeDiff, Nat.reduceEqDiff, Nat.reduceAdd, Nat.reduceMul, Nat.reduceSub, reduceCtorEq, putAt, unE, Nat.reduceBEq, convE, buildE, List.replicate, Int.reduceLT, Int.reduceLE, Int.reduceToNat, mkE, mapSetE, hN, hF, ty_3, ty_4, ty_24, ty_27, ty_50, ty_52, notIf, isEq, h1, q1, ntf]
    simp only [runB, finC, finD, Option.isSome_some, Option.isSome_none, ↓reduceIte, Nat.reduceEqDiff, Nat.reduceAdd, Nat.reduceMul, forall_eq_or_imp, forall_eq, implies_true, Nat.reduceBEq, reduceCtorEq, false_implies, List.zip_cons_cons, List.zip_nil_left, List.zip_nil_right, Nat.reduceLeDiff, List.forall_mem_nil, rs_34, ty_3, ty_4, ty_24, ty_27, ty_50, ty_52, trows_nil, texts, List.map_nil]
noncomputable def wckC : Contract := mkC (α := Wl) (fun p => p.key.leaves.length ≤ 9223372036854775807 ∧ p.sent.length ≤ 9223372036854775807) (fun p => [p.av]) (fun p => []) (fun p => ⟨[.pv (.c (.int .i64 (chkW p)))], []⟩)
theorem wck_at (wcl : Int) (wseed : List UInt8) (wlv : List (List UInt8)) (wnx : Int) (wno : Int) (wsent : List Txn) (g0 : wlv.length ≤ 9223372036854775807) (g1 : wsent.length ≤ 9223372036854775807) : wckC [(.agg [.c (.int .i64 wcl), .c (.str wseed), .c (.sl (texts wlv)), .c (.int .i64 wnx), .c (.int .i64 wno), .c (.sl (trows wsent))])] [] = some ⟨[.pv (.c (.int .i64 (chkW (⟨wcl, ⟨wseed, wlv, wnx⟩, wno, wsent⟩ : Wl))))], []⟩ := by
  exact mkC_at (α := Wl) ⟨wcl, ⟨wseed, wlv, wnx⟩, wno, wsent⟩ ⟨g0, g1⟩ (by
    rintro w' _ h ho
    have hh := And.intro h ho
    clear h ho
    simp only [List.cons.injEq, AV.c.injEq, AV.agg.injEq, PC.int.injEq, PC.str.injEq, PC.bool.injEq, PC.sl.injEq, OV.c.injEq, OV.own.injEq, OV.mp.injEq, bytes_iff, texts_iff, true_and, and_true, and_self, beq_self_eq_true, Wl.av_iff] at hh
    simp only [hh])


variable {Γ : FuncId → Contract}


set_option maxRecDepth 100000 in
set_option maxHeartbeats 4000000 in
theorem wck_sound (hΓ : SoundG Try.prog Γ) (hC : Γ 74 = clientC) (hK : Γ 19 = keyC) : SoundC Try.prog 30 wckC := by
  refine sound_fn Try.func30 (by kernel_rfl) rfl rfl ?_
  intro args objs r0 hr
  obtain ⟨⟨cl, ⟨seed, lv, nx⟩, no, sent⟩, ⟨hlv, hsn⟩, rfl, rfl, rfl⟩ := mkC_inv hr
  refine ⟨rfl, by show 1 ≤ _; decide, fun E hN hns hF => ?_⟩
  refine vc_sound hΓ mixed _ _ _ ?_
  have hN := hN.trans nt_30
  have hlv : lv.length ≤ 9223372036854775807 := hlv
  have hsn : sent.length ≤ 9223372036854775807 := hsn
  have hsl := trows_length sent
  have hll := texts_length lv
  have nt1 : (!true) = false := rfl
  have ntf : (!false) = true := rfl
  have b9 : ((9 : Int) != 0) = true := rfl
  have b0 : ((0 : Int) != 0) = false := rfl
  have qk := key_at ⟨seed, lv, nx⟩ hlv
  unfold Wl.av
  dsimp only at qk ⊢
  obtain ⟨R, hR⟩ : ∃ R, R = chkW ⟨cl, ⟨seed, lv, nx⟩, no, sent⟩ := ⟨_, rfl⟩
  rw [← hR]
  have hbad : ¬ okW ⟨cl, ⟨seed, lv, nx⟩, no, sent⟩ → R = 9 := fun h => by rw [hR]; exact if_neg h
  by_cases c1 : 0 ≤ cl ∧ cl ≤ 3
  case neg =>
    have qc := client_f c1
    rw [hbad (fun h => c1 h.1)]
    simp only [runA, runB, runC, runD, runE, runF, fieldE, storeE, binE, ↓reduceIte, Nat.reduceLT, Nat.reduceLeDiff, Nat.reduceEqDiff, Nat.reduceAdd, Nat.reduceMul, Nat.reduceSub, reduceCtorEq, putAt, unE, Nat.reduceBEq, convE, buildE, List.replicate, Int.reduceLT, Int.reduceLE, Int.reduceToNat, mkE, mapSetE, hN, hF, ty_3, ty_4, ty_9, ty_22, ty_24, ty_27, ty_50, ty_52, ty_54, notIf, isEq, hsl, hll, nt1, ntf, b9, b0, hC, qc]
    simp only [runB, finC, finD, Option.isSome_some, Option.isSome_none, ↓reduceIte, Nat.reduceEqDiff, Nat.reduceAdd, Nat.reduceMul, forall_eq_or_imp, forall_eq, implies_true, Nat.reduceBEq, reduceCtorEq, false_implies, List.zip_cons_cons, List.zip_nil_left, List.zip_nil_right, Nat.reduceLeDiff, List.forall_mem_nil, rs_30, ty_3, ty_4, ty_9, ty_22, ty_24, ty_27, ty_50, ty_52, ty_54]
  have qc := client_t c1
  by_cases c2 : goodK ⟨seed, lv, nx⟩
  case neg =>
    rw [show keyS ⟨seed, lv, nx⟩ = 9 from if_neg c2] at qk
    rw [hbad (fun h => c2 h.2.1)]
    simp only [runA, runB, runC, runD, runE, runF, fieldE, storeE, binE, ↓reduceIte, Nat.reduceLT, Nat.reduceLeDiff, Nat.reduceEqDiff, Nat.reduceAdd, Nat.reduceMul, Nat.reduceSub, reduceCtorEq, putAt, unE, Nat.reduceBEq, convE, buildE, List.replicate, Int.reduceLT, Int.reduceLE, Int.reduceToNat, mkE, mapSetE, hN, hF, ty_3, ty_4, ty_9, ty_22, ty_24, ty_27, ty_50, ty_52, ty_54, notIf, isEq, hsl, hll, nt1, ntf, b9, b0, hC, qc, hK, qk]
    simp only [runB, finC, finD, Option.isSome_some, Option.isSome_none, ↓reduceIte, Nat.reduceEqDiff, Nat.reduceAdd, Nat.reduceMul, forall_eq_or_imp, forall_eq, implies_true, Nat.reduceBEq, reduceCtorEq, false_implies, List.zip_cons_cons, List.zip_nil_left, List.zip_nil_right, Nat.reduceLeDiff, List.forall_mem_nil, rs_30, ty_3, ty_4, ty_9, ty_22, ty_24, ty_27, ty_50, ty_52, ty_54]
  rw [show keyS ⟨seed, lv, nx⟩ = 0 from if_pos c2] at qk
  by_cases c3 : no < 0
  · have k3 : decide (no < 0) = true := decide_eq_true c3
    rw [hbad (fun h => by have := h.2.2.1.1; dsimp only at this; omega)]
    simp only [runA, runB, runC, runD, runE, runF, fieldE, storeE, binE, ↓reduceIte, Nat.reduceLT, Nat.reduceLeDiff, Nat.reduceEqDiff, Nat.reduceAdd, Nat.reduceMul, Nat.reduceSub, reduceCtorEq, putAt, unE, Nat.reduceBEq, convE, buildE, List.replicate, Int.reduceLT, Int.reduceLE, Int.reduceToNat, mkE, mapSetE, hN, hF, ty_3, ty_4, ty_9, ty_22, ty_24, ty_27, ty_50, ty_52, ty_54, notIf, isEq, hsl, hll, nt1, ntf, b9, b0, hC, qc, hK, qk, k3]
    simp only [runB, finC, finD, Option.isSome_some, Option.isSome_none, ↓reduceIte, Nat.reduceEqDiff, Nat.reduceAdd, Nat.reduceMul, forall_eq_or_imp, forall_eq, implies_true, Nat.reduceBEq, reduceCtorEq, false_implies, List.zip_cons_cons, List.zip_nil_left, List.zip_nil_right, Nat.reduceLeDiff, List.forall_mem_nil, rs_30, ty_3, ty_4, ty_9, ty_22, ty_24, ty_27, ty_50, ty_52, ty_54]
  have k3 : decide (no < 0) = false := decide_eq_false c3
  by_cases c4 : no > 1099511627776
  · have k4 : decide (no > 1099511627776) = true := decide_eq_true c4
    rw [hbad (fun h => by have := h.2.2.1.2; dsimp only at this; omega)]
    simp only [runA, runB, runC, runD, runE, runF, fieldE, storeE, binE, ↓reduceIte, Nat.reduceLT, Nat.reduceLeDiff, Nat.reduceEqDiff, Nat.reduceAdd, Nat.reduceMul, Nat.reduceSub, reduceCtorEq, putAt, unE, Nat.reduceBEq, convE, buildE, List.replicate, Int.reduceLT, Int.reduceLE, Int.reduceToNat, mkE, mapSetE, hN, hF, ty_3, ty_4, ty_9, ty_22, ty_24, ty_27, ty_50, ty_52, ty_54, notIf, isEq, hsl, hll, nt1, ntf, b9, b0, hC, qc, hK, qk, k3, k4]
    simp only [runB, finC, finD, Option.isSome_some, Option.isSome_none, ↓reduceIte, Nat.reduceEqDiff, Nat.reduceAdd, Nat.reduceMul, forall_eq_or_imp, forall_eq, implies_true, Nat.reduceBEq, reduceCtorEq, false_implies, List.zip_cons_cons, List.zip_nil_left, List.zip_nil_right, Nat.reduceLeDiff, List.forall_mem_nil, rs_30, ty_3, ty_4, ty_9, ty_22, ty_24, ty_27, ty_50, ty_52, ty_54]
  have k4 : decide (no > 1099511627776) = false := decide_eq_false c4
  by_cases c5 : (sent.length : Int) = no
  case neg =>
    have k5 : ((sent.length : Int) != no) = true := by rw [bne_iff_ne]; exact c5
    rw [hbad (fun h => c5 h.2.2.2.1)]
    simp only [runA, runB, runC, runD, runE, runF, fieldE, storeE, binE, ↓reduceIte, Nat.reduceLT, Nat.reduceLeDiff, Nat.reduceEqDiff, Nat.reduceAdd, Nat.reduceMul, Nat.reduceSub, reduceCtorEq, putAt, unE, Nat.reduceBEq, convE, buildE, List.replicate, Int.reduceLT, Int.reduceLE, Int.reduceToNat, mkE, mapSetE, hN, hF, ty_3, ty_4, ty_9, ty_22, ty_24, ty_27, ty_50, ty_52, ty_54, notIf, isEq, hsl, hll, nt1, ntf, b9, b0, hC, qc, hK, qk, k3, k4, k5]
    simp only [runB, finC, finD, Option.isSome_some, Option.isSome_none, ↓reduceIte, Nat.reduceEqDiff, Nat.reduceAdd, Nat.reduceMul, forall_eq_or_imp, forall_eq, implies_true, Nat.reduceBEq, reduceCtorEq, false_implies, List.zip_cons_cons, List.zip_nil_left, List.zip_nil_right, Nat.reduceLeDiff, List.forall_mem_nil, rs_30, ty_3, ty_4, ty_9, ty_22, ty_24, ty_27, ty_50, ty_52, ty_54]
  have k5 : ((sent.length : Int) != no) = false := by rw [c5, bne_self_eq_false]
  have hgood : (∀ j, j < sent.length → (sent.getD j zeroT).fr = cl ∧ (sent.getD j zeroT).no = (j : Int)) → R = 0 := fun h => by rw [hR]; exact if_pos ⟨⟨by dsimp only; omega, by dsimp only; omega⟩, c2, ⟨by dsimp only; omega, by dsimp only; omega⟩, c5, h⟩
  simp only [runA, runB, runC, runD, runE, runF, fieldE, storeE, binE, ↓reduceIte, Nat.reduceLT, Nat.reduceLeDiff, Nat.reduceEqDiff, Nat.reduceAdd, Nat.reduceMul, Nat.reduceSub, reduceCtorEq, putAt, unE, Nat.reduceBEq, convE, buildE, List.replicate, Int.reduceLT, Int.reduceLE, Int.reduceToNat, mkE, mapSetE, hN, hF, ty_3, ty_4, ty_9, ty_22, ty_24, ty_27, ty_50, ty_52, ty_54, notIf, isEq, hsl, hll, nt1, ntf, b9, b0, hC, qc, hK, qk, k3, k4, k5]
  refine AWP.loop (fun k st => ∃ i : Nat, (i ≤ sent.length ∧ ∀ j, j < i → (sent.getD j zeroT).fr = cl ∧ (sent.getD j zeroT).no = (j : Int)) ∧ k = sent.length - i ∧ st = ⟨[(1, .ptr 64 0), (34, .c (.sl (trows sent))), (35, .c (.int .i64 (sent.length : Int))), (36, .c (.int .i64 (i : Int)))], [(64, .obj [.c (.int .i64 cl), .c (.str seed), .c (.sl (texts lv)), .c (.int .i64 nx), .c (.int .i64 no), .c (.sl (trows sent))] false)]⟩) ⟨sent.length, _, ?w, 0, ⟨Nat.zero_le _, fun j hj => absurd hj (by omega)⟩, rfl, rfl⟩ ?r
  case w =>
    rw [hns]
    simp only [runB, finC, finD, AS.get, AS.mem, false_implies, implies_true, ↓reduceIte, Nat.reduceEqDiff, Option.isSome_some, Option.isSome_none, forall_eq_or_imp, forall_eq, reduceCtorEq, Nat.reduceAdd, Nat.reduceMul, List.zip_cons_cons, List.zip_nil_left, List.zip_nil_right, List.forall_mem_nil]
    first | done | simp
  case r =>
    rintro k st ⟨i, ⟨hi, hall⟩, rfl, rfl⟩
    refine vc_sound hΓ mixed _ _ _ ?_
    by_cases hlt : i < sent.length
    case neg =>
      obtain rfl : i = sent.length := by omega
      have k6 : decide (((sent.length : Nat) : Int) < (sent.length : Int)) = false := decide_eq_false (by omega)
      rw [hgood hall]
      simp only [runA, runB, runC, runD, runE, runF, fieldE, storeE, binE, ↓reduceIte, Nat.reduceLT, Nat.reduceLeDiff, Nat.reduceEqDiff, Nat.reduceAdd, Nat.reduceMul, Nat.reduceSub, reduceCtorEq, putAt, unE, Nat.reduceBEq, convE, buildE, List.replicate, Int.reduceLT, Int.reduceLE, Int.reduceToNat, mkE, mapSetE, hN, hF, ty_3, ty_4, ty_9, ty_22, ty_24, ty_27, ty_50, ty_52, ty_54, notIf, isEq, hsl, hll, nt1, ntf, b9, b0, k6]
      simp only [runB, finC, finD, Option.isSome_some, Option.isSome_none, ↓reduceIte, Nat.reduceEqDiff, Nat.reduceAdd, Nat.reduceMul, forall_eq_or_imp, forall_eq, implies_true, Nat.reduceBEq, reduceCtorEq, false_implies, List.zip_cons_cons, List.zip_nil_left, List.zip_nil_right, Nat.reduceLeDiff, List.forall_mem_nil, rs_30, ty_3, ty_4, ty_9, ty_22, ty_24, ty_27, ty_50, ty_52, ty_54]
    have k6 : decide ((i : Int) < (sent.length : Int)) = true := decide_eq_true (by omega)
    have e1 : IntKind.i64.wrap ((i : Int) + 1) = (i : Int) + 1 := wrapI (by omega)
    have hy := trowsD sent i hlt
    have hbad2 : ¬ ((sent.getD i zeroT).fr = cl ∧ (sent.getD i zeroT).no = (i : Int)) → R = 9 := fun h => hbad (fun ha => h (ha.2.2.2.2 i hlt))
    have hnext : ((sent.getD i zeroT).fr = cl ∧ (sent.getD i zeroT).no = (i : Int)) → ∀ j, j < i + 1 → (sent.getD j zeroT).fr = cl ∧ (sent.getD j zeroT).no = (j : Int) := fun h j hj => by
      by_cases e : j = i
      · rw [e]; exact h
      · exact hall j (by omega)
    unfold Txn.pcs at hy
    generalize sent.getD i zeroT = y at hy hbad2 hnext
    by_cases d1 : y.fr = cl
    case neg =>
      have d1' : (y.fr != cl) = true := by rw [bne_iff_ne]; exact d1
      rw [hbad2 (fun h => d1 h.1)]
      simp only [runA, runB, runC, runD, runE, runF, fieldE, storeE, binE, ↓reduceIte, Nat.reduceLT, Nat.reduceLeDiff, Nat.reduceEqDiff, Nat.reduceAdd, Nat.reduceMul, Nat.reduceSub, reduceCtorEq, putAt, unE, Nat.reduceBEq, convE, buildE, List.replicate, Int.reduceLT, Int.reduceLE, Int.reduceToNat, mkE, mapSetE, hN, hF, ty_3, ty_4, ty_9, ty_22, ty_24, ty_27, ty_50, ty_52, ty_54, notIf, isEq, hsl, hll, nt1, ntf, b9, b0, k6, e1, hy, d1']
      simp only [runB, finC, finD, Option.isSome_some, Option.isSome_none, ↓reduceIte, Nat.reduceEqDiff, Nat.reduceAdd, Nat.reduceMul, forall_eq_or_imp, forall_eq, implies_true, Nat.reduceBEq, reduceCtorEq, false_implies, List.zip_cons_cons, List.zip_nil_left, List.zip_nil_right, Nat.reduceLeDiff, List.forall_mem_nil, rs_30, ty_3, ty_4, ty_9, ty_22, ty_24, ty_27, ty_50, ty_52, ty_54]
    have d1' : (y.fr != cl) = false := by rw [d1, bne_self_eq_false]
    by_cases d2 : y.no = (i : Int)
    case neg =>
      have d2' : (y.no != (i : Int)) = true := by rw [bne_iff_ne]; exact d2
      rw [hbad2 (fun h => d2 h.2)]
      simp only [runA, runB, runC, runD, runE, runF, fieldE, storeE, binE, ↓reduceIte, Nat.reduceLT, Nat.reduceLeDiff, Nat.reduceEqDiff, Nat.reduceAdd, Nat.reduceMul, Nat.reduceSub, reduceCtorEq, putAt, unE, Nat.reduceBEq, convE, buildE, List.replicate, Int.reduceLT, Int.reduceLE, Int.reduceToNat, mkE, mapSetE, hN, hF, ty_3, ty_4, ty_9, ty_22, ty_24, ty_27, ty_50, ty_52, ty_54, notIf, isEq, hsl, hll, nt1, ntf, b9, b0, k6, e1, hy, d1', d2']
      simp only [runB, finC, finD, Option.isSome_some, Option.isSome_none, ↓reduceIte, Nat.reduceEqDiff, Nat.reduceAdd, Nat.reduceMul, forall_eq_or_imp, forall_eq, implies_true, Nat.reduceBEq, reduceCtorEq, false_implies, List.zip_cons_cons, List.zip_nil_left, List.zip_nil_right, Nat.reduceLeDiff, List.forall_mem_nil, rs_30, ty_3, ty_4, ty_9, ty_22, ty_24, ty_27, ty_50, ty_52, ty_54]
    have d2' : (y.no != (i : Int)) = false := by rw [d2, bne_self_eq_false]
    have hn := hnext ⟨d1, d2⟩
    simp only [runA, runB, runC, runD, runE, runF, fieldE, storeE, binE, ↓reduceIte, Nat.reduceLT, Nat.reduceLeDiff, Nat.reduceEqDiff, Nat.reduceAdd, Nat.reduceMul, Nat.reduceSub, reduceCtorEq, putAt, unE, Nat.reduceBEq, convE, buildE, List.replicate, Int.reduceLT, Int.reduceLE, Int.reduceToNat, mkE, mapSetE, hN, hF, ty_3, ty_4, ty_9, ty_22, ty_24, ty_27, ty_50, ty_52, ty_54, notIf, isEq, hsl, hll, nt1, ntf, b9, b0, k6, e1, hy, d1', d2']
    refine ⟨sent.length - (i + 1), _, by omega, ?_, i + 1, ⟨by omega, hn⟩, rfl, rfl⟩
    rw [hns]
    simp only [runB, finC, finD, AS.get, AS.mem, false_implies, implies_true, ↓reduceIte, Nat.reduceEqDiff, Option.isSome_some, Option.isSome_none, forall_eq_or_imp, forall_eq, reduceCtorEq, Nat.reduceAdd, Nat.reduceMul, List.zip_cons_cons, List.zip_nil_left, List.zip_nil_right, List.forall_mem_nil]
    first | done | simp

set_option maxRecDepth 100000 in
set_option maxHeartbeats 4000000 in
theorem rWck_sound (hΓ : SoundG Try.prog Γ) (hK : Γ 20 = keyC) : SoundC Try.prog 31 wckC := by
  refine sound_fn Try.func31 (by kernel_rfl) rfl rfl ?_
  intro args objs r0 hr
  obtain ⟨⟨cl, ⟨seed, lv, nx⟩, no, sent⟩, ⟨hlv, hsn⟩, rfl, rfl, rfl⟩ := mkC_inv hr
  refine ⟨rfl, by show 1 ≤ _; decide, fun E hN hns hF => ?_⟩
  refine vc_sound hΓ mixed _ _ _ ?_
  have hN := hN.trans nt_31
  have hlv : lv.length ≤ 9223372036854775807 := hlv
  have hsn : sent.length ≤ 9223372036854775807 := hsn
  have hsl := trows_length sent
  have hll := texts_length lv
  have nt1 : (!true) = false := rfl
  have ntf : (!false) = true := rfl
  have b9 : ((9 : Int) != 0) = true := rfl
  have b0 : ((0 : Int) != 0) = false := rfl
  have qk := key_at ⟨seed, lv, nx⟩ hlv
  unfold Wl.av
  dsimp only at qk ⊢
  obtain ⟨R, hR⟩ : ∃ R, R = chkW ⟨cl, ⟨seed, lv, nx⟩, no, sent⟩ := ⟨_, rfl⟩
  rw [← hR]
  have hbad : ¬ okW ⟨cl, ⟨seed, lv, nx⟩, no, sent⟩ → R = 9 := fun h => by rw [hR]; exact if_neg h
  by_cases c0 : cl < 0
  · have k0 : decide (cl < 0) = true := decide_eq_true c0
    rw [hbad (fun h => by have := h.1.1; dsimp only at this; omega)]
    simp only [runA, runB, runC, runD, runE, runF, fieldE, storeE, binE, ↓reduceIte, Nat.reduceLT, Nat.reduceLeDiff, Nat.reduceEqDiff, Nat.reduceAdd, Nat.reduceMul, Nat.reduceSub, reduceCtorEq, putAt, unE, Nat.reduceBEq, convE, buildE, List.replicate, Int.reduceLT, Int.reduceLE, Int.reduceToNat, mkE, mapSetE, hN, hF, ty_3, ty_9, ty_22, ty_24, ty_50, ty_52, ty_54, notIf, isEq, hsl, hll, nt1, ntf, b9, b0, k0]
    simp only [runB, finC, finD, Option.isSome_some, Option.isSome_none, ↓reduceIte, Nat.reduceEqDiff, Nat.reduceAdd, Nat.reduceMul, forall_eq_or_imp, forall_eq, implies_true, Nat.reduceBEq, reduceCtorEq, false_implies, List.zip_cons_cons, List.zip_nil_left, List.zip_nil_right, Nat.reduceLeDiff, List.forall_mem_nil, rs_31, ty_3, ty_9, ty_22, ty_24, ty_50, ty_52, ty_54]
  have k0 : decide (cl < 0) = false := decide_eq_false c0
  by_cases c1 : cl > 3
  · have k1 : decide (cl > 3) = true := decide_eq_true c1
    rw [hbad (fun h => by have := h.1.2; dsimp only at this; omega)]
    simp only [runA, runB, runC, runD, runE, runF, fieldE, storeE, binE, ↓reduceIte, Nat.reduceLT, Nat.reduceLeDiff, Nat.reduceEqDiff, Nat.reduceAdd, Nat.reduceMul, Nat.reduceSub, reduceCtorEq, putAt, unE, Nat.reduceBEq, convE, buildE, List.replicate, Int.reduceLT, Int.reduceLE, Int.reduceToNat, mkE, mapSetE, hN, hF, ty_3, ty_9, ty_22, ty_24, ty_50, ty_52, ty_54, notIf, isEq, hsl, hll, nt1, ntf, b9, b0, k0, k1]
    simp only [runB, finC, finD, Option.isSome_some, Option.isSome_none, ↓reduceIte, Nat.reduceEqDiff, Nat.reduceAdd, Nat.reduceMul, forall_eq_or_imp, forall_eq, implies_true, Nat.reduceBEq, reduceCtorEq, false_implies, List.zip_cons_cons, List.zip_nil_left, List.zip_nil_right, Nat.reduceLeDiff, List.forall_mem_nil, rs_31, ty_3, ty_9, ty_22, ty_24, ty_50, ty_52, ty_54]
  have k1 : decide (cl > 3) = false := decide_eq_false c1
  by_cases c2 : goodK ⟨seed, lv, nx⟩
  case neg =>
    rw [show keyS ⟨seed, lv, nx⟩ = 9 from if_neg c2] at qk
    rw [hbad (fun h => c2 h.2.1)]
    simp only [runA, runB, runC, runD, runE, runF, fieldE, storeE, binE, ↓reduceIte, Nat.reduceLT, Nat.reduceLeDiff, Nat.reduceEqDiff, Nat.reduceAdd, Nat.reduceMul, Nat.reduceSub, reduceCtorEq, putAt, unE, Nat.reduceBEq, convE, buildE, List.replicate, Int.reduceLT, Int.reduceLE, Int.reduceToNat, mkE, mapSetE, hN, hF, ty_3, ty_9, ty_22, ty_24, ty_50, ty_52, ty_54, notIf, isEq, hsl, hll, nt1, ntf, b9, b0, k0, k1, hK, qk]
    simp only [runB, finC, finD, Option.isSome_some, Option.isSome_none, ↓reduceIte, Nat.reduceEqDiff, Nat.reduceAdd, Nat.reduceMul, forall_eq_or_imp, forall_eq, implies_true, Nat.reduceBEq, reduceCtorEq, false_implies, List.zip_cons_cons, List.zip_nil_left, List.zip_nil_right, Nat.reduceLeDiff, List.forall_mem_nil, rs_31, ty_3, ty_9, ty_22, ty_24, ty_50, ty_52, ty_54]
  rw [show keyS ⟨seed, lv, nx⟩ = 0 from if_pos c2] at qk
  by_cases c3 : no < 0
  · have k3 : decide (no < 0) = true := decide_eq_true c3
    rw [hbad (fun h => by have := h.2.2.1.1; dsimp only at this; omega)]
    simp only [runA, runB, runC, runD, runE, runF, fieldE, storeE, binE, ↓reduceIte, Nat.reduceLT, Nat.reduceLeDiff, Nat.reduceEqDiff, Nat.reduceAdd, Nat.reduceMul, Nat.reduceSub, reduceCtorEq, putAt, unE, Nat.reduceBEq, convE, buildE, List.replicate, Int.reduceLT, Int.reduceLE, Int.reduceToNat, mkE, mapSetE, hN, hF, ty_3, ty_9, ty_22, ty_24, ty_50, ty_52, ty_54, notIf, isEq, hsl, hll, nt1, ntf, b9, b0, k0, k1, hK, qk, k3]
    simp only [runB, finC, finD, Option.isSome_some, Option.isSome_none, ↓reduceIte, Nat.reduceEqDiff, Nat.reduceAdd, Nat.reduceMul, forall_eq_or_imp, forall_eq, implies_true, Nat.reduceBEq, reduceCtorEq, false_implies, List.zip_cons_cons, List.zip_nil_left, List.zip_nil_right, Nat.reduceLeDiff, List.forall_mem_nil, rs_31, ty_3, ty_9, ty_22, ty_24, ty_50, ty_52, ty_54]
  have k3 : decide (no < 0) = false := decide_eq_false c3
  by_cases c4 : no > 1099511627776
  · have k4 : decide (no > 1099511627776) = true := decide_eq_true c4
    rw [hbad (fun h => by have := h.2.2.1.2; dsimp only at this; omega)]
    simp only [runA, runB, runC, runD, runE, runF, fieldE, storeE, binE, ↓reduceIte, Nat.reduceLT, Nat.reduceLeDiff, Nat.reduceEqDiff, Nat.reduceAdd, Nat.reduceMul, Nat.reduceSub, reduceCtorEq, putAt, unE, Nat.reduceBEq, convE, buildE, List.replicate, Int.reduceLT, Int.reduceLE, Int.reduceToNat, mkE, mapSetE, hN, hF, ty_3, ty_9, ty_22, ty_24, ty_50, ty_52, ty_54, notIf, isEq, hsl, hll, nt1, ntf, b9, b0, k0, k1, hK, qk, k3, k4]
    simp only [runB, finC, finD, Option.isSome_some, Option.isSome_none, ↓reduceIte, Nat.reduceEqDiff, Nat.reduceAdd, Nat.reduceMul, forall_eq_or_imp, forall_eq, implies_true, Nat.reduceBEq, reduceCtorEq, false_implies, List.zip_cons_cons, List.zip_nil_left, List.zip_nil_right, Nat.reduceLeDiff, List.forall_mem_nil, rs_31, ty_3, ty_9, ty_22, ty_24, ty_50, ty_52, ty_54]
  have k4 : decide (no > 1099511627776) = false := decide_eq_false c4
  by_cases c5 : (sent.length : Int) = no
  case neg =>
    have k5 : ((sent.length : Int) != no) = true := by rw [bne_iff_ne]; exact c5
    rw [hbad (fun h => c5 h.2.2.2.1)]
    simp only [runA, runB, runC, runD, runE, runF, fieldE, storeE, binE, ↓reduceIte, Nat.reduceLT, Nat.reduceLeDiff, Nat.reduceEqDiff, Nat.reduceAdd, Nat.reduceMul, Nat.reduceSub, reduceCtorEq, putAt, unE, Nat.reduceBEq, convE, buildE, List.replicate, Int.reduceLT, Int.reduceLE, Int.reduceToNat, mkE, mapSetE, hN, hF, ty_3, ty_9, ty_22, ty_24, ty_50, ty_52, ty_54, notIf, isEq, hsl, hll, nt1, ntf, b9, b0, k0, k1, hK, qk, k3, k4, k5]
    simp only [runB, finC, finD, Option.isSome_some, Option.isSome_none, ↓reduceIte, Nat.reduceEqDiff, Nat.reduceAdd, Nat.reduceMul, forall_eq_or_imp, forall_eq, implies_true, Nat.reduceBEq, reduceCtorEq, false_implies, List.zip_cons_cons, List.zip_nil_left, List.zip_nil_right, Nat.reduceLeDiff, List.forall_mem_nil, rs_31, ty_3, ty_9, ty_22, ty_24, ty_50, ty_52, ty_54]
  have k5 : ((sent.length : Int) != no) = false := by rw [c5, bne_self_eq_false]
  have hgood : (∀ j, j < sent.length → (sent.getD j zeroT).fr = cl ∧ (sent.getD j zeroT).no = (j : Int)) → R = 0 := fun h => by rw [hR]; exact if_pos ⟨⟨by dsimp only; omega, by dsimp only; omega⟩, c2, ⟨by dsimp only; omega, by dsimp only; omega⟩, c5, h⟩
  simp only [runA, runB, runC, runD, runE, runF, fieldE, storeE, binE, ↓reduceIte, Nat.reduceLT, Nat.reduceLeDiff, Nat.reduceEqDiff, Nat.reduceAdd, Nat.reduceMul, Nat.reduceSub, reduceCtorEq, putAt, unE, Nat.reduceBEq, convE, buildE, List.replicate, Int.reduceLT, Int.reduceLE, Int.reduceToNat, mkE, mapSetE, hN, hF, ty_3, ty_9, ty_22, ty_24, ty_50, ty_52, ty_54, notIf, isEq, hsl, hll, nt1, ntf, b9, b0, k0, k1, hK, qk, k3, k4, k5]
  refine AWP.loop (fun k st => ∃ i : Nat, (i ≤ sent.length ∧ ∀ j, j < i → (sent.getD j zeroT).fr = cl ∧ (sent.getD j zeroT).no = (j : Int)) ∧ k = sent.length - i ∧ st = ⟨[(1, .ptr 64 0), (3, .c (.int .i64 (i : Int)))], [(64, .obj [.c (.int .i64 cl), .c (.str seed), .c (.sl (texts lv)), .c (.int .i64 nx), .c (.int .i64 no), .c (.sl (trows sent))] false)]⟩) ⟨sent.length, _, ?w, 0, ⟨Nat.zero_le _, fun j hj => absurd hj (by omega)⟩, rfl, rfl⟩ ?r
  case w =>
    rw [hns]
    simp only [runB, finC, finD, AS.get, AS.mem, false_implies, implies_true, ↓reduceIte, Nat.reduceEqDiff, Option.isSome_some, Option.isSome_none, forall_eq_or_imp, forall_eq, reduceCtorEq, Nat.reduceAdd, Nat.reduceMul, List.zip_cons_cons, List.zip_nil_left, List.zip_nil_right, List.forall_mem_nil]
    first | done | simp
  case r =>
    rintro k st ⟨i, ⟨hi, hall⟩, rfl, rfl⟩
    refine vc_sound hΓ mixed _ _ _ ?_
    by_cases hlt : i < sent.length
    case neg =>
      obtain rfl : i = sent.length := by omega
      have k6 : decide (((sent.length : Nat) : Int) < (sent.length : Int)) = false := decide_eq_false (by omega)
      rw [hgood hall]
      simp only [runA, runB, runC, runD, runE, runF, fieldE, storeE, binE, ↓reduceIte, Nat.reduceLT, Nat.reduceLeDiff, Nat.reduceEqDiff, Nat.reduceAdd, Nat.reduceMul, Nat.reduceSub, reduceCtorEq, putAt, unE, Nat.reduceBEq, convE, buildE, List.replicate, Int.reduceLT, Int.reduceLE, Int.reduceToNat, mkE, mapSetE, hN, hF, ty_3, ty_9, ty_22, ty_24, ty_50, ty_52, ty_54, notIf, isEq, hsl, hll, nt1, ntf, b9, b0, k6]
      simp only [runB, finC, finD, Option.isSome_some, Option.isSome_none, ↓reduceIte, Nat.reduceEqDiff, Nat.reduceAdd, Nat.reduceMul, forall_eq_or_imp, forall_eq, implies_true, Nat.reduceBEq, reduceCtorEq, false_implies, List.zip_cons_cons, List.zip_nil_left, List.zip_nil_right, Nat.reduceLeDiff, List.forall_mem_nil, rs_31, ty_3, ty_9, ty_22, ty_24, ty_50, ty_52, ty_54]
    have k6 : decide ((i : Int) < (sent.length : Int)) = true := decide_eq_true (by omega)
    have e1 : IntKind.i64.wrap ((i : Int) + 1) = (i : Int) + 1 := wrapI (by omega)
    have hy := trowsD sent i hlt
    have hbad2 : ¬ ((sent.getD i zeroT).fr = cl ∧ (sent.getD i zeroT).no = (i : Int)) → R = 9 := fun h => hbad (fun ha => h (ha.2.2.2.2 i hlt))
    have hnext : ((sent.getD i zeroT).fr = cl ∧ (sent.getD i zeroT).no = (i : Int)) → ∀ j, j < i + 1 → (sent.getD j zeroT).fr = cl ∧ (sent.getD j zeroT).no = (j : Int) := fun h j hj => by
      by_cases e : j = i
      · rw [e]; exact h
      · exact hall j (by omega)
    unfold Txn.pcs at hy
    generalize sent.getD i zeroT = y at hy hbad2 hnext
    by_cases d1 : y.fr = cl
    case neg =>
      have d1' : (y.fr != cl) = true := by rw [bne_iff_ne]; exact d1
      rw [hbad2 (fun h => d1 h.1)]
      simp only [runA, runB, runC, runD, runE, runF, fieldE, storeE, binE, ↓reduceIte, Nat.reduceLT, Nat.reduceLeDiff, Nat.reduceEqDiff, Nat.reduceAdd, Nat.reduceMul, Nat.reduceSub, reduceCtorEq, putAt, unE, Nat.reduceBEq, convE, buildE, List.replicate, Int.reduceLT, Int.reduceLE, Int.reduceToNat, mkE, mapSetE, hN, hF, ty_3, ty_9, ty_22, ty_24, ty_50, ty_52, ty_54, notIf, isEq, hsl, hll, nt1, ntf, b9, b0, k6, e1, hy, d1']
      refine drawnP_intro (by kernel_rfl) (by kernel_rfl) ?_
      simp only [runA, runB, runC, runD, runE, runF, fieldE, storeE, binE, ↓reduceIte, Nat.reduceLT, Nat.reduceLeDiff, Nat.reduceEqDiff, Nat.reduceAdd, Nat.reduceMul, Nat.reduceSub, reduceCtorEq, putAt, unE, Nat.reduceBEq, convE, buildE, List.replicate, Int.reduceLT, Int.reduceLE, Int.reduceToNat, mkE, mapSetE, hN, hF, ty_3, ty_9, ty_22, ty_24, ty_50, ty_52, ty_54, notIf, isEq, hsl, hll, nt1, ntf, b9, b0, k6, e1, hy, d1']
      simp only [runB, finC, finD, Option.isSome_some, Option.isSome_none, ↓reduceIte, Nat.reduceEqDiff, Nat.reduceAdd, Nat.reduceMul, forall_eq_or_imp, forall_eq, implies_true, Nat.reduceBEq, reduceCtorEq, false_implies, List.zip_cons_cons, List.zip_nil_left, List.zip_nil_right, Nat.reduceLeDiff, List.forall_mem_nil, rs_31, ty_3, ty_9, ty_22, ty_24, ty_50, ty_52, ty_54]
    have d1' : (y.fr != cl) = false := by rw [d1, bne_self_eq_false]
    by_cases d2 : y.no = (i : Int)
    case neg =>
      have d2' : (y.no != (i : Int)) = true := by rw [bne_iff_ne]; exact d2
      rw [hbad2 (fun h => d2 h.2)]
      simp only [runA, runB, runC, runD, runE, runF, fieldE, storeE, binE, ↓reduceIte, Nat.reduceLT, Nat.reduceLeDiff, Nat.reduceEqDiff, Nat.reduceAdd, Nat.reduceMul, Nat.reduceSub, reduceCtorEq, putAt, unE, Nat.reduceBEq, convE, buildE, List.replicate, Int.reduceLT, Int.reduceLE, Int.reduceToNat, mkE, mapSetE, hN, hF, ty_3, ty_9, ty_22, ty_24, ty_50, ty_52, ty_54, notIf, isEq, hsl, hll, nt1, ntf, b9, b0, k6, e1, hy, d1', d2']
      refine drawnP_intro (by kernel_rfl) (by kernel_rfl) ?_
      simp only [runA, runB, runC, runD, runE, runF, fieldE, storeE, binE, ↓reduceIte, Nat.reduceLT, Nat.reduceLeDiff, Nat.reduceEqDiff, Nat.reduceAdd, Nat.reduceMul, Nat.reduceSub, reduceCtorEq, putAt, unE, Nat.reduceBEq, convE, buildE, List.replicate, Int.reduceLT, Int.reduceLE, Int.reduceToNat, mkE, mapSetE, hN, hF, ty_3, ty_9, ty_22, ty_24, ty_50, ty_52, ty_54, notIf, isEq, hsl, hll, nt1, ntf, b9, b0, k6, e1, hy, d1', d2']
      simp only [runB, finC, finD, Option.isSome_some, Option.isSome_none, ↓reduceIte, Nat.reduceEqDiff, Nat.reduceAdd, Nat.reduceMul, forall_eq_or_imp, forall_eq, implies_true, Nat.reduceBEq, reduceCtorEq, false_implies, List.zip_cons_cons, List.zip_nil_left, List.zip_nil_right, Nat.reduceLeDiff, List.forall_mem_nil, rs_31, ty_3, ty_9, ty_22, ty_24, ty_50, ty_52, ty_54]
    have d2' : (y.no != (i : Int)) = false := by rw [d2, bne_self_eq_false]
    have hn := hnext ⟨d1, d2⟩
    simp only [runA, runB, runC, runD, runE, runF, fieldE, storeE, binE, ↓reduceIte, Nat.reduceLT, Nat.reduceLeDiff, Nat.reduceEqDiff, Nat.reduceAdd, Nat.reduceMul, Nat.reduceSub, reduceCtorEq, putAt, unE, Nat.reduceBEq, convE, buildE, List.replicate, Int.reduceLT, Int.reduceLE, Int.reduceToNat, mkE, mapSetE, hN, hF, ty_3, ty_9, ty_22, ty_24, ty_50, ty_52, ty_54, notIf, isEq, hsl, hll, nt1, ntf, b9, b0, k6, e1, hy, d1', d2']
    refine drawnP_intro (by kernel_rfl) (by kernel_rfl) ?_
    simp only [runA, runB, runC, runD, runE, runF, fieldE, storeE, binE, ↓reduceIte, Nat.reduceLT, Nat.reduceLeDiff, Nat.reduceEqDiff, Nat.reduceAdd, Nat.reduceMul, Nat.reduceSub, reduceCtorEq, putAt, unE, Nat.reduceBEq, convE, buildE, List.replicate, Int.reduceLT, Int.reduceLE, Int.reduceToNat, mkE, mapSetE, hN, hF, ty_3, ty_9, ty_22, ty_24, ty_50, ty_52, ty_54, notIf, isEq, hsl, hll, nt1, ntf, b9, b0, k6, e1, hy, d1', d2']
    refine ⟨sent.length - (i + 1), _, by omega, ?_, i + 1, ⟨by omega, hn⟩, rfl, rfl⟩
    rw [hns]
    simp only [runB, finC, finD, AS.get, AS.mem, false_implies, implies_true, ↓reduceIte, Nat.reduceEqDiff, Option.isSome_some, Option.isSome_none, forall_eq_or_imp, forall_eq, reduceCtorEq, Nat.reduceAdd, Nat.reduceMul, List.zip_cons_cons, List.zip_nil_left, List.zip_nil_right, List.forall_mem_nil]
    first | done | simp


variable {Γ : FuncId → Contract}


noncomputable def payT (w : Wl) (to am : Int) : Txn × Ky × Int := makeT w.key ⟨w.cl, to, am, w.no, []⟩
open Classical in
noncomputable def payS (w : Wl) (to am : Int) : Wl × Txn × Int :=
  if okW w then (if (payT w to am).2.2 = 0 then (⟨w.cl, (payT w to am).2.1, w.no + 1, w.sent ++ [(payT w to am).1]⟩, (payT w to am).1, 0) else (zeroW, zeroT, (payT w to am).2.2)) else (zeroW, zeroT, 9)
theorem trows_snocP (l : List Txn) (t : Txn) : trows l ++ [[.int .i64 t.fr, .int .i64 t.to, .int .i64 t.am, .int .i64 t.no, .str t.sig]] = trows (l ++ [t]) := by simp [trows, Txn.pcs]
noncomputable def payC : Contract := mkC (α := Wl × Int × Int) (fun p => p.1.key.leaves.length ≤ 1048576 ∧ p.1.sent.length ≤ 1048576) (fun p => [p.1.av, .c (.int .i64 p.2.1), .c (.int .i64 p.2.2)]) (fun p => []) (fun p => ⟨[.pv (payS p.1 p.2.1 p.2.2).1.av, .pv (payS p.1 p.2.1 p.2.2).2.1.av, .pv (.c (.int .i64 (payS p.1 p.2.1 p.2.2).2.2))], []⟩)
theorem pay_at (wcl : Int) (wseed : List UInt8) (wlv : List (List UInt8)) (wnx : Int) (wno : Int) (wsent : List Txn) (to : Int) (am : Int) (g0 : wlv.length ≤ 1048576) (g1 : wsent.length ≤ 1048576) : payC [(.agg [.c (.int .i64 wcl), .c (.str wseed), .c (.sl (texts wlv)), .c (.int .i64 wnx), .c (.int .i64 wno), .c (.sl (trows wsent))]), .c (.int .i64 to), .c (.int .i64 am)] [] = some ⟨[.pv (payS (⟨wcl, ⟨wseed, wlv, wnx⟩, wno, wsent⟩ : Wl) to am).1.av, .pv (payS (⟨wcl, ⟨wseed, wlv, wnx⟩, wno, wsent⟩ : Wl) to am).2.1.av, .pv (.c (.int .i64 (payS (⟨wcl, ⟨wseed, wlv, wnx⟩, wno, wsent⟩ : Wl) to am).2.2))], []⟩ := by
  exact mkC_at (α := Wl × Int × Int) (⟨wcl, ⟨wseed, wlv, wnx⟩, wno, wsent⟩, to, am) ⟨g0, g1⟩ (by
    rintro ⟨w', to', am'⟩ _ h ho
    have hh := And.intro h ho
    clear h ho
    simp only [List.cons.injEq, AV.c.injEq, AV.agg.injEq, PC.int.injEq, PC.str.injEq, PC.bool.injEq, PC.sl.injEq, OV.c.injEq, OV.own.injEq, OV.mp.injEq, bytes_iff, texts_iff, true_and, and_true, and_self, beq_self_eq_true, Wl.av_iff] at hh
    simp only [hh])

set_option maxRecDepth 100000 in
set_option maxHeartbeats 4000000 in
theorem pay_sound (hΓ : SoundG Try.prog Γ) (h1 : Γ 30 = wckC) (h2 : Γ 42 = txMkC) (h3 : Γ 73 = clnFC) : SoundC Try.prog 28 payC := by
  refine sound_fn Try.func28 (by kernel_rfl) rfl rfl ?_
  intro args objs r0 hr
  obtain ⟨⟨⟨cl, ⟨seed, lv, nx⟩, no, sent⟩, to, am⟩, ⟨hlv, hsn⟩, rfl, rfl, rfl⟩ := mkC_inv hr
  refine ⟨rfl, by show 3 ≤ _; decide, fun E hN hns hF => ?_⟩
  refine vc_sound hΓ mixed _ _ _ ?_
  have hN := hN.trans nt_28
  have hlv : lv.length ≤ 1048576 := hlv
  have hsn : sent.length ≤ 1048576 := hsn
  have hsl := trows_length sent
  have q1 := wck_at cl seed lv nx no sent (by omega) (by omega)
  have q2 := txMk_at ⟨seed, lv, nx⟩ ⟨cl, to, am, no, []⟩ hlv
  have q3 := clnF_at sent (by omega)
  have b9 : ((9 : Int) != 0) = true := rfl
  have b0 : ((0 : Int) != 0) = false := rfl
  unfold Wl.av
  dsimp only at q2 ⊢
  by_cases hk : okW ⟨cl, ⟨seed, lv, nx⟩, no, sent⟩
  case neg =>
    rw [show chkW ⟨cl, ⟨seed, lv, nx⟩, no, sent⟩ = 9 from if_neg hk] at q1
    rw [show payS ⟨cl, ⟨seed, lv, nx⟩, no, sent⟩ to am = (zeroW, zeroT, 9) from if_neg hk]
    unfold Txn.av
    simp only [runA, runB, runC, runD, runE, runF, fieldE, storeE, binE, ↓reduceIte, Nat.reduceLT, Nat.reduceLeDiff, Nat.reduceEqDiff, Nat.reduceAdd, Nat.reduceMul, Nat.reduceSub, reduceCtorEq, putAt, unE, Nat.reduceBEq, convE, buildE, List.replicate, Int.reduceLT, Int.reduceLE, Int.reduceToNat, mkE, mapSetE, hN, hF, ty_3, ty_9, ty_22, ty_24, ty_27, ty_50, ty_52, ty_54, notIf, isEq, h1, q1, b9]
    simp only [runB, finC, finD, Option.isSome_some, Option.isSome_none, ↓reduceIte, Nat.reduceEqDiff, Nat.reduceAdd, Nat.reduceMul, forall_eq_or_imp, forall_eq, implies_true, Nat.reduceBEq, reduceCtorEq, false_implies, List.zip_cons_cons, List.zip_nil_left, List.zip_nil_right, Nat.reduceLeDiff, List.forall_mem_nil, rs_28, ty_3, ty_9, ty_22, ty_24, ty_27, ty_50, ty_52, ty_54, zeroW, zeroK, zeroT, trows_nil, texts, List.map_nil]
  rw [show chkW ⟨cl, ⟨seed, lv, nx⟩, no, sent⟩ = 0 from if_pos hk] at q1
  have hP : payS ⟨cl, ⟨seed, lv, nx⟩, no, sent⟩ to am = (if (makeT ⟨seed, lv, nx⟩ ⟨cl, to, am, no, []⟩).2.2 = 0 then (⟨cl, (makeT ⟨seed, lv, nx⟩ ⟨cl, to, am, no, []⟩).2.1, no + 1, sent ++ [(makeT ⟨seed, lv, nx⟩ ⟨cl, to, am, no, []⟩).1]⟩, (makeT ⟨seed, lv, nx⟩ ⟨cl, to, am, no, []⟩).1, 0) else (zeroW, zeroT, (makeT ⟨seed, lv, nx⟩ ⟨cl, to, am, no, []⟩).2.2)) := if_pos hk
  have hno : 0 ≤ no ∧ no ≤ 1048576 := by
    have h1 := hk.2.2.1.1
    have h2 := hk.2.2.2.1
    dsimp only at h1 h2
    omega
  have e1 : IntKind.i64.wrap (no + 1) = no + 1 := wrapI (by omega)
  rw [hP]
  generalize makeT ⟨seed, lv, nx⟩ ⟨cl, to, am, no, []⟩ = mk at q2 ⊢
  obtain ⟨t, k, e⟩ := mk
  dsimp only at q2 ⊢
  unfold Txn.av Ky.av at q2
  unfold Txn.av
  by_cases he : e = 0
  · subst he
    rw [if_pos rfl]
    have hrow : rowsOK 5 [[.int .i64 t.fr, .int .i64 t.to, .int .i64 t.am, .int .i64 t.no, .str t.sig]] := rowsOK_trows [t]
    have hsnoc := trows_snocP sent t
    have hby : (sent.length + 1) * 48 ≤ 140737488355328 := by omega
    have hrs := rowsOK_trows sent
    dsimp only
    simp only [runA, runB, runC, runD, runE, runF, fieldE, storeE, binE, ↓reduceIte, Nat.reduceLT, Nat.reduceLeDiff, Nat.reduceEqDiff, Nat.reduceAdd, Nat.reduceMul, Nat.reduceSub, reduceCtorEq, putAt, unE, Nat.reduceBEq, convE, buildE, List.replicate, Int.reduceLT, Int.reduceLE, Int.reduceToNat, mkE, mapSetE, hN, hF, ty_3, ty_9, ty_22, ty_24, ty_27, ty_50, ty_52, ty_54, notIf, isEq, h1, q1, b0, h2, q2, h3, q3, hsl, hrow, hsnoc, hby, e1, hrs]
    refine drawnP_intro (by kernel_rfl) (by kernel_rfl) ?_
    simp only [runA, runB, runC, runD, runE, runF, fieldE, storeE, binE, ↓reduceIte, Nat.reduceLT, Nat.reduceLeDiff, Nat.reduceEqDiff, Nat.reduceAdd, Nat.reduceMul, Nat.reduceSub, reduceCtorEq, putAt, unE, Nat.reduceBEq, convE, buildE, List.replicate, Int.reduceLT, Int.reduceLE, Int.reduceToNat, mkE, mapSetE, hN, hF, ty_3, ty_9, ty_22, ty_24, ty_27, ty_50, ty_52, ty_54, notIf, isEq, h1, q1, b0, h2, q2, h3, q3, hsl, hrow, hsnoc, hby, e1, hrs]
    simp only [runB, finC, finD, Option.isSome_some, Option.isSome_none, ↓reduceIte, Nat.reduceEqDiff, Nat.reduceAdd, Nat.reduceMul, forall_eq_or_imp, forall_eq, implies_true, Nat.reduceBEq, reduceCtorEq, false_implies, List.zip_cons_cons, List.zip_nil_left, List.zip_nil_right, Nat.reduceLeDiff, List.forall_mem_nil, rs_28, ty_3, ty_9, ty_22, ty_24, ty_27, ty_50, ty_52, ty_54]
  · have hb : (e != 0) = true := by rw [bne_iff_ne]; exact he
    rw [if_neg he]
    simp only [runA, runB, runC, runD, runE, runF, fieldE, storeE, binE, ↓reduceIte, Nat.reduceLT, Nat.reduceLeDiff, Nat.reduceEqDiff, Nat.reduceAdd, Nat.reduceMul, Nat.reduceSub, reduceCtorEq, putAt, unE, Nat.reduceBEq, convE, buildE, List.replicate, Int.reduceLT, Int.reduceLE, Int.reduceToNat, mkE, mapSetE, hN, hF, ty_3, ty_9, ty_22, ty_24, ty_27, ty_50, ty_52, ty_54, notIf, isEq, h1, q1, b0, h2, q2, hb]
    simp only [runB, finC, finD, Option.isSome_some, Option.isSome_none, ↓reduceIte, Nat.reduceEqDiff, Nat.reduceAdd, Nat.reduceMul, forall_eq_or_imp, forall_eq, implies_true, Nat.reduceBEq, reduceCtorEq, false_implies, List.zip_cons_cons, List.zip_nil_left, List.zip_nil_right, Nat.reduceLeDiff, List.forall_mem_nil, rs_28, ty_3, ty_9, ty_22, ty_24, ty_27, ty_50, ty_52, ty_54, zeroW, zeroK, zeroT, trows_nil, texts, List.map_nil]


variable {Γ : FuncId → Contract}


def alive34C : Contract := fun args objs => match args, objs with | [], [] => some ⟨[.pv (.c (.bool true))], []⟩ | _, _ => none
set_option maxHeartbeats 4000000 in
theorem alive34_sound (hΓ : SoundG Try.prog Γ) (h1 : Γ 34 = nwC) : SoundC Try.prog 27 alive34C := by
  refine sound_fn Try.func27 (by kernel_rfl) rfl rfl ?_
  intro args objs r hr
  unfold alive34C at hr
  split at hr
  · cases hr
    refine ⟨rfl, by show 0 ≤ _; decide, fun E hN hns hF => ?_⟩
    refine vc_sound hΓ mixed _ _ _ ?_
    have hN := hN.trans nt_27
    have q1 := nw_at 9
    have q2 := nw_at 1
    rw [show nwW 9 = zeroW from if_neg (by omega), show nwE 9 = 4 from if_neg (by omega)] at q1
    rw [show nwW 1 = ⟨1, txKeyK 1, 0, []⟩ from if_pos (by omega), show nwE 1 = 0 from if_pos (by omega)] at q2
    have hl : (txKeyK 1).leaves.length = 4 := by
      rw [show txKeyK 1 = ⟨cs 1, leavesS (cs 1) 4, 0⟩ from if_pos (by omega)]
      exact leavesS_length _ _
    have hll := texts_length (txKeyK 1).leaves
    rw [hl] at hll
    unfold Wl.av zeroW zeroK at q1
    unfold Wl.av at q2
    dsimp only at q1 q2
    rw [trows_nil, show texts [] = [] from rfl] at q1
    rw [trows_nil] at q2
    generalize (txKeyK 1).seed = sd at q2
    generalize texts (txKeyK 1).leaves = L at q2 hll
    generalize (txKeyK 1).next = nx at q2
    have b1 : ((4 : Int) == 4) = true := rfl
    have b2 : ((0 : Int) == 0) = true := rfl
    have b3 : ((1 : Int) == 1) = true := rfl
    have b4 : (((4 : Nat) : Int) == 4) = true := rfl
    simp only [runA, runB, runC, runD, runE, runF, fieldE, storeE, binE, ↓reduceIte, Nat.reduceLT, Nat.reduceLeDiff, Nat.reduceEqDiff, Nat.reduceAdd, Nat.reduceMul, Nat.reduceSub, reduceCtorEq, putAt, unE, Nat.reduceBEq, convE, buildE, List.replicate, Int.reduceLT, Int.reduceLE, Int.reduceToNat, mkE, mapSetE, hN, hF, ty_3, ty_4, ty_9, ty_22, ty_24, ty_27, ty_50, ty_52, notIf, isEq, h1, q1, q2, b1, b2, b3, b4, hll]
    simp only [runB, finC, finD, Option.isSome_some, Option.isSome_none, ↓reduceIte, Nat.reduceEqDiff, Nat.reduceAdd, Nat.reduceMul, forall_eq_or_imp, forall_eq, implies_true, Nat.reduceBEq, reduceCtorEq, false_implies, List.zip_cons_cons, List.zip_nil_left, List.zip_nil_right, Nat.reduceLeDiff, List.forall_mem_nil, rs_27, ty_3, ty_4, ty_9, ty_22, ty_24, ty_27, ty_50, ty_52]
  · cases hr
noncomputable def num34C : Contract := mkC (α := Int) (fun p => True) (fun p => [.c (.int .i64 p)]) (fun p => []) (fun p => ⟨[.pv (.c (.int .i64 p))], []⟩)
theorem num34_at (x : Int) : num34C [.c (.int .i64 x)] [] = some ⟨[.pv (.c (.int .i64 x))], []⟩ := by
  exact mkC_at (α := Int) x trivial (by
    rintro x' _ h ho
    have hh := And.intro h ho
    clear h ho
    simp only [List.cons.injEq, AV.c.injEq, AV.agg.injEq, PC.int.injEq, PC.str.injEq, PC.bool.injEq, PC.sl.injEq, OV.c.injEq, OV.own.injEq, OV.mp.injEq, bytes_iff, texts_iff, true_and, and_true, and_self, beq_self_eq_true] at hh
    simp only [hh])

set_option maxRecDepth 100000 in
set_option maxHeartbeats 4000000 in
theorem num34_sound  : SoundC Try.prog 29 num34C := by
  refine sound_fn Try.func29 (by kernel_rfl) rfl rfl ?_
  intro args objs r0 hr
  obtain ⟨x, _, rfl, rfl, rfl⟩ := mkC_inv hr
  refine ⟨rfl, by show 1 ≤ _; decide, fun E hN hns hF => ?_⟩
  refine vc_sound none0_sound mixed _ _ _ ?_
  have hN := hN.trans nt_29
  simp only [runA, runB, runC, runD, runE, runF, fieldE, storeE, binE, ↓reduceIte, Nat.reduceLT, Nat.reduceLeDiff, Nat.reduceEqDiff, Nat.reduceAdd, Nat.reduceMul, Nat.reduceSub, reduceCtorEq, putAt, unE, Nat.reduceBEq, convE, buildE, List.replicate, Int.reduceLT, Int.reduceLE, Int.reduceToNat, mkE, mapSetE, hN, hF, ty_3, notIf, isEq]
  simp only [runB, finC, finD, Option.isSome_some, Option.isSome_none, ↓reduceIte, Nat.reduceEqDiff, Nat.reduceAdd, Nat.reduceMul, forall_eq_or_imp, forall_eq, implies_true, Nat.reduceBEq, reduceCtorEq, false_implies, List.zip_cons_cons, List.zip_nil_left, List.zip_nil_right, Nat.reduceLeDiff, List.forall_mem_nil, rs_29, ty_3]

theorem okW_pay {cl nx no to am : Int} {seed : List UInt8} {lv : List (List UInt8)} {sent : List Txn} (hs : sent.length ≤ 1048576) (hk : okW ⟨cl, ⟨seed, lv, nx⟩, no, sent⟩) (hn : nx ≠ (lv.length : Int)) (sig : List UInt8) : okW ⟨cl, ⟨seed, lv, nx + 1⟩, no + 1, sent ++ [⟨cl, to, am, no, sig⟩]⟩ := by
  obtain ⟨h1, ⟨g1, g2, g3, g4, g5⟩, ⟨h3, h4⟩, h5, h6⟩ := hk
  dsimp only at h1 g1 g2 g3 g4 g5 h3 h4 h5 h6
  refine ⟨h1, ⟨g1, g2, g3, by dsimp only; omega, by dsimp only; omega⟩, ⟨by dsimp only; omega, by dsimp only; omega⟩, by dsimp only; rw [List.length_append]; simp; omega, fun i hi => ?_⟩
  dsimp only at hi ⊢
  rw [List.length_append, List.length_singleton] at hi
  by_cases e : i < sent.length
  · have := h6 i e
    rw [List.getD, List.getElem?_append_left e]
    exact this
  · have e2 : i = sent.length := by omega
    subst e2
    rw [List.getD, List.getElem?_append_right (Nat.le_refl _), Nat.sub_self]
    exact ⟨rfl, h5.symm⟩
noncomputable def wtlC : Contract := mkC (α := Wl × Int × Int) (fun p => p.1.key.leaves.length ≤ 1048576 ∧ p.1.sent.length ≤ 1048576) (fun p => [p.1.av, .c (.int .i64 p.2.1), .c (.int .i64 p.2.2)]) (fun p => []) (fun p => ⟨[.pv (.c (.bool true))], []⟩)
set_option maxRecDepth 100000 in
set_option maxHeartbeats 4000000 in
theorem wtl_sound (hΓ : SoundG Try.prog Γ) (h1 : Γ 27 = alive34C) (h2 : Γ 28 = payC) (h3 : Γ 30 = wckC) (h4 : Γ 29 = num34C) (h5 : Γ 31 = wckC) (h6 : Γ 32 = txCkC) (h7 : Γ 33 = txTC) (h8 : Γ 15 = refSigC) : SoundC Try.prog 6 wtlC := by
  refine sound_fn Try.func6 (by kernel_rfl) rfl rfl ?_
  intro args objs r0 hr
  obtain ⟨⟨⟨cl, ⟨seed, lv, nx⟩, no, sent⟩, to, am⟩, ⟨hlv, hsn⟩, rfl, rfl, rfl⟩ := mkC_inv hr
  refine ⟨rfl, by show 3 ≤ _; decide, fun E hN hns hF => ?_⟩
  refine vc_sound hΓ mixed _ _ _ ?_
  have hN := hN.trans nt_6
  have hlv : lv.length ≤ 1048576 := hlv
  have hsn : sent.length ≤ 1048576 := hsn
  have hsl := trows_length sent
  have hll := texts_length lv
  have q0 : alive34C [] [] = some ⟨[.pv (.c (.bool true))], []⟩ := rfl
  have q2 := pay_at cl seed lv nx no sent to am hlv hsn
  have q3 := wck_at cl seed lv nx no sent (by omega) (by omega)
  have q4a := num34_at 9
  have q4b := num34_at 0
  have q6 := txCk_at ⟨cl, to, am, no, []⟩
  have nt1 : (!true) = false := rfl
  have ntf : (!false) = true := rfl
  have b9 : ((9 : Int) != 0) = true := rfl
  have b0 : ((0 : Int) != 0) = false := rfl
  have d9 : ((9 : Int) != 9) = false := rfl
  have d0 : ((0 : Int) != 0) = false := rfl
  have e9 : ((9 : Int) == 9) = true := rfl
  have e0 : ((0 : Int) == 0) = true := rfl
  have e17 : ((17 : Int) == 17) = true := rfl
  have bs : (([] : List UInt8) == []) = true := rfl
  unfold Wl.av Txn.av at q2
  unfold Wl.av
  dsimp only at q6 ⊢
  by_cases hk : okW ⟨cl, ⟨seed, lv, nx⟩, no, sent⟩
  case neg =>
    rw [show chkW ⟨cl, ⟨seed, lv, nx⟩, no, sent⟩ = 9 from if_neg hk] at q3
    rw [show payS ⟨cl, ⟨seed, lv, nx⟩, no, sent⟩ to am = (zeroW, zeroT, 9) from if_neg hk] at q2
    unfold zeroW zeroK zeroT at q2
    dsimp only at q2
    rw [trows_nil, show texts [] = [] from rfl] at q2
    simp only [runA, runB, runC, runD, runE, runF, fieldE, storeE, binE, ↓reduceIte, Nat.reduceLT, Nat.reduceLeDiff, Nat.reduceEqDiff, Nat.reduceAdd, Nat.reduceMul, Nat.reduceSub, reduceCtorEq, putAt, unE, Nat.reduceBEq, convE, buildE, List.replicate, Int.reduceLT, Int.reduceLE, Int.reduceToNat, mkE, mapSetE, hN, hF, ty_3, ty_4, ty_5, ty_9, ty_22, ty_24, ty_25, ty_27, ty_50, ty_52, ty_54, notIf, isEq, hsl, hll, nt1, ntf, b9, b0, d9, d0, e9, e0, e17, bs, h1, q0, h2, q2, h3, q3, h4, q4a, q4b, h5, h6, q6, eqg_tx, eq_tx]
    try (refine drawnP_intro (by kernel_rfl) (by kernel_rfl) ?_; simp only [runA, runB, runC, runD, runE, runF, fieldE, storeE, binE, ↓reduceIte, Nat.reduceLT, Nat.reduceLeDiff, Nat.reduceEqDiff, Nat.reduceAdd, Nat.reduceMul, Nat.reduceSub, reduceCtorEq, putAt, unE, Nat.reduceBEq, convE, buildE, List.replicate, Int.reduceLT, Int.reduceLE, Int.reduceToNat, mkE, mapSetE, hN, hF, ty_3, ty_4, ty_5, ty_9, ty_22, ty_24, ty_25, ty_27, ty_50, ty_52, ty_54, notIf, isEq, hsl, hll, nt1, ntf, b9, b0, d9, d0, e9, e0, e17, bs, h1, q0, h2, q2, h3, q3, h4, q4a, q4b, h5, h6, q6, eqg_tx, eq_tx])
    try (refine drawnP_intro (by kernel_rfl) (by kernel_rfl) ?_; simp only [runA, runB, runC, runD, runE, runF, fieldE, storeE, binE, ↓reduceIte, Nat.reduceLT, Nat.reduceLeDiff, Nat.reduceEqDiff, Nat.reduceAdd, Nat.reduceMul, Nat.reduceSub, reduceCtorEq, putAt, unE, Nat.reduceBEq, convE, buildE, List.replicate, Int.reduceLT, Int.reduceLE, Int.reduceToNat, mkE, mapSetE, hN, hF, ty_3, ty_4, ty_5, ty_9, ty_22, ty_24, ty_25, ty_27, ty_50, ty_52, ty_54, notIf, isEq, hsl, hll, nt1, ntf, b9, b0, d9, d0, e9, e0, e17, bs, h1, q0, h2, q2, h3, q3, h4, q4a, q4b, h5, h6, q6, eqg_tx, eq_tx])
    try (refine drawnP_intro (by kernel_rfl) (by kernel_rfl) ?_; simp only [runA, runB, runC, runD, runE, runF, fieldE, storeE, binE, ↓reduceIte, Nat.reduceLT, Nat.reduceLeDiff, Nat.reduceEqDiff, Nat.reduceAdd, Nat.reduceMul, Nat.reduceSub, reduceCtorEq, putAt, unE, Nat.reduceBEq, convE, buildE, List.replicate, Int.reduceLT, Int.reduceLE, Int.reduceToNat, mkE, mapSetE, hN, hF, ty_3, ty_4, ty_5, ty_9, ty_22, ty_24, ty_25, ty_27, ty_50, ty_52, ty_54, notIf, isEq, hsl, hll, nt1, ntf, b9, b0, d9, d0, e9, e0, e17, bs, h1, q0, h2, q2, h3, q3, h4, q4a, q4b, h5, h6, q6, eqg_tx, eq_tx])
    simp only [runB, finC, finD, Option.isSome_some, Option.isSome_none, ↓reduceIte, Nat.reduceEqDiff, Nat.reduceAdd, Nat.reduceMul, forall_eq_or_imp, forall_eq, implies_true, Nat.reduceBEq, reduceCtorEq, false_implies, List.zip_cons_cons, List.zip_nil_left, List.zip_nil_right, Nat.reduceLeDiff, List.forall_mem_nil, rs_6, ty_3, ty_4, ty_5, ty_9, ty_22, ty_24, ty_25, ty_27, ty_50, ty_52, ty_54]
  rw [show chkW ⟨cl, ⟨seed, lv, nx⟩, no, sent⟩ = 0 from if_pos hk] at q3
  have hP : ∀ x, makeT ⟨seed, lv, nx⟩ ⟨cl, to, am, no, []⟩ = x → payS ⟨cl, ⟨seed, lv, nx⟩, no, sent⟩ to am = if x.2.2 = 0 then (⟨cl, x.2.1, no + 1, sent ++ [x.1]⟩, x.1, 0) else (zeroW, zeroT, x.2.2) := fun x e => by
    subst e
    exact if_pos hk
  have hno : no = (sent.length : Int) := hk.2.2.2.1.symm
  have hgd : goodK ⟨seed, lv, nx⟩ := hk.2.1
  by_cases hT : okT ⟨cl, to, am, no, []⟩
  case neg =>
    rw [show txS ⟨cl, to, am, no, []⟩ = 9 from if_neg hT] at q6
    rw [hP _ (if_neg hT)] at q2
    rw [if_neg (show ¬ ((9 : Int) = 0) by decide)] at q2
    unfold zeroW zeroK zeroT at q2
    dsimp only at q2
    rw [trows_nil, show texts [] = [] from rfl] at q2
    simp only [runA, runB, runC, runD, runE, runF, fieldE, storeE, binE, ↓reduceIte, Nat.reduceLT, Nat.reduceLeDiff, Nat.reduceEqDiff, Nat.reduceAdd, Nat.reduceMul, Nat.reduceSub, reduceCtorEq, putAt, unE, Nat.reduceBEq, convE, buildE, List.replicate, Int.reduceLT, Int.reduceLE, Int.reduceToNat, mkE, mapSetE, hN, hF, ty_3, ty_4, ty_5, ty_9, ty_22, ty_24, ty_25, ty_27, ty_50, ty_52, ty_54, notIf, isEq, hsl, hll, nt1, ntf, b9, b0, d9, d0, e9, e0, e17, bs, h1, q0, h2, q2, h3, q3, h4, q4a, q4b, h5, h6, q6, eqg_tx, eq_tx]
    try (refine drawnP_intro (by kernel_rfl) (by kernel_rfl) ?_; simp only [runA, runB, runC, runD, runE, runF, fieldE, storeE, binE, ↓reduceIte, Nat.reduceLT, Nat.reduceLeDiff, Nat.reduceEqDiff, Nat.reduceAdd, Nat.reduceMul, Nat.reduceSub, reduceCtorEq, putAt, unE, Nat.reduceBEq, convE, buildE, List.replicate, Int.reduceLT, Int.reduceLE, Int.reduceToNat, mkE, mapSetE, hN, hF, ty_3, ty_4, ty_5, ty_9, ty_22, ty_24, ty_25, ty_27, ty_50, ty_52, ty_54, notIf, isEq, hsl, hll, nt1, ntf, b9, b0, d9, d0, e9, e0, e17, bs, h1, q0, h2, q2, h3, q3, h4, q4a, q4b, h5, h6, q6, eqg_tx, eq_tx])
    try (refine drawnP_intro (by kernel_rfl) (by kernel_rfl) ?_; simp only [runA, runB, runC, runD, runE, runF, fieldE, storeE, binE, ↓reduceIte, Nat.reduceLT, Nat.reduceLeDiff, Nat.reduceEqDiff, Nat.reduceAdd, Nat.reduceMul, Nat.reduceSub, reduceCtorEq, putAt, unE, Nat.reduceBEq, convE, buildE, List.replicate, Int.reduceLT, Int.reduceLE, Int.reduceToNat, mkE, mapSetE, hN, hF, ty_3, ty_4, ty_5, ty_9, ty_22, ty_24, ty_25, ty_27, ty_50, ty_52, ty_54, notIf, isEq, hsl, hll, nt1, ntf, b9, b0, d9, d0, e9, e0, e17, bs, h1, q0, h2, q2, h3, q3, h4, q4a, q4b, h5, h6, q6, eqg_tx, eq_tx])
    try (refine drawnP_intro (by kernel_rfl) (by kernel_rfl) ?_; simp only [runA, runB, runC, runD, runE, runF, fieldE, storeE, binE, ↓reduceIte, Nat.reduceLT, Nat.reduceLeDiff, Nat.reduceEqDiff, Nat.reduceAdd, Nat.reduceMul, Nat.reduceSub, reduceCtorEq, putAt, unE, Nat.reduceBEq, convE, buildE, List.replicate, Int.reduceLT, Int.reduceLE, Int.reduceToNat, mkE, mapSetE, hN, hF, ty_3, ty_4, ty_5, ty_9, ty_22, ty_24, ty_25, ty_27, ty_50, ty_52, ty_54, notIf, isEq, hsl, hll, nt1, ntf, b9, b0, d9, d0, e9, e0, e17, bs, h1, q0, h2, q2, h3, q3, h4, q4a, q4b, h5, h6, q6, eqg_tx, eq_tx])
    simp only [runB, finC, finD, Option.isSome_some, Option.isSome_none, ↓reduceIte, Nat.reduceEqDiff, Nat.reduceAdd, Nat.reduceMul, forall_eq_or_imp, forall_eq, implies_true, Nat.reduceBEq, reduceCtorEq, false_implies, List.zip_cons_cons, List.zip_nil_left, List.zip_nil_right, Nat.reduceLeDiff, List.forall_mem_nil, rs_6, ty_3, ty_4, ty_5, ty_9, ty_22, ty_24, ty_25, ty_27, ty_50, ty_52, ty_54]
  rw [show txS ⟨cl, to, am, no, []⟩ = 0 from if_pos hT] at q6
  by_cases hn : nx = (lv.length : Int)
  · have hsg : signS ⟨seed, lv, nx⟩ (txT ⟨cl, to, am, no, []⟩) = ([], zeroK, 17) := by unfold signS; rw [if_pos hgd, if_pos hn]
    have hmk : makeT ⟨seed, lv, nx⟩ ⟨cl, to, am, no, []⟩ = (zeroT, zeroK, 17) := by unfold makeT; rw [if_pos hT, hsg]; rfl
    rw [hP _ hmk] at q2
    rw [if_neg (show ¬ ((17 : Int) = 0) by decide)] at q2
    unfold zeroW zeroK zeroT at q2
    dsimp only at q2
    rw [trows_nil, show texts [] = [] from rfl] at q2
    have g1 : (nx == (lv.length : Int)) = true := beq_iff_eq.2 hn
    simp only [runA, runB, runC, runD, runE, runF, fieldE, storeE, binE, ↓reduceIte, Nat.reduceLT, Nat.reduceLeDiff, Nat.reduceEqDiff, Nat.reduceAdd, Nat.reduceMul, Nat.reduceSub, reduceCtorEq, putAt, unE, Nat.reduceBEq, convE, buildE, List.replicate, Int.reduceLT, Int.reduceLE, Int.reduceToNat, mkE, mapSetE, hN, hF, ty_3, ty_4, ty_5, ty_9, ty_22, ty_24, ty_25, ty_27, ty_50, ty_52, ty_54, notIf, isEq, hsl, hll, nt1, ntf, b9, b0, d9, d0, e9, e0, e17, bs, h1, q0, h2, q2, h3, q3, h4, q4a, q4b, h5, h6, q6, eqg_tx, eq_tx, g1]
    try (refine drawnP_intro (by kernel_rfl) (by kernel_rfl) ?_; simp only [runA, runB, runC, runD, runE, runF, fieldE, storeE, binE, ↓reduceIte, Nat.reduceLT, Nat.reduceLeDiff, Nat.reduceEqDiff, Nat.reduceAdd, Nat.reduceMul, Nat.reduceSub, reduceCtorEq, putAt, unE, Nat.reduceBEq, convE, buildE, List.replicate, Int.reduceLT, Int.reduceLE, Int.reduceToNat, mkE, mapSetE, hN, hF, ty_3, ty_4, ty_5, ty_9, ty_22, ty_24, ty_25, ty_27, ty_50, ty_52, ty_54, notIf, isEq, hsl, hll, nt1, ntf, b9, b0, d9, d0, e9, e0, e17, bs, h1, q0, h2, q2, h3, q3, h4, q4a, q4b, h5, h6, q6, eqg_tx, eq_tx, g1])
    try (refine drawnP_intro (by kernel_rfl) (by kernel_rfl) ?_; simp only [runA, runB, runC, runD, runE, runF, fieldE, storeE, binE, ↓reduceIte, Nat.reduceLT, Nat.reduceLeDiff, Nat.reduceEqDiff, Nat.reduceAdd, Nat.reduceMul, Nat.reduceSub, reduceCtorEq, putAt, unE, Nat.reduceBEq, convE, buildE, List.replicate, Int.reduceLT, Int.reduceLE, Int.reduceToNat, mkE, mapSetE, hN, hF, ty_3, ty_4, ty_5, ty_9, ty_22, ty_24, ty_25, ty_27, ty_50, ty_52, ty_54, notIf, isEq, hsl, hll, nt1, ntf, b9, b0, d9, d0, e9, e0, e17, bs, h1, q0, h2, q2, h3, q3, h4, q4a, q4b, h5, h6, q6, eqg_tx, eq_tx, g1])
    try (refine drawnP_intro (by kernel_rfl) (by kernel_rfl) ?_; simp only [runA, runB, runC, runD, runE, runF, fieldE, storeE, binE, ↓reduceIte, Nat.reduceLT, Nat.reduceLeDiff, Nat.reduceEqDiff, Nat.reduceAdd, Nat.reduceMul, Nat.reduceSub, reduceCtorEq, putAt, unE, Nat.reduceBEq, convE, buildE, List.replicate, Int.reduceLT, Int.reduceLE, Int.reduceToNat, mkE, mapSetE, hN, hF, ty_3, ty_4, ty_5, ty_9, ty_22, ty_24, ty_25, ty_27, ty_50, ty_52, ty_54, notIf, isEq, hsl, hll, nt1, ntf, b9, b0, d9, d0, e9, e0, e17, bs, h1, q0, h2, q2, h3, q3, h4, q4a, q4b, h5, h6, q6, eqg_tx, eq_tx, g1])
    simp only [runB, finC, finD, Option.isSome_some, Option.isSome_none, ↓reduceIte, Nat.reduceEqDiff, Nat.reduceAdd, Nat.reduceMul, forall_eq_or_imp, forall_eq, implies_true, Nat.reduceBEq, reduceCtorEq, false_implies, List.zip_cons_cons, List.zip_nil_left, List.zip_nil_right, Nat.reduceLeDiff, List.forall_mem_nil, rs_6, ty_3, ty_4, ty_5, ty_9, ty_22, ty_24, ty_25, ty_27, ty_50, ty_52, ty_54]
  have g1 : (nx == (lv.length : Int)) = false := beq_eq_false_iff_ne.2 hn
  have hsg : signS ⟨seed, lv, nx⟩ (txT ⟨cl, to, am, no, []⟩) = (sigB ⟨seed, lv, nx⟩ (txT ⟨cl, to, am, no, []⟩), ⟨seed, lv, nx + 1⟩, 0) := by unfold signS; rw [if_pos hgd, if_neg hn]; rfl
  have hmk : makeT ⟨seed, lv, nx⟩ ⟨cl, to, am, no, []⟩ = (⟨cl, to, am, no, sigB ⟨seed, lv, nx⟩ (txT ⟨cl, to, am, no, []⟩)⟩, ⟨seed, lv, nx + 1⟩, 0) := by unfold makeT; rw [if_pos hT, hsg, if_pos rfl]; rfl
  rw [hP _ hmk] at q2
  rw [if_pos rfl] at q2
  have q7 := txT_at ⟨cl, to, am, no, []⟩
  have q8 := refSig_at ⟨seed, lv, nx⟩ (txT ⟨cl, to, am, no, []⟩) (by show lv.length ≤ _; omega) (by have := txT_len ⟨cl, to, am, no, []⟩; omega)
  rw [hsg] at q8
  have hokv := okW_pay (to := to) (am := am) hsn hk hn (sigB ⟨seed, lv, nx⟩ (txT ⟨cl, to, am, no, []⟩))
  dsimp only at q2 q7 q8
  generalize sigB ⟨seed, lv, nx⟩ (txT ⟨cl, to, am, no, []⟩) = sg at q2 q8 hokv
  generalize txT ⟨cl, to, am, no, []⟩ = tx at q7 q8
  have q5 := wck_at cl seed lv (nx + 1) (no + 1) (sent ++ [⟨cl, to, am, no, sg⟩]) (by omega) (by rw [List.length_append, List.length_singleton]; omega)
  rw [show chkW ⟨cl, ⟨seed, lv, nx + 1⟩, no + 1, sent ++ [⟨cl, to, am, no, sg⟩]⟩ = 0 from if_pos hokv] at q5
  have hvl : (trows (sent ++ [⟨cl, to, am, no, sg⟩])).length = sent.length + 1 := by rw [trows_length, List.length_append, List.length_singleton]
  have hlast : (trows (sent ++ [⟨cl, to, am, no, sg⟩]))[sent.length]? = some [.int .i64 cl, .int .i64 to, .int .i64 am, .int .i64 no, .str sg] := by simp [trows, Txn.pcs]
  have hnx := hgd.2.2.2
  dsimp only at hnx
  have e1 : IntKind.i64.wrap (no + 1) = no + 1 := wrapI (by omega)
  have e2 : IntKind.i64.wrap (nx + 1) = nx + 1 := wrapI (by omega)
  have e3 : IntKind.i64.wrap ((sent.length : Int) + 1) = ((sent.length + 1 : Nat) : Int) := by rw [wrapI (by omega)]; omega
  have hbs : ∀ x : List UInt8, (x == x) = true := fun x => by simp
  have hbi : ∀ x : Int, (x == x) = true := fun x => by simp
  generalize trows (sent ++ [⟨cl, to, am, no, sg⟩]) = T2 at q2 q5 hvl hlast
  simp only [runA, runB, runC, runD, runE, runF, fieldE, storeE, binE, ↓reduceIte, Nat.reduceLT, Nat.reduceLeDiff, Nat.reduceEqDiff, Nat.reduceAdd, Nat.reduceMul, Nat.reduceSub, reduceCtorEq, putAt, unE, Nat.reduceBEq, convE, buildE, List.replicate, Int.reduceLT, Int.reduceLE, Int.reduceToNat, mkE, mapSetE, hN, hF, ty_3, ty_4, ty_5, ty_9, ty_22, ty_24, ty_25, ty_27, ty_50, ty_52, ty_54, notIf, isEq, hsl, hll, nt1, ntf, b9, b0, d9, d0, e9, e0, e17, bs, h1, q0, h2, q2, h3, q3, h4, q4a, q4b, h5, h6, q6, eqg_tx, eq_tx, g1, h7, q7, h8, q8, q5, hvl, hlast, e1, e2, e3, hbs, hbi]
  try (refine drawnP_intro (by kernel_rfl) (by kernel_rfl) ?_; simp only [runA, runB, runC, runD, runE, runF, fieldE, storeE, binE, ↓reduceIte, Nat.reduceLT, Nat.reduceLeDiff, Nat.reduceEqDiff, Nat.reduceAdd, Nat.reduceMul, Nat.reduceSub, reduceCtorEq, putAt, unE, Nat.reduceBEq, convE, buildE, List.replicate, Int.reduceLT, Int.reduceLE, Int.reduceToNat, mkE, mapSetE, hN, hF, ty_3, ty_4, ty_5, ty_9, ty_22, ty_24, ty_25, ty_27, ty_50, ty_52, ty_54, notIf, isEq, hsl, hll, nt1, ntf, b9, b0, d9, d0, e9, e0, e17, bs, h1, q0, h2, q2, h3, q3, h4, q4a, q4b, h5, h6, q6, eqg_tx, eq_tx, g1, h7, q7, h8, q8, q5, hvl, hlast, e1, e2, e3, hbs, hbi])
  try (refine drawnP_intro (by kernel_rfl) (by kernel_rfl) ?_; simp only [runA, runB, runC, runD, runE, runF, fieldE, storeE, binE, ↓reduceIte, Nat.reduceLT, Nat.reduceLeDiff, Nat.reduceEqDiff, Nat.reduceAdd, Nat.reduceMul, Nat.reduceSub, reduceCtorEq, putAt, unE, Nat.reduceBEq, convE, buildE, List.replicate, Int.reduceLT, Int.reduceLE, Int.reduceToNat, mkE, mapSetE, hN, hF, ty_3, ty_4, ty_5, ty_9, ty_22, ty_24, ty_25, ty_27, ty_50, ty_52, ty_54, notIf, isEq, hsl, hll, nt1, ntf, b9, b0, d9, d0, e9, e0, e17, bs, h1, q0, h2, q2, h3, q3, h4, q4a, q4b, h5, h6, q6, eqg_tx, eq_tx, g1, h7, q7, h8, q8, q5, hvl, hlast, e1, e2, e3, hbs, hbi])
  try (refine drawnP_intro (by kernel_rfl) (by kernel_rfl) ?_; simp only [runA, runB, runC, runD, runE, runF, fieldE, storeE, binE, ↓reduceIte, Nat.reduceLT, Nat.reduceLeDiff, Nat.reduceEqDiff, Nat.reduceAdd, Nat.reduceMul, Nat.reduceSub, reduceCtorEq, putAt, unE, Nat.reduceBEq, convE, buildE, List.replicate, Int.reduceLT, Int.reduceLE, Int.reduceToNat, mkE, mapSetE, hN, hF, ty_3, ty_4, ty_5, ty_9, ty_22, ty_24, ty_25, ty_27, ty_50, ty_52, ty_54, notIf, isEq, hsl, hll, nt1, ntf, b9, b0, d9, d0, e9, e0, e17, bs, h1, q0, h2, q2, h3, q3, h4, q4a, q4b, h5, h6, q6, eqg_tx, eq_tx, g1, h7, q7, h8, q8, q5, hvl, hlast, e1, e2, e3, hbs, hbi])
  simp only [runB, finC, finD, Option.isSome_some, Option.isSome_none, ↓reduceIte, Nat.reduceEqDiff, Nat.reduceAdd, Nat.reduceMul, forall_eq_or_imp, forall_eq, implies_true, Nat.reduceBEq, reduceCtorEq, false_implies, List.zip_cons_cons, List.zip_nil_left, List.zip_nil_right, Nat.reduceLeDiff, List.forall_mem_nil, rs_6, ty_3, ty_4, ty_5, ty_9, ty_22, ty_24, ty_25, ty_27, ty_50, ty_52, ty_54]

end Go.Proofs.Ytldehcnaepgamaa.AM
