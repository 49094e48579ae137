/-
  QR: Tr1 Tr2 Tr3 Tr4 Tr5 Tr7 Tr8 Tr9.
-/
import Derived.Test.YtenmlgalcjkdbaaGreatQ9
import Derived.Test.YtenmlgalcjkdbaaGreatQB
set_option linter.unusedVariables false
set_option linter.unusedSimpArgs false
namespace Go.Proofs.YtenmlgalcjkdbaaGreat.AM
open Go

variable {Γ : FuncId → Contract}

noncomputable def clnTC : Contract := mkC (α := List Txn) (fun l => l.length ≤ 1099511627776) (fun l => [.c (.sl (trows l))]) (fun _ => []) (fun l => ⟨[.pv (.c (.sl (trows l)))], []⟩)
theorem clnT_at (l : List Txn) (h : l.length ≤ 1099511627776) : clnTC [.c (.sl (trows l))] [] = some ⟨[.pv (.c (.sl (trows l)))], []⟩ :=
  mkC_at (α := List Txn) l h (by
    rintro y _ h _
    simp only [List.cons.injEq, AV.c.injEq, PC.sl.injEq, trows_iff, and_true] at h
    rw [h])
set_option maxRecDepth 100000 in
set_option maxHeartbeats 4000000 in
theorem clnT_sound  : SoundC Tryz.prog 47 clnTC := by
  refine sound_fn Tryz.func47 (by kernel_rfl) rfl rfl ?_
  intro args objs r0 hr
  obtain ⟨l, hl, rfl, rfl, rfl⟩ := mkC_inv hr
  refine ⟨rfl, by show 1 ≤ _; decide, fun E hN hns hF => ?_⟩
  refine vc_sound none0_sound mixed _ _ _ ?_
  have hN := hN.trans nt_47
  have hl : l.length ≤ 1099511627776 := hl
  have hz := rowsOK_trows l
  have hz0 : rowsOK 5 [] := fun _ h => by cases h
  cases l with
  | nil =>
    simp only [trows_nil, runA, runB, runC, runD, runE, runF, fieldE, storeE, binE, ↓reduceIte, Nat.reduceLT, Nat.reduceLeDiff, Nat.reduceEqDiff, Nat.reduceAdd, Nat.reduceMul, Nat.reduceSub, reduceCtorEq, putAt, unE, Nat.reduceBEq, convE, buildE, List.replicate, Int.reduceLT, Int.reduceLE, Int.reduceToNat, mkE, mapSetE, hN, hF, ty_22, ty_36, notIf, isEq, hz0]
    constructor
    all_goals simp only [runB, finC, finD, Option.isSome_some, Option.isSome_none, ↓reduceIte, Nat.reduceEqDiff, Nat.reduceAdd, Nat.reduceMul, forall_eq_or_imp, forall_eq, implies_true, Nat.reduceBEq, reduceCtorEq, false_implies, List.zip_cons_cons, List.zip_nil_left, List.zip_nil_right, Nat.reduceLeDiff, List.forall_mem_nil, rs_47]
  | cons x l =>
    have hx : trows (x :: l) = x.pcs :: trows l := rfl
    have hxl : (trows l).length = l.length := trows_length l
    rw [List.length_cons] at hl
    have hL : (0 + (l.length + 1)) * 48 ≤ 140737488355328 := by omega
    have hL2 : (l.length + 1) * 48 ≤ 140737488355328 := by omega
    rw [hx] at hz ⊢
    simp only [runA, runB, runC, runD, runE, runF, fieldE, storeE, binE, ↓reduceIte, Nat.reduceLT, Nat.reduceLeDiff, Nat.reduceEqDiff, Nat.reduceAdd, Nat.reduceMul, Nat.reduceSub, reduceCtorEq, putAt, unE, Nat.reduceBEq, convE, buildE, List.replicate, Int.reduceLT, Int.reduceLE, Int.reduceToNat, mkE, mapSetE, hN, hF, ty_22, ty_36, notIf, isEq, hz, hL, hL2, hxl]
    simp only [runB, finC, finD, Option.isSome_some, Option.isSome_none, ↓reduceIte, Nat.reduceEqDiff, Nat.reduceAdd, Nat.reduceMul, forall_eq_or_imp, forall_eq, implies_true, Nat.reduceBEq, reduceCtorEq, false_implies, List.zip_cons_cons, List.zip_nil_left, List.zip_nil_right, Nat.reduceLeDiff, List.forall_mem_nil, rs_47, hxl]
noncomputable def clnVC : Contract := mkC (α := List Vt) (fun l => l.length ≤ 1099511627776) (fun l => [.c (.sl (votes l))]) (fun _ => []) (fun l => ⟨[.pv (.c (.sl (votes l)))], []⟩)
theorem clnV_at (l : List Vt) (h : l.length ≤ 1099511627776) : clnVC [.c (.sl (votes l))] [] = some ⟨[.pv (.c (.sl (votes l)))], []⟩ :=
  mkC_at (α := List Vt) l h (by
    rintro y _ h _
    simp only [List.cons.injEq, AV.c.injEq, PC.sl.injEq, votes_iff, and_true] at h
    rw [h])
set_option maxRecDepth 100000 in
set_option maxHeartbeats 4000000 in
theorem clnV_sound  : SoundC Tryz.prog 48 clnVC := by
  refine sound_fn Tryz.func48 (by kernel_rfl) rfl rfl ?_
  intro args objs r0 hr
  obtain ⟨l, hl, rfl, rfl, rfl⟩ := mkC_inv hr
  refine ⟨rfl, by show 1 ≤ _; decide, fun E hN hns hF => ?_⟩
  refine vc_sound none0_sound mixed _ _ _ ?_
  have hN := hN.trans nt_48
  have hl : l.length ≤ 1099511627776 := hl
  have hz := rowsOK_votes l
  have hz0 : rowsOK 7 [] := fun _ h => by cases h
  cases l with
  | nil =>
    simp only [votes_nil, runA, runB, runC, runD, runE, runF, fieldE, storeE, binE, ↓reduceIte, Nat.reduceLT, Nat.reduceLeDiff, Nat.reduceEqDiff, Nat.reduceAdd, Nat.reduceMul, Nat.reduceSub, reduceCtorEq, putAt, unE, Nat.reduceBEq, convE, buildE, List.replicate, Int.reduceLT, Int.reduceLE, Int.reduceToNat, mkE, mapSetE, hN, hF, ty_29, ty_97, notIf, isEq, hz0]
    constructor
    all_goals simp only [runB, finC, finD, Option.isSome_some, Option.isSome_none, ↓reduceIte, Nat.reduceEqDiff, Nat.reduceAdd, Nat.reduceMul, forall_eq_or_imp, forall_eq, implies_true, Nat.reduceBEq, reduceCtorEq, false_implies, List.zip_cons_cons, List.zip_nil_left, List.zip_nil_right, Nat.reduceLeDiff, List.forall_mem_nil, rs_48]
  | cons x l =>
    have hx : votes (x :: l) = x.pcs :: votes l := rfl
    have hxl : (votes l).length = l.length := votes_length l
    rw [List.length_cons] at hl
    have hL : (0 + (l.length + 1)) * 72 ≤ 140737488355328 := by omega
    have hL2 : (l.length + 1) * 72 ≤ 140737488355328 := by omega
    rw [hx] at hz ⊢
    simp only [runA, runB, runC, runD, runE, runF, fieldE, storeE, binE, ↓reduceIte, Nat.reduceLT, Nat.reduceLeDiff, Nat.reduceEqDiff, Nat.reduceAdd, Nat.reduceMul, Nat.reduceSub, reduceCtorEq, putAt, unE, Nat.reduceBEq, convE, buildE, List.replicate, Int.reduceLT, Int.reduceLE, Int.reduceToNat, mkE, mapSetE, hN, hF, ty_29, ty_97, notIf, isEq, hz, hL, hL2, hxl]
    simp only [runB, finC, finD, Option.isSome_some, Option.isSome_none, ↓reduceIte, Nat.reduceEqDiff, Nat.reduceAdd, Nat.reduceMul, forall_eq_or_imp, forall_eq, implies_true, Nat.reduceBEq, reduceCtorEq, false_implies, List.zip_cons_cons, List.zip_nil_left, List.zip_nil_right, Nat.reduceLeDiff, List.forall_mem_nil, rs_48, hxl]
def smB (b : Blk) : Prop := b.txs.length ≤ 1099511627776 ∧ b.ju.vs.length ≤ 1099511627776
noncomputable def cpyC : Contract := mkC (α := Blk) (fun p => smB p) (fun p => [p.av]) (fun p => []) (fun p => ⟨[.pv p.av], []⟩)
theorem cpy_at (bvw : Int) (bht : Int) (bpa : List UInt8) (bjvw : Int) (bjht : Int) (bjbl : List UInt8) (bjvs : List Vt) (btxs : List Txn) (bsig : List UInt8) (g0 : smB (⟨bvw, bht, bpa, ⟨bjvw, bjht, bjbl, bjvs⟩, btxs, bsig⟩ : Blk)) : cpyC [(.agg [.c (.int .i64 bvw), .c (.int .i64 bht), .c (.str bpa), .c (.int .i64 bjvw), .c (.int .i64 bjht), .c (.str bjbl), .c (.sl (votes bjvs)), .c (.sl (trows btxs)), .c (.str bsig)])] [] = some ⟨[.pv (.agg [.c (.int .i64 bvw), .c (.int .i64 bht), .c (.str bpa), .c (.int .i64 bjvw), .c (.int .i64 bjht), .c (.str bjbl), .c (.sl (votes bjvs)), .c (.sl (trows btxs)), .c (.str bsig)])], []⟩ := by
  exact mkC_at (α := Blk) ⟨bvw, bht, bpa, ⟨bjvw, bjht, bjbl, bjvs⟩, btxs, bsig⟩ g0 (by
    rintro b' _ h ho
    have hh := And.intro h ho
    clear h ho
    simp only [List.cons.injEq, AV.c.injEq, AV.agg.injEq, PC.int.injEq, PC.str.injEq, PC.bool.injEq, PC.sl.injEq, OV.c.injEq, OV.own.injEq, OV.mp.injEq, bytes_iff, texts_iff, true_and, and_true, and_self, beq_self_eq_true, Blk.av_iff] at hh
    simp only [hh])

set_option maxRecDepth 100000 in
set_option maxHeartbeats 4000000 in
theorem cpy_sound (hΓ : SoundG Tryz.prog Γ) (h1 : Γ 47 = clnTC) (h2 : Γ 48 = clnVC) : SoundC Tryz.prog 69 cpyC := by
  refine sound_fn Tryz.func69 (by kernel_rfl) rfl rfl ?_
  intro args objs r0 hr
  obtain ⟨⟨vw, ht, pa, ⟨jv, jh, jb, js⟩, txs, sig⟩, hl, rfl, rfl, rfl⟩ := mkC_inv hr
  refine ⟨rfl, by show 1 ≤ _; decide, fun E hN hns hF => ?_⟩
  refine vc_sound hΓ mixed _ _ _ ?_
  have hN := hN.trans nt_69
  obtain ⟨hl1, hl2⟩ := hl
  have q1 := clnT_at txs hl1
  have q2 := clnV_at js hl2
  unfold Blk.av
  dsimp only
  simp only [runA, runB, runC, runD, runE, runF, fieldE, storeE, binE, ↓reduceIte, Nat.reduceLT, Nat.reduceLeDiff, Nat.reduceEqDiff, Nat.reduceAdd, Nat.reduceMul, Nat.reduceSub, reduceCtorEq, putAt, unE, Nat.reduceBEq, convE, buildE, List.replicate, Int.reduceLT, Int.reduceLE, Int.reduceToNat, mkE, mapSetE, hN, hF, ty_3, ty_9, ty_22, ty_29, ty_31, ty_33, ty_36, ty_97, notIf, isEq, h1, h2, q1, q2]
  refine drawnP_intro (by kernel_rfl) (by kernel_rfl) ?_
  simp only [runA, runB, runC, runD, runE, runF, fieldE, storeE, binE, ↓reduceIte, Nat.reduceLT, Nat.reduceLeDiff, Nat.reduceEqDiff, Nat.reduceAdd, Nat.reduceMul, Nat.reduceSub, reduceCtorEq, putAt, unE, Nat.reduceBEq, convE, buildE, List.replicate, Int.reduceLT, Int.reduceLE, Int.reduceToNat, mkE, mapSetE, hN, hF, ty_3, ty_9, ty_22, ty_29, ty_31, ty_33, ty_36, ty_97, notIf, isEq]
  simp only [runB, finC, finD, Option.isSome_some, Option.isSome_none, ↓reduceIte, Nat.reduceEqDiff, Nat.reduceAdd, Nat.reduceMul, forall_eq_or_imp, forall_eq, implies_true, Nat.reduceBEq, reduceCtorEq, false_implies, List.zip_cons_cons, List.zip_nil_left, List.zip_nil_right, Nat.reduceLeDiff, List.forall_mem_nil, rs_69, ty_3, ty_9, ty_22, ty_29, ty_31, ty_33, ty_36, ty_97]

def fitsB (b p : Blk) : Bool := (p.ht == IntKind.i64.wrap (b.ht - 1)) && (p.vw == b.ju.vw)
noncomputable def fitsC : Contract := mkC (α := Blk × Blk) (fun p => True) (fun p => [p.1.av, p.2.av]) (fun p => []) (fun p => ⟨[.pv (.c (.bool (fitsB p.1 p.2)))], []⟩)
theorem fits_at (bvw : Int) (bht : Int) (bpa : List UInt8) (bjvw : Int) (bjht : Int) (bjbl : List UInt8) (bjvs : List Vt) (btxs : List Txn) (bsig : List UInt8) (qvw : Int) (qht : Int) (qpa : List UInt8) (qjvw : Int) (qjht : Int) (qjbl : List UInt8) (qjvs : List Vt) (qtxs : List Txn) (qsig : List UInt8) : fitsC [(.agg [.c (.int .i64 bvw), .c (.int .i64 bht), .c (.str bpa), .c (.int .i64 bjvw), .c (.int .i64 bjht), .c (.str bjbl), .c (.sl (votes bjvs)), .c (.sl (trows btxs)), .c (.str bsig)]), (.agg [.c (.int .i64 qvw), .c (.int .i64 qht), .c (.str qpa), .c (.int .i64 qjvw), .c (.int .i64 qjht), .c (.str qjbl), .c (.sl (votes qjvs)), .c (.sl (trows qtxs)), .c (.str qsig)])] [] = some ⟨[.pv (.c (.bool (fitsB (⟨bvw, bht, bpa, ⟨bjvw, bjht, bjbl, bjvs⟩, btxs, bsig⟩ : Blk) (⟨qvw, qht, qpa, ⟨qjvw, qjht, qjbl, qjvs⟩, qtxs, qsig⟩ : Blk))))], []⟩ := by
  exact mkC_at (α := Blk × Blk) (⟨bvw, bht, bpa, ⟨bjvw, bjht, bjbl, bjvs⟩, btxs, bsig⟩, ⟨qvw, qht, qpa, ⟨qjvw, qjht, qjbl, qjvs⟩, qtxs, qsig⟩) trivial (by
    rintro ⟨b', q'⟩ _ h ho
    have hh := And.intro h ho
    clear h ho
    simp only [List.cons.injEq, AV.c.injEq, AV.agg.injEq, PC.int.injEq, PC.str.injEq, PC.bool.injEq, PC.sl.injEq, OV.c.injEq, OV.own.injEq, OV.mp.injEq, bytes_iff, texts_iff, true_and, and_true, and_self, beq_self_eq_true, Blk.av_iff] at hh
    simp only [hh])

set_option maxRecDepth 100000 in
set_option maxHeartbeats 4000000 in
theorem fits_sound  : SoundC Tryz.prog 173 fitsC := by
  refine sound_fn Tryz.func173 (by kernel_rfl) rfl rfl ?_
  intro args objs r0 hr
  obtain ⟨⟨⟨vw, ht, pa, ⟨jv, jh, jb, js⟩, txs, sig⟩, ⟨vw2, ht2, pa2, ⟨jv2, jh2, jb2, js2⟩, txs2, sig2⟩⟩, _, rfl, rfl, rfl⟩ := mkC_inv hr
  refine ⟨rfl, by show 2 ≤ _; decide, fun E hN hns hF => ?_⟩
  refine vc_sound none0_sound mixed _ _ _ ?_
  have hN := hN.trans nt_173
  unfold Blk.av fitsB
  dsimp only
  simp +contextual (maxSteps := 10000000) only [runA, runB, runC, runD, runE, runF, fieldE, storeE, binE, ↓reduceIte, Nat.reduceLT, Nat.reduceLeDiff, Nat.reduceEqDiff, Nat.reduceAdd, Nat.reduceMul, Nat.reduceSub, reduceCtorEq, putAt, unE, Nat.reduceBEq, convE, buildE, List.replicate, Int.reduceLT, Int.reduceLE, Int.reduceToNat, mkE, mapSetE, hN, hF, ty_3, ty_4, ty_9, ty_22, ty_29, ty_31, ty_33, notIf, isEq, bytes_length, false_implies, implies_true]
  simp only [runB, finC, finD, Option.isSome_some, Option.isSome_none, ↓reduceIte, Nat.reduceEqDiff, Nat.reduceAdd, Nat.reduceMul, forall_eq_or_imp, forall_eq, implies_true, Nat.reduceBEq, reduceCtorEq, false_implies, List.zip_cons_cons, List.zip_nil_left, List.zip_nil_right, Nat.reduceLeDiff, List.forall_mem_nil, rs_173, ty_3, ty_4, ty_9, ty_22, ty_29, ty_31, ty_33]

noncomputable def esOf (own : List Blk) : List (List UInt8 × List PC) := own.map fun b => (nameS b, b.pcs)
theorem esOf_iff {a b : List Blk} : esOf a = esOf b ↔ a = b := ⟨map_inj' fun x y h => Blk.pcs_inj (Prod.mk.inj h).2, fun h => by rw [h]⟩
theorem esOf_length (own : List Blk) : (esOf own).length = own.length := by simp [esOf]
noncomputable def atB (own : List Blk) (name : List UInt8) : Option Blk := own.find? fun b => nameS b == name
theorem find_es (own : List Blk) (name : List UInt8) : findE name (esOf own) = (atB own name).map Blk.pcs := by
  induction own with
  | nil => rfl
  | cons b own ih =>
    show findE name ((nameS b, b.pcs) :: esOf own) = _
    unfold atB
    rw [List.find?_cons]
    unfold findE
    cases h : nameS b == name with
    | true => rw [if_pos rfl]; rfl
    | false => rw [if_neg (by simp)]; exact ih
theorem set_es {own : List Blk} {b : Blk} (h : atB own (nameS b) = none) : setE (nameS b) b.pcs (esOf own) = esOf (own ++ [b]) := by
  induction own with
  | nil => rfl
  | cons x own ih =>
    unfold atB at h ih
    rw [List.find?_cons] at h
    show setE (nameS b) b.pcs ((nameS x, x.pcs) :: esOf own) = (nameS x, x.pcs) :: esOf (own ++ [b])
    unfold setE
    cases hx : nameS x == nameS b with
    | true => rw [hx] at h; cases h
    | false =>
      rw [hx] at h
      rw [if_neg (by simp), ih h]
def treeOK (own : List Blk) : Prop := own.length ≤ 4294967296 ∧ ∀ b ∈ own, okB b ∧ smB b
noncomputable def gotB (own : List Blk) (name : List UInt8) : Blk := (atB own name).getD zeroBk
theorem atB_mem {own : List Blk} {name : List UInt8} {b : Blk} (h : atB own name = some b) : b ∈ own := List.mem_of_find?_eq_some h
noncomputable def newTC : Contract := fun args objs => match args, objs with | [], [] => some ⟨[.newobj [.mp true []]], []⟩ | _, _ => none
noncomputable def atTC : Contract := mkC (α := List Blk × List UInt8) (fun p => True) (fun p => [.ptr 6400000 0, .c (.str p.2)]) (fun p => [[.mp true (esOf p.1)]]) (fun p => ⟨[.pv (gotB p.1 p.2).av, .pv (.c (.bool (atB p.1 p.2).isSome))], [[.mp true (esOf p.1)]]⟩)
theorem atT_at (o : List Blk) (s : List UInt8) : atTC [.ptr 6400000 0, .c (.str s)] [[.mp true (esOf o)]] = some ⟨[.pv (gotB o s).av, .pv (.c (.bool (atB o s).isSome))], [[.mp true (esOf o)]]⟩ := by
  exact mkC_at (α := List Blk × List UInt8) (o, s) trivial (by
    rintro ⟨o', s'⟩ _ h ho
    have hh := And.intro h ho
    clear h ho
    simp only [List.cons.injEq, AV.c.injEq, AV.agg.injEq, PC.int.injEq, PC.str.injEq, PC.bool.injEq, PC.sl.injEq, OV.c.injEq, OV.own.injEq, OV.mp.injEq, bytes_iff, texts_iff, true_and, and_true, and_self, beq_self_eq_true, esOf_iff] at hh
    simp only [hh])
noncomputable def lenTC : Contract := mkC (α := List Blk) (fun p => True) (fun p => [.ptr 6400000 0]) (fun p => [[.mp true (esOf p)]]) (fun p => ⟨[.pv (.c (.int .i64 (p.length : Int)))], [[.mp true (esOf p)]]⟩)
theorem lenT_at (o : List Blk) : lenTC [.ptr 6400000 0] [[.mp true (esOf o)]] = some ⟨[.pv (.c (.int .i64 (o.length : Int)))], [[.mp true (esOf o)]]⟩ := by
  exact mkC_at (α := List Blk) o trivial (by
    rintro o' _ h ho
    have hh := And.intro h ho
    clear h ho
    simp only [List.cons.injEq, AV.c.injEq, AV.agg.injEq, PC.int.injEq, PC.str.injEq, PC.bool.injEq, PC.sl.injEq, OV.c.injEq, OV.own.injEq, OV.mp.injEq, bytes_iff, texts_iff, true_and, and_true, and_self, beq_self_eq_true, esOf_iff] at hh
    simp only [hh])
noncomputable def putB' (o : List Blk) (b : Blk) : Bool := decide (okB b) && (atB o (nameS b)).isNone
noncomputable def putO (o : List Blk) (b : Blk) : List Blk := if putB' o b then o ++ [b] else o
noncomputable def putTC : Contract := mkC (α := List Blk × Blk) (fun p => smB p.2) (fun p => [.ptr 6400000 0, p.2.av]) (fun p => [[.mp true (esOf p.1)]]) (fun p => ⟨[.pv (.c (.bool (putB' p.1 p.2)))], [[.mp true (esOf (putO p.1 p.2))]]⟩)
theorem putT_at (o : List Blk) (bvw : Int) (bht : Int) (bpa : List UInt8) (bjvw : Int) (bjht : Int) (bjbl : List UInt8) (bjvs : List Vt) (btxs : List Txn) (bsig : List UInt8) (g0 : smB (⟨bvw, bht, bpa, ⟨bjvw, bjht, bjbl, bjvs⟩, btxs, bsig⟩ : Blk)) : putTC [.ptr 6400000 0, (.agg [.c (.int .i64 bvw), .c (.int .i64 bht), .c (.str bpa), .c (.int .i64 bjvw), .c (.int .i64 bjht), .c (.str bjbl), .c (.sl (votes bjvs)), .c (.sl (trows btxs)), .c (.str bsig)])] [[.mp true (esOf o)]] = some ⟨[.pv (.c (.bool (putB' o (⟨bvw, bht, bpa, ⟨bjvw, bjht, bjbl, bjvs⟩, btxs, bsig⟩ : Blk))))], [[.mp true (esOf (putO o (⟨bvw, bht, bpa, ⟨bjvw, bjht, bjbl, bjvs⟩, btxs, bsig⟩ : Blk)))]]⟩ := by
  exact mkC_at (α := List Blk × Blk) (o, ⟨bvw, bht, bpa, ⟨bjvw, bjht, bjbl, bjvs⟩, btxs, bsig⟩) g0 (by
    rintro ⟨o', b'⟩ _ h ho
    have hh := And.intro h ho
    clear h ho
    simp only [List.cons.injEq, AV.c.injEq, AV.agg.injEq, PC.int.injEq, PC.str.injEq, PC.bool.injEq, PC.sl.injEq, OV.c.injEq, OV.own.injEq, OV.mp.injEq, bytes_iff, texts_iff, true_and, and_true, and_self, beq_self_eq_true, esOf_iff, Blk.av_iff] at hh
    simp only [hh])


variable {Γ : FuncId → Contract}


theorem op_makeMap {Γ : FuncId → Contract} {P : Program} {M : List Nat} {dd : Tmp} {ty : TypeId} {pos : String} {af : Array Edge} {g : Option (Nat × Bool)} {ρ : Operand → AV} (t : TypeId) : opE Γ P M ⟨some dd, .makeMap t none, ty, pos, af, g⟩ ρ = (match (tyMap P t).bind fun x => tyAgg P x.2 with
    | some ag => .ask (objName dd) fun | none => .ret ⟨.mp (objName dd), [(objName dd, .mp ag [])]⟩ | some _ => .fail
    | none => .fail) := rfl
set_option maxHeartbeats 4000000 in
theorem newT_sound : SoundC Tryz.prog 23 newTC := by
  refine sound_fn Tryz.func23 (by kernel_rfl) rfl rfl ?_
  intro args objs r0 hr
  unfold newTC at hr
  split at hr
  · cases hr
    refine ⟨rfl, by show 0 ≤ _; decide, fun E hN hns hF => ?_⟩
    refine vc_sound none0_sound mixed _ _ _ ?_
    have hN := hN.trans nt_23
    simp only [runA, runB, runC, runD, runE, runF, fieldE, storeE, binE, ↓reduceIte, Nat.reduceLT, Nat.reduceLeDiff, Nat.reduceEqDiff, Nat.reduceAdd, Nat.reduceMul, Nat.reduceSub, reduceCtorEq, putAt, unE, Nat.reduceBEq, convE, buildE, List.replicate, Int.reduceLT, Int.reduceLE, Int.reduceToNat, mkE, mapSetE, hN, hF, ty_9, ty_33, ty_59, ty_119, ty_121, notIf, isEq, Option.isSome_some, op_makeMap, Option.bind_some]
    simp only [runB, finC, finD, Option.isSome_some, Option.isSome_none, ↓reduceIte, Nat.reduceEqDiff, Nat.reduceAdd, Nat.reduceMul, forall_eq_or_imp, forall_eq, implies_true, Nat.reduceBEq, reduceCtorEq, false_implies, List.zip_cons_cons, List.zip_nil_left, List.zip_nil_right, Nat.reduceLeDiff, List.forall_mem_nil, rs_23, ty_9, ty_33, ty_59, ty_119, ty_121]
  · cases hr

set_option maxRecDepth 100000 in
set_option maxHeartbeats 4000000 in
theorem lenT_sound  : SoundC Tryz.prog 172 lenTC := by
  refine sound_fn Tryz.func172 (by kernel_rfl) rfl rfl ?_
  intro args objs r0 hr
  obtain ⟨o, _, rfl, rfl, rfl⟩ := mkC_inv hr
  refine ⟨rfl, by show 1 ≤ _; decide, fun E hN hns hF => ?_⟩
  refine vc_sound none0_sound mixed _ _ _ ?_
  have hN := hN.trans nt_172
  have hl := esOf_length o
  generalize esOf o = es at hl ⊢
  simp only [runA, runB, runC, runD, runE, runF, fieldE, storeE, binE, ↓reduceIte, Nat.reduceLT, Nat.reduceLeDiff, Nat.reduceEqDiff, Nat.reduceAdd, Nat.reduceMul, Nat.reduceSub, reduceCtorEq, putAt, unE, Nat.reduceBEq, convE, buildE, List.replicate, Int.reduceLT, Int.reduceLE, Int.reduceToNat, mkE, mapSetE, hN, hF, ty_3, ty_9, ty_33, ty_59, ty_119, ty_121, notIf, isEq, Option.isSome_some, op_makeMap, Option.bind_some, hl]
  simp only [runB, finC, finD, Option.isSome_some, Option.isSome_none, ↓reduceIte, Nat.reduceEqDiff, Nat.reduceAdd, Nat.reduceMul, forall_eq_or_imp, forall_eq, implies_true, Nat.reduceBEq, reduceCtorEq, false_implies, List.zip_cons_cons, List.zip_nil_left, List.zip_nil_right, Nat.reduceLeDiff, List.forall_mem_nil, rs_172, ty_3, ty_9, ty_33, ty_59, ty_119, ty_121, hl]

set_option maxRecDepth 100000 in
set_option maxHeartbeats 4000000 in
theorem atT_sound  : SoundC Tryz.prog 138 atTC := by
  refine sound_fn Tryz.func138 (by kernel_rfl) rfl rfl ?_
  intro args objs r0 hr
  obtain ⟨⟨o, s⟩, _, rfl, rfl, rfl⟩ := mkC_inv hr
  refine ⟨rfl, by show 2 ≤ _; decide, fun E hN hns hF => ?_⟩
  refine vc_sound none0_sound mixed _ _ _ ?_
  have hN := hN.trans nt_138
  have hf := find_es o s
  unfold gotB
  dsimp only
  cases ha : atB o s with
  | none =>
    rw [ha] at hf
    simp only [Option.map_none] at hf
    generalize esOf o = es at hf ⊢
    simp only [runA, runB, runC, runD, runE, runF, fieldE, storeE, binE, ↓reduceIte, Nat.reduceLT, Nat.reduceLeDiff, Nat.reduceEqDiff, Nat.reduceAdd, Nat.reduceMul, Nat.reduceSub, reduceCtorEq, putAt, unE, Nat.reduceBEq, convE, buildE, List.replicate, Int.reduceLT, Int.reduceLE, Int.reduceToNat, mkE, mapSetE, hN, hF, ty_3, ty_4, ty_9, ty_22, ty_31, ty_33, ty_59, ty_119, ty_121, notIf, isEq, Option.isSome_some, op_makeMap, Option.bind_some, hf]
    simp only [runB, finC, finD, Option.isSome_some, Option.isSome_none, ↓reduceIte, Nat.reduceEqDiff, Nat.reduceAdd, Nat.reduceMul, forall_eq_or_imp, forall_eq, implies_true, Nat.reduceBEq, reduceCtorEq, false_implies, List.zip_cons_cons, List.zip_nil_left, List.zip_nil_right, Nat.reduceLeDiff, List.forall_mem_nil, rs_138, ty_3, ty_4, ty_9, ty_22, ty_31, ty_33, ty_59, ty_119, ty_121, Option.getD_none, zeroBk, Blk.av, Option.isSome_none, votes_nil, trows_nil]
  | some b =>
    rw [ha] at hf
    simp only [Option.map_some] at hf
    obtain ⟨vw, ht, pa, ⟨jv, jh, jb, js⟩, txs, sig⟩ := b
    unfold Blk.pcs at hf
    generalize esOf o = es at hf ⊢
    simp only [runA, runB, runC, runD, runE, runF, fieldE, storeE, binE, ↓reduceIte, Nat.reduceLT, Nat.reduceLeDiff, Nat.reduceEqDiff, Nat.reduceAdd, Nat.reduceMul, Nat.reduceSub, reduceCtorEq, putAt, unE, Nat.reduceBEq, convE, buildE, List.replicate, Int.reduceLT, Int.reduceLE, Int.reduceToNat, mkE, mapSetE, hN, hF, ty_3, ty_4, ty_9, ty_22, ty_31, ty_33, ty_59, ty_119, ty_121, notIf, isEq, Option.isSome_some, op_makeMap, Option.bind_some, hf]
    simp only [runB, finC, finD, Option.isSome_some, Option.isSome_none, ↓reduceIte, Nat.reduceEqDiff, Nat.reduceAdd, Nat.reduceMul, forall_eq_or_imp, forall_eq, implies_true, Nat.reduceBEq, reduceCtorEq, false_implies, List.zip_cons_cons, List.zip_nil_left, List.zip_nil_right, Nat.reduceLeDiff, List.forall_mem_nil, rs_138, ty_3, ty_4, ty_9, ty_22, ty_31, ty_33, ty_59, ty_119, ty_121, Option.getD_some, Blk.av, Option.isSome_some]

set_option maxRecDepth 100000 in
set_option maxHeartbeats 4000000 in
theorem putT_sound (hΓ : SoundG Tryz.prog Γ) (h1 : Γ 16 = bkNC) (h2 : Γ 69 = cpyC) : SoundC Tryz.prog 24 putTC := by
  refine sound_fn Tryz.func24 (by kernel_rfl) rfl rfl ?_
  intro args objs r0 hr
  obtain ⟨⟨o, ⟨vw, ht, pa, ⟨jv, jh, jb, js⟩, txs, sig⟩⟩, hl, rfl, rfl, rfl⟩ := mkC_inv hr
  refine ⟨rfl, by show 2 ≤ _; decide, fun E hN hns hF => ?_⟩
  refine vc_sound hΓ mixed _ _ _ ?_
  have hN := hN.trans nt_24
  have hl : smB ⟨vw, ht, pa, ⟨jv, jh, jb, js⟩, txs, sig⟩ := hl
  have q1 := bkN_at vw ht pa jv jh jb js txs sig (by have := hl.1; dsimp only at this; omega)
  have q2 := cpy_at vw ht pa jv jh jb js txs sig hl
  have hf := find_es o (nameS ⟨vw, ht, pa, ⟨jv, jh, jb, js⟩, txs, sig⟩)
  have hset : atB o (nameS ⟨vw, ht, pa, ⟨jv, jh, jb, js⟩, txs, sig⟩) = none → setE (nameS ⟨vw, ht, pa, ⟨jv, jh, jb, js⟩, txs, sig⟩) [.int .i64 vw, .int .i64 ht, .str pa, .int .i64 jv, .int .i64 jh, .str jb, .sl (votes js), .sl (trows txs), .str sig] (esOf o) = esOf (o ++ [⟨vw, ht, pa, ⟨jv, jh, jb, js⟩, txs, sig⟩]) := set_es
  unfold Blk.av at q2 ⊢
  dsimp only at q2 ⊢
  have bs : (([] : List UInt8) == []) = true := rfl
  by_cases hk : okB ⟨vw, ht, pa, ⟨jv, jh, jb, js⟩, txs, sig⟩
  case neg =>
    have hS : nameS ⟨vw, ht, pa, ⟨jv, jh, jb, js⟩, txs, sig⟩ = [] := if_neg hk
    have hP : putB' o ⟨vw, ht, pa, ⟨jv, jh, jb, js⟩, txs, sig⟩ = false := by unfold putB'; rw [decide_eq_false hk]; rfl
    have hO : putO o ⟨vw, ht, pa, ⟨jv, jh, jb, js⟩, txs, sig⟩ = o := by unfold putO; rw [hP]; rfl
    rw [hP, hO]
    rw [hS] at q1
    generalize esOf o = es
    simp only [runA, runB, runC, runD, runE, runF, fieldE, storeE, binE, ↓reduceIte, Nat.reduceLT, Nat.reduceLeDiff, Nat.reduceEqDiff, Nat.reduceAdd, Nat.reduceMul, Nat.reduceSub, reduceCtorEq, putAt, unE, Nat.reduceBEq, convE, buildE, List.replicate, Int.reduceLT, Int.reduceLE, Int.reduceToNat, mkE, mapSetE, hN, hF, ty_3, ty_4, ty_9, ty_22, ty_31, ty_33, ty_59, ty_119, ty_121, notIf, isEq, Option.isSome_some, op_makeMap, Option.bind_some, h1, q1, bs]
    simp only [runB, finC, finD, Option.isSome_some, Option.isSome_none, ↓reduceIte, Nat.reduceEqDiff, Nat.reduceAdd, Nat.reduceMul, forall_eq_or_imp, forall_eq, implies_true, Nat.reduceBEq, reduceCtorEq, false_implies, List.zip_cons_cons, List.zip_nil_left, List.zip_nil_right, Nat.reduceLeDiff, List.forall_mem_nil, rs_24, ty_3, ty_4, ty_9, ty_22, ty_31, ty_33, ty_59, ty_119, ty_121]
  have hne : (nameS ⟨vw, ht, pa, ⟨jv, jh, jb, js⟩, txs, sig⟩ == []) = false := by
    have := nameS_len hk
    cases hs : nameS ⟨vw, ht, pa, ⟨jv, jh, jb, js⟩, txs, sig⟩ with
    | nil => rw [hs] at this; cases this
    | cons => rfl
  cases ha : atB o (nameS ⟨vw, ht, pa, ⟨jv, jh, jb, js⟩, txs, sig⟩) with
  | some b =>
    have hP : putB' o ⟨vw, ht, pa, ⟨jv, jh, jb, js⟩, txs, sig⟩ = false := by unfold putB'; rw [ha]; simp
    have hO : putO o ⟨vw, ht, pa, ⟨jv, jh, jb, js⟩, txs, sig⟩ = o := by unfold putO; rw [hP]; rfl
    rw [ha] at hf
    simp only [Option.map_some] at hf
    unfold Blk.pcs at hf
    rw [hP, hO]
    generalize nameS ⟨vw, ht, pa, ⟨jv, jh, jb, js⟩, txs, sig⟩ = nm at q1 hf hne
    generalize esOf o = es at hf ⊢
    simp only [runA, runB, runC, runD, runE, runF, fieldE, storeE, binE, ↓reduceIte, Nat.reduceLT, Nat.reduceLeDiff, Nat.reduceEqDiff, Nat.reduceAdd, Nat.reduceMul, Nat.reduceSub, reduceCtorEq, putAt, unE, Nat.reduceBEq, convE, buildE, List.replicate, Int.reduceLT, Int.reduceLE, Int.reduceToNat, mkE, mapSetE, hN, hF, ty_3, ty_4, ty_9, ty_22, ty_31, ty_33, ty_59, ty_119, ty_121, notIf, isEq, Option.isSome_some, op_makeMap, Option.bind_some, h1, q1, hne, hf]
    simp only [runB, finC, finD, Option.isSome_some, Option.isSome_none, ↓reduceIte, Nat.reduceEqDiff, Nat.reduceAdd, Nat.reduceMul, forall_eq_or_imp, forall_eq, implies_true, Nat.reduceBEq, reduceCtorEq, false_implies, List.zip_cons_cons, List.zip_nil_left, List.zip_nil_right, Nat.reduceLeDiff, List.forall_mem_nil, rs_24, ty_3, ty_4, ty_9, ty_22, ty_31, ty_33, ty_59, ty_119, ty_121]
  | none =>
    have hP : putB' o ⟨vw, ht, pa, ⟨jv, jh, jb, js⟩, txs, sig⟩ = true := by unfold putB'; rw [ha, decide_eq_true hk]; rfl
    have hO : putO o ⟨vw, ht, pa, ⟨jv, jh, jb, js⟩, txs, sig⟩ = o ++ [⟨vw, ht, pa, ⟨jv, jh, jb, js⟩, txs, sig⟩] := by unfold putO; rw [hP]; rfl
    have hset := hset ha
    rw [ha] at hf
    simp only [Option.map_none] at hf
    rw [hP, hO, ← hset]
    generalize nameS ⟨vw, ht, pa, ⟨jv, jh, jb, js⟩, txs, sig⟩ = nm at q1 hf hne ⊢
    generalize esOf o = es at hf ⊢
    simp only [runA, runB, runC, runD, runE, runF, fieldE, storeE, binE, ↓reduceIte, Nat.reduceLT, Nat.reduceLeDiff, Nat.reduceEqDiff, Nat.reduceAdd, Nat.reduceMul, Nat.reduceSub, reduceCtorEq, putAt, unE, Nat.reduceBEq, convE, buildE, List.replicate, Int.reduceLT, Int.reduceLE, Int.reduceToNat, mkE, mapSetE, hN, hF, ty_3, ty_4, ty_9, ty_22, ty_31, ty_33, ty_59, ty_119, ty_121, notIf, isEq, Option.isSome_some, op_makeMap, Option.bind_some, h1, q1, hne, hf, h2, q2]
    refine drawnP_intro (by kernel_rfl) (by kernel_rfl) ?_
    simp only [runA, runB, runC, runD, runE, runF, fieldE, storeE, binE, ↓reduceIte, Nat.reduceLT, Nat.reduceLeDiff, Nat.reduceEqDiff, Nat.reduceAdd, Nat.reduceMul, Nat.reduceSub, reduceCtorEq, putAt, unE, Nat.reduceBEq, convE, buildE, List.replicate, Int.reduceLT, Int.reduceLE, Int.reduceToNat, mkE, mapSetE, hN, hF, ty_3, ty_4, ty_9, ty_22, ty_31, ty_33, ty_59, ty_119, ty_121, notIf, isEq, Option.isSome_some, op_makeMap, Option.bind_some, h1, q1, hne, hf, h2, q2]
    simp only [runB, finC, finD, Option.isSome_some, Option.isSome_none, ↓reduceIte, Nat.reduceEqDiff, Nat.reduceAdd, Nat.reduceMul, forall_eq_or_imp, forall_eq, implies_true, Nat.reduceBEq, reduceCtorEq, false_implies, List.zip_cons_cons, List.zip_nil_left, List.zip_nil_right, Nat.reduceLeDiff, List.forall_mem_nil, rs_24, ty_3, ty_4, ty_9, ty_22, ty_31, ty_33, ty_59, ty_119, ty_121]


variable {Γ : FuncId → Contract}


def brows (l : List Blk) : List (List PC) := l.map Blk.pcs
theorem brows_iff {a b : List Blk} : brows a = brows b ↔ a = b := ⟨map_inj' fun _ _ => Blk.pcs_inj, fun h => by rw [h]⟩
theorem brows_length (l : List Blk) : (brows l).length = l.length := by simp [brows]
theorem brows_nil : brows [] = [] := rfl
theorem brows_snoc (a : List Blk) (b : Blk) : brows a ++ [[.int .i64 b.vw, .int .i64 b.ht, .str b.pa, .int .i64 b.ju.vw, .int .i64 b.ju.ht, .str b.ju.bl, .sl (votes b.ju.vs), .sl (trows b.txs), .str b.sig]] = brows (a ++ [b]) := by simp [brows, Blk.pcs]
theorem brows_one (b : Blk) : [[.int .i64 b.vw, .int .i64 b.ht, .str b.pa, .int .i64 b.ju.vw, .int .i64 b.ju.ht, .str b.ju.bl, .sl (votes b.ju.vs), .sl (trows b.txs), .str b.sig]] = brows [b] := rfl
theorem browsD (l : List Blk) (i : Nat) (h : i < l.length) : (brows l)[i]? = some (Blk.pcs (l.getD i zeroBk)) := by
  simp [brows, List.getD, h]
theorem brows_last (a : List Blk) (p : Blk) : (brows (a ++ [p]))[a.length]? = some (Blk.pcs p) := by
  simp [brows]
theorem rowsOK_brows (l : List Blk) : rowsOK 9 (brows l) := by
  intro r hr
  obtain ⟨t, _, rfl⟩ := List.mem_map.1 hr
  rfl

/-- From a block down to the first one. -/
noncomputable def walkL (own : List Blk) : Nat → List Blk → List UInt8 → Option (List Blk)
  | 0, acc, nm => match atB own nm with | none => some acc | some _ => none
  | f + 1, acc, nm => match atB own nm with
    | none => some acc
    | some b => match acc.getLast? with
      | some p => if fitsB p b then walkL own f (acc ++ [b]) b.pa else none
      | none => walkL own f (acc ++ [b]) b.pa
theorem walkL_none {own : List Blk} {nm : List UInt8} (h : atB own nm = none) (f : Nat) (acc : List Blk) : walkL own f acc nm = some acc := by
  cases f <;> simp [walkL, h]
theorem walkL_zero {own : List Blk} {nm : List UInt8} {b : Blk} (h : atB own nm = some b) (acc : List Blk) : walkL own 0 acc nm = none := by
  simp [walkL, h]
theorem walkL_first {own : List Blk} {nm : List UInt8} {b : Blk} (h : atB own nm = some b) (f : Nat) : walkL own (f + 1) [] nm = walkL own f [b] b.pa := by
  simp [walkL, h]
theorem walkL_step {own : List Blk} {nm : List UInt8} {b : Blk} (h : atB own nm = some b) (f : Nat) (i : List Blk) (p : Blk) : walkL own (f + 1) (i ++ [p]) nm = if fitsB p b then walkL own f (i ++ [p] ++ [b]) b.pa else none := by
  simp [walkL, h]
noncomputable def walkE (W : Option (List Blk)) (nm : List UInt8) : List Blk × Bool :=
  match W with
  | none => ([], false)
  | some l => match l.getLast? with
    | none => ([], nm == genS)
    | some p => if (p.pa == genS) && fitsB p zeroBk then (l, true) else ([], false)
noncomputable def walkS (own : List Blk) (nm : List UInt8) : List Blk × Bool := walkE (walkL own (own.length + 1) [] nm) nm
theorem walkE_nil (nm : List UInt8) : walkE (some []) nm = ([], nm == genS) := rfl
theorem walkE_snoc (i : List Blk) (p : Blk) (nm : List UInt8) : walkE (some (i ++ [p])) nm = if (p.pa == genS) && fitsB p zeroBk then (i ++ [p], true) else ([], false) := by
  simp [walkE]
theorem got_some {o : List Blk} {nm : List UInt8} {b : Blk} (h : atB o nm = some b) : gotB o nm = b := by unfold gotB; rw [h]; rfl
theorem fits_p (p b : Blk) : fitsC [.agg [.c (.int .i64 p.vw), .c (.int .i64 p.ht), .c (.str p.pa), .c (.int .i64 p.ju.vw), .c (.int .i64 p.ju.ht), .c (.str p.ju.bl), .c (.sl (votes p.ju.vs)), .c (.sl (trows p.txs)), .c (.str p.sig)], .agg [.c (.int .i64 b.vw), .c (.int .i64 b.ht), .c (.str b.pa), .c (.int .i64 b.ju.vw), .c (.int .i64 b.ju.ht), .c (.str b.ju.bl), .c (.sl (votes b.ju.vs)), .c (.sl (trows b.txs)), .c (.str b.sig)]] [] = some ⟨[.pv (.c (.bool (fitsB p b)))], []⟩ := fits_at p.vw p.ht p.pa p.ju.vw p.ju.ht p.ju.bl p.ju.vs p.txs p.sig b.vw b.ht b.pa b.ju.vw b.ju.ht b.ju.bl b.ju.vs b.txs b.sig
theorem atT_p (o : List Blk) (s : List UInt8) : atTC [.ptr 6400000 0, .c (.str s)] [[.mp true (esOf o)]] = some ⟨[.pv (.agg [.c (.int .i64 (gotB o s).vw), .c (.int .i64 (gotB o s).ht), .c (.str (gotB o s).pa), .c (.int .i64 (gotB o s).ju.vw), .c (.int .i64 (gotB o s).ju.ht), .c (.str (gotB o s).ju.bl), .c (.sl (votes (gotB o s).ju.vs)), .c (.sl (trows (gotB o s).txs)), .c (.str (gotB o s).sig)]), .pv (.c (.bool (atB o s).isSome))], [[.mp true (esOf o)]]⟩ := atT_at o s
noncomputable def walkC : Contract := mkC (α := List Blk × List UInt8) (fun p => treeOK p.1) (fun p => [.ptr 6400000 0, .c (.str p.2)]) (fun p => [[.mp true (esOf p.1)]]) (fun p => ⟨[.pv (.c (.sl (brows (walkS p.1 p.2).1))), .pv (.c (.bool (walkS p.1 p.2).2))], [[.mp true (esOf p.1)]]⟩)
theorem walk_at (o : List Blk) (s : List UInt8) (g0 : treeOK o) : walkC [.ptr 6400000 0, .c (.str s)] [[.mp true (esOf o)]] = some ⟨[.pv (.c (.sl (brows (walkS o s).1))), .pv (.c (.bool (walkS o s).2))], [[.mp true (esOf o)]]⟩ := by
  exact mkC_at (α := List Blk × List UInt8) (o, s) g0 (by
    rintro ⟨o', s'⟩ _ h ho
    have hh := And.intro h ho
    clear h ho
    simp only [List.cons.injEq, AV.c.injEq, AV.agg.injEq, PC.int.injEq, PC.str.injEq, PC.bool.injEq, PC.sl.injEq, OV.c.injEq, OV.own.injEq, OV.mp.injEq, bytes_iff, texts_iff, true_and, and_true, and_self, beq_self_eq_true, esOf_iff] at hh
    simp only [hh])

set_option maxRecDepth 100000 in
set_option maxHeartbeats 4000000 in
theorem walk_sound (hΓ : SoundG Tryz.prog Γ) (h1 : Γ 138 = atTC) (h2 : Γ 172 = lenTC) (h3 : Γ 173 = fitsC) (h4 : Γ 42 = genC) : SoundC Tryz.prog 124 walkC := by
  refine sound_fn Tryz.func124 (by kernel_rfl) rfl rfl ?_
  intro args objs r0 hr
  obtain ⟨⟨o, s⟩, ho, rfl, rfl, rfl⟩ := mkC_inv hr
  refine ⟨rfl, by show 2 ≤ _; decide, fun E hN hns hF => ?_⟩
  refine vc_sound hΓ mixed _ _ _ ?_
  have hN := hN.trans nt_124
  have ho : treeOK o := ho
  obtain ⟨hol, _⟩ := ho
  have q1 := atT_p o s
  have q2 := lenT_at o
  have q4 : genC [] [] = some ⟨[.pv (.c (.str genS))], []⟩ := rfl
  dsimp only
  obtain ⟨W, hW⟩ : ∃ W, W = walkL o (o.length + 1) [] s := ⟨_, rfl⟩
  have hS : walkS o s = walkE W s := by rw [hW]; rfl
  rw [hS]
  simp only [runA, runB, runC, runD, runE, runF, fieldE, storeE, binE, ↓reduceIte, Nat.reduceLT, Nat.reduceLeDiff, Nat.reduceEqDiff, Nat.reduceAdd, Nat.reduceMul, Nat.reduceSub, reduceCtorEq, putAt, unE, Nat.reduceBEq, convE, buildE, List.replicate, Int.reduceLT, Int.reduceLE, Int.reduceToNat, mkE, mapSetE, hN, hF, ty_3, ty_4, ty_9, ty_22, ty_31, ty_33, ty_57, ty_59, ty_119, ty_121, notIf, isEq, h1, q1]
  refine AWP.loop (fun k st => ∃ acc cur, acc.length ≤ o.length + 1 ∧ k = o.length + 1 - acc.length ∧ walkL o k acc cur = W ∧ ((acc = [] ∧ cur = s ∧ st = ⟨[(0, .ptr 6400000 0), (1, .c (.str s)), (6, .nilsl), (7, .ptr 448 0), (8, .c (.bool (atB o cur).isSome))], [(448, .obj [.c (.int .i64 (gotB o cur).vw), .c (.int .i64 (gotB o cur).ht), .c (.str (gotB o cur).pa), .c (.int .i64 (gotB o cur).ju.vw), .c (.int .i64 (gotB o cur).ju.ht), .c (.str (gotB o cur).ju.bl), .c (.sl (votes (gotB o cur).ju.vs)), .c (.sl (trows (gotB o cur).txs)), .c (.str (gotB o cur).sig)] false), (6400000, .obj [.mp 6400001] false), (6400001, .mp true (esOf o))]⟩) ∨ (∃ ini p, acc = ini ++ [p] ∧ st = ⟨[(0, .ptr 6400000 0), (1, .c (.str s)), (6, .own 3073 9 (brows acc)), (7, .ptr 448 0), (8, .c (.bool (atB o cur).isSome))], [(448, .obj [.c (.int .i64 (gotB o cur).vw), .c (.int .i64 (gotB o cur).ht), .c (.str (gotB o cur).pa), .c (.int .i64 (gotB o cur).ju.vw), .c (.int .i64 (gotB o cur).ju.ht), .c (.str (gotB o cur).ju.bl), .c (.sl (votes (gotB o cur).ju.vs)), .c (.sl (trows (gotB o cur).txs)), .c (.str (gotB o cur).sig)] false), (6400000, .obj [.mp 6400001] false), (6400001, .mp true (esOf o)), (3073, .row 9 acc.length)]⟩))) ⟨o.length + 1, _, ?w, [], s, Nat.zero_le _, rfl, hW.symm, .inl ⟨rfl, rfl, rfl⟩⟩ ?r
  case w =>
    rw [hns]
    simp only [runB, finC, finD, AS.get, AS.mem, false_implies, implies_true, ↓reduceIte, Nat.reduceEqDiff, Option.isSome_some, Option.isSome_none, forall_eq_or_imp, forall_eq, reduceCtorEq, Nat.reduceAdd, Nat.reduceMul, List.zip_cons_cons, List.zip_nil_left, List.zip_nil_right, List.forall_mem_nil]
    first | done | simp
  case r =>
    rintro k st ⟨acc, cur, hle, rfl, hWk, h⟩
    refine vc_sound hΓ mixed _ _ _ ?_
    have hZ : o.length + 1 - ([] : List Blk).length = o.length + 1 := rfl
    rcases h with ⟨rfl, rfl, rfl⟩ | ⟨ini, p, rfl, rfl⟩
    · have bn : (((0 : Nat) : Int) == 0) = true := rfl
      have bn2 : (decide ((((0 : Nat) : Int)) > 0)) = false := rfl
      have bn3 : decide (((0 : Nat) : Int) > (o.length : Int)) = false := by simp
      cases ha : atB o cur with
      | none =>
        rw [walkL_none ha] at hWk
        subst hWk
        rw [walkE_nil]
        simp only [Option.isSome_none]
        simp only [runA, runB, runC, runD, runE, runF, fieldE, storeE, binE, ↓reduceIte, Nat.reduceLT, Nat.reduceLeDiff, Nat.reduceEqDiff, Nat.reduceAdd, Nat.reduceMul, Nat.reduceSub, reduceCtorEq, putAt, unE, Nat.reduceBEq, convE, buildE, List.replicate, Int.reduceLT, Int.reduceLE, Int.reduceToNat, mkE, mapSetE, hN, hF, ty_3, ty_4, ty_9, ty_22, ty_31, ty_33, ty_57, ty_59, ty_119, ty_121, notIf, isEq, h1, h4, q4, bn, Option.isSome_some, brows_nil]
        simp only [runB, finC, finD, Option.isSome_some, Option.isSome_none, ↓reduceIte, Nat.reduceEqDiff, Nat.reduceAdd, Nat.reduceMul, forall_eq_or_imp, forall_eq, implies_true, Nat.reduceBEq, reduceCtorEq, false_implies, List.zip_cons_cons, List.zip_nil_left, List.zip_nil_right, Nat.reduceLeDiff, List.forall_mem_nil, rs_124, ty_3, ty_4, ty_9, ty_22, ty_31, ty_33, ty_57, ty_59, ty_119, ty_121, brows_nil]
      | some b =>
        have hb := got_some ha
        rw [hZ, walkL_first ha] at hWk
        have hrow := rowsOK_brows [b]
        have hone := brows_one b
        have h1l : (brows [b]).length = 1 := rfl
        simp only [Option.isSome_some, hb]
        have q5 := atT_p o b.pa
        simp only [runA, runB, runC, runD, runE, runF, fieldE, storeE, binE, ↓reduceIte, Nat.reduceLT, Nat.reduceLeDiff, Nat.reduceEqDiff, Nat.reduceAdd, Nat.reduceMul, Nat.reduceSub, reduceCtorEq, putAt, unE, Nat.reduceBEq, convE, buildE, List.replicate, Int.reduceLT, Int.reduceLE, Int.reduceToNat, mkE, mapSetE, hN, hF, ty_3, ty_4, ty_9, ty_22, ty_31, ty_33, ty_57, ty_59, ty_119, ty_121, notIf, isEq, h1, h2, q2, bn2, bn3, q5]
        refine drawnP_intro (by kernel_rfl) (by kernel_rfl) ?_
        simp only [runA, runB, runC, runD, runE, runF, fieldE, storeE, binE, ↓reduceIte, Nat.reduceLT, Nat.reduceLeDiff, Nat.reduceEqDiff, Nat.reduceAdd, Nat.reduceMul, Nat.reduceSub, reduceCtorEq, putAt, unE, Nat.reduceBEq, convE, buildE, List.replicate, Int.reduceLT, Int.reduceLE, Int.reduceToNat, mkE, mapSetE, hN, hF, ty_3, ty_4, ty_9, ty_22, ty_31, ty_33, ty_57, ty_59, ty_119, ty_121, notIf, isEq, h1, h2, q2, bn2, bn3, q5, hrow, hone, h1l]
        refine ⟨o.length, _, by simp, ?_, [b], b.pa, by simp, by simp, ?_, .inr ⟨[], b, rfl, rfl⟩⟩
        · rw [hns]
          simp only [runB, finC, finD, AS.get, AS.mem, false_implies, implies_true, ↓reduceIte, Nat.reduceEqDiff, Option.isSome_some, Option.isSome_none, forall_eq_or_imp, forall_eq, reduceCtorEq, Nat.reduceAdd, Nat.reduceMul, List.zip_cons_cons, List.zip_nil_left, List.zip_nil_right, List.forall_mem_nil, List.length_append, List.length_cons, List.length_nil, List.nil_append, Nat.zero_add]
          first | done | simp
        · simpa using hWk
    · have hlen : ((ini ++ [p]).length : Int) = (ini.length : Int) + 1 := by simp
      have hlenN : (ini ++ [p]).length = ini.length + 1 := by simp
      have hbr : (brows (ini ++ [p])).length = ini.length + 1 := by rw [brows_length, hlenN]
      have bn : ((((ini.length + 1 : Nat) : Int)) == 0) = false := by simp <;> omega
      have bn2 : decide ((((ini.length + 1 : Nat) : Int)) > 0) = true := by simp <;> omega
      have e1 : IntKind.i64.wrap (((ini.length + 1 : Nat) : Int) - 1) = (ini.length : Int) := by rw [wrapI (by omega)]; omega
      have hg := brows_last ini p
      unfold Blk.pcs at hg
      rw [hlenN] at hle hWk
      cases ha : atB o cur with
      | none =>
        rw [walkL_none ha] at hWk
        subst hWk
        rw [walkE_snoc]
        simp only [Option.isSome_none]
        have q7 : fitsC [.agg [.c (.int .i64 p.vw), .c (.int .i64 p.ht), .c (.str p.pa), .c (.int .i64 p.ju.vw), .c (.int .i64 p.ju.ht), .c (.str p.ju.bl), .c (.sl (votes p.ju.vs)), .c (.sl (trows p.txs)), .c (.str p.sig)], .agg [.c (.int .i64 0), .c (.int .i64 0), .c (.str []), .c (.int .i64 0), .c (.int .i64 0), .c (.str []), .c (.sl []), .c (.sl []), .c (.str [])]] [] = some ⟨[.pv (.c (.bool (fitsB p zeroBk)))], []⟩ := fits_p p zeroBk
        cases hp : p.pa == genS with
        | false =>
          have hp1 : (!false) = true := rfl
          simp only [runA, runB, runC, runD, runE, runF, fieldE, storeE, binE, ↓reduceIte, Nat.reduceLT, Nat.reduceLeDiff, Nat.reduceEqDiff, Nat.reduceAdd, Nat.reduceMul, Nat.reduceSub, reduceCtorEq, putAt, unE, Nat.reduceBEq, convE, buildE, List.replicate, Int.reduceLT, Int.reduceLE, Int.reduceToNat, mkE, mapSetE, hN, hF, ty_3, ty_4, ty_9, ty_22, ty_31, ty_33, ty_57, ty_59, ty_119, ty_121, notIf, isEq, h4, q4, bn, hbr, e1, hg, hp, hp1]
          refine drawnP_intro (by kernel_rfl) (by kernel_rfl) ?_
          simp only [runA, runB, runC, runD, runE, runF, fieldE, storeE, binE, ↓reduceIte, Nat.reduceLT, Nat.reduceLeDiff, Nat.reduceEqDiff, Nat.reduceAdd, Nat.reduceMul, Nat.reduceSub, reduceCtorEq, putAt, unE, Nat.reduceBEq, convE, buildE, List.replicate, Int.reduceLT, Int.reduceLE, Int.reduceToNat, mkE, mapSetE, hN, hF, ty_3, ty_4, ty_9, ty_22, ty_31, ty_33, ty_57, ty_59, ty_119, ty_121, notIf, isEq, h4, q4, bn, hbr, e1, hg, hp, hp1]
          simp only [runB, finC, finD, Option.isSome_some, Option.isSome_none, ↓reduceIte, Nat.reduceEqDiff, Nat.reduceAdd, Nat.reduceMul, forall_eq_or_imp, forall_eq, implies_true, Nat.reduceBEq, reduceCtorEq, false_implies, List.zip_cons_cons, List.zip_nil_left, List.zip_nil_right, Nat.reduceLeDiff, List.forall_mem_nil, rs_124, ty_3, ty_4, ty_9, ty_22, ty_31, ty_33, ty_57, ty_59, ty_119, ty_121, brows_nil, Bool.false_and]
        | true =>
          have hp1 : (!true) = false := rfl
          cases hz : fitsB p zeroBk with
          | false =>
            rw [hz] at q7
            simp only [runA, runB, runC, runD, runE, runF, fieldE, storeE, binE, ↓reduceIte, Nat.reduceLT, Nat.reduceLeDiff, Nat.reduceEqDiff, Nat.reduceAdd, Nat.reduceMul, Nat.reduceSub, reduceCtorEq, putAt, unE, Nat.reduceBEq, convE, buildE, List.replicate, Int.reduceLT, Int.reduceLE, Int.reduceToNat, mkE, mapSetE, hN, hF, ty_3, ty_4, ty_9, ty_22, ty_31, ty_33, ty_57, ty_59, ty_119, ty_121, notIf, isEq, h4, q4, bn, hbr, e1, hg, hp, hp1, h3, q7]
            refine drawnP_intro (by kernel_rfl) (by kernel_rfl) ?_
            simp only [runA, runB, runC, runD, runE, runF, fieldE, storeE, binE, ↓reduceIte, Nat.reduceLT, Nat.reduceLeDiff, Nat.reduceEqDiff, Nat.reduceAdd, Nat.reduceMul, Nat.reduceSub, reduceCtorEq, putAt, unE, Nat.reduceBEq, convE, buildE, List.replicate, Int.reduceLT, Int.reduceLE, Int.reduceToNat, mkE, mapSetE, hN, hF, ty_3, ty_4, ty_9, ty_22, ty_31, ty_33, ty_57, ty_59, ty_119, ty_121, notIf, isEq, h4, q4, bn, hbr, e1, hg, hp, hp1, h3, q7]
            simp only [runB, finC, finD, Option.isSome_some, Option.isSome_none, ↓reduceIte, Nat.reduceEqDiff, Nat.reduceAdd, Nat.reduceMul, forall_eq_or_imp, forall_eq, implies_true, Nat.reduceBEq, reduceCtorEq, false_implies, List.zip_cons_cons, List.zip_nil_left, List.zip_nil_right, Nat.reduceLeDiff, List.forall_mem_nil, rs_124, ty_3, ty_4, ty_9, ty_22, ty_31, ty_33, ty_57, ty_59, ty_119, ty_121, brows_nil, Bool.and_false]
          | true =>
            rw [hz] at q7
            simp only [runA, runB, runC, runD, runE, runF, fieldE, storeE, binE, ↓reduceIte, Nat.reduceLT, Nat.reduceLeDiff, Nat.reduceEqDiff, Nat.reduceAdd, Nat.reduceMul, Nat.reduceSub, reduceCtorEq, putAt, unE, Nat.reduceBEq, convE, buildE, List.replicate, Int.reduceLT, Int.reduceLE, Int.reduceToNat, mkE, mapSetE, hN, hF, ty_3, ty_4, ty_9, ty_22, ty_31, ty_33, ty_57, ty_59, ty_119, ty_121, notIf, isEq, h4, q4, bn, hbr, e1, hg, hp, hp1, h3, q7]
            refine drawnP_intro (by kernel_rfl) (by kernel_rfl) ?_
            simp only [runA, runB, runC, runD, runE, runF, fieldE, storeE, binE, ↓reduceIte, Nat.reduceLT, Nat.reduceLeDiff, Nat.reduceEqDiff, Nat.reduceAdd, Nat.reduceMul, Nat.reduceSub, reduceCtorEq, putAt, unE, Nat.reduceBEq, convE, buildE, List.replicate, Int.reduceLT, Int.reduceLE, Int.reduceToNat, mkE, mapSetE, hN, hF, ty_3, ty_4, ty_9, ty_22, ty_31, ty_33, ty_57, ty_59, ty_119, ty_121, notIf, isEq, h4, q4, bn, hbr, e1, hg, hp, hp1, h3, q7]
            simp only [runB, finC, finD, Option.isSome_some, Option.isSome_none, ↓reduceIte, Nat.reduceEqDiff, Nat.reduceAdd, Nat.reduceMul, forall_eq_or_imp, forall_eq, implies_true, Nat.reduceBEq, reduceCtorEq, false_implies, List.zip_cons_cons, List.zip_nil_left, List.zip_nil_right, Nat.reduceLeDiff, List.forall_mem_nil, rs_124, ty_3, ty_4, ty_9, ty_22, ty_31, ty_33, ty_57, ty_59, ty_119, ty_121, Bool.and_true]
      | some b =>
        have hb := got_some ha
        simp only [Option.isSome_some, hb]
        have q5 := atT_p o b.pa
        have q6 := fits_p p b
        have hrow : rowsOK 9 [[.int .i64 b.vw, .int .i64 b.ht, .str b.pa, .int .i64 b.ju.vw, .int .i64 b.ju.ht, .str b.ju.bl, .sl (votes b.ju.vs), .sl (trows b.txs), .str b.sig]] := rowsOK_brows [b]
        have hsn := brows_snoc (ini ++ [p]) b
        have hby : (ini.length + 1 + 1) * 128 ≤ 140737488355328 := by omega
        by_cases hf : o.length < ini.length + 1
        · have bn3 : decide ((((ini.length + 1 : Nat) : Int)) > (o.length : Int)) = true := by simp <;> omega
          have hz : o.length + 1 - (ini.length + 1) = 0 := by omega
          rw [hz, walkL_zero ha] at hWk
          subst hWk
          simp only [runA, runB, runC, runD, runE, runF, fieldE, storeE, binE, ↓reduceIte, Nat.reduceLT, Nat.reduceLeDiff, Nat.reduceEqDiff, Nat.reduceAdd, Nat.reduceMul, Nat.reduceSub, reduceCtorEq, putAt, unE, Nat.reduceBEq, convE, buildE, List.replicate, Int.reduceLT, Int.reduceLE, Int.reduceToNat, mkE, mapSetE, hN, hF, ty_3, ty_4, ty_9, ty_22, ty_31, ty_33, ty_57, ty_59, ty_119, ty_121, notIf, isEq, h1, h2, q2, bn2, bn3, q5, hbr]
          refine drawnP_intro (by kernel_rfl) (by kernel_rfl) ?_
          simp only [runA, runB, runC, runD, runE, runF, fieldE, storeE, binE, ↓reduceIte, Nat.reduceLT, Nat.reduceLeDiff, Nat.reduceEqDiff, Nat.reduceAdd, Nat.reduceMul, Nat.reduceSub, reduceCtorEq, putAt, unE, Nat.reduceBEq, convE, buildE, List.replicate, Int.reduceLT, Int.reduceLE, Int.reduceToNat, mkE, mapSetE, hN, hF, ty_3, ty_4, ty_9, ty_22, ty_31, ty_33, ty_57, ty_59, ty_119, ty_121, notIf, isEq, h1, h2, q2, bn2, bn3, q5, hbr]
          simp only [runB, finC, finD, Option.isSome_some, Option.isSome_none, ↓reduceIte, Nat.reduceEqDiff, Nat.reduceAdd, Nat.reduceMul, forall_eq_or_imp, forall_eq, implies_true, Nat.reduceBEq, reduceCtorEq, false_implies, List.zip_cons_cons, List.zip_nil_left, List.zip_nil_right, Nat.reduceLeDiff, List.forall_mem_nil, rs_124, ty_3, ty_4, ty_9, ty_22, ty_31, ty_33, ty_57, ty_59, ty_119, ty_121, brows_nil, walkE]
        · have bn3 : decide ((((ini.length + 1 : Nat) : Int)) > (o.length : Int)) = false := by simp <;> omega
          obtain ⟨f, hf'⟩ : ∃ f, o.length + 1 - (ini.length + 1) = f + 1 := ⟨o.length - ini.length - 1, by omega⟩
          rw [hf', walkL_step ha] at hWk
          cases hfit : fitsB p b with
          | false =>
            rw [hfit] at hWk q6
            rw [if_neg (by simp)] at hWk
            subst hWk
            simp only [runA, runB, runC, runD, runE, runF, fieldE, storeE, binE, ↓reduceIte, Nat.reduceLT, Nat.reduceLeDiff, Nat.reduceEqDiff, Nat.reduceAdd, Nat.reduceMul, Nat.reduceSub, reduceCtorEq, putAt, unE, Nat.reduceBEq, convE, buildE, List.replicate, Int.reduceLT, Int.reduceLE, Int.reduceToNat, mkE, mapSetE, hN, hF, ty_3, ty_4, ty_9, ty_22, ty_31, ty_33, ty_57, ty_59, ty_119, ty_121, notIf, isEq, h1, h2, q2, bn2, bn3, q5, hbr, e1, hg, h3, q6]
            refine drawnP_intro (by kernel_rfl) (by kernel_rfl) ?_
            simp only [runA, runB, runC, runD, runE, runF, fieldE, storeE, binE, ↓reduceIte, Nat.reduceLT, Nat.reduceLeDiff, Nat.reduceEqDiff, Nat.reduceAdd, Nat.reduceMul, Nat.reduceSub, reduceCtorEq, putAt, unE, Nat.reduceBEq, convE, buildE, List.replicate, Int.reduceLT, Int.reduceLE, Int.reduceToNat, mkE, mapSetE, hN, hF, ty_3, ty_4, ty_9, ty_22, ty_31, ty_33, ty_57, ty_59, ty_119, ty_121, notIf, isEq, h1, h2, q2, bn2, bn3, q5, hbr, e1, hg, h3, q6]
            simp only [runB, finC, finD, Option.isSome_some, Option.isSome_none, ↓reduceIte, Nat.reduceEqDiff, Nat.reduceAdd, Nat.reduceMul, forall_eq_or_imp, forall_eq, implies_true, Nat.reduceBEq, reduceCtorEq, false_implies, List.zip_cons_cons, List.zip_nil_left, List.zip_nil_right, Nat.reduceLeDiff, List.forall_mem_nil, rs_124, ty_3, ty_4, ty_9, ty_22, ty_31, ty_33, ty_57, ty_59, ty_119, ty_121, brows_nil, walkE]
          | true =>
            rw [hfit] at hWk q6
            rw [if_pos rfl] at hWk
            simp only [runA, runB, runC, runD, runE, runF, fieldE, storeE, binE, ↓reduceIte, Nat.reduceLT, Nat.reduceLeDiff, Nat.reduceEqDiff, Nat.reduceAdd, Nat.reduceMul, Nat.reduceSub, reduceCtorEq, putAt, unE, Nat.reduceBEq, convE, buildE, List.replicate, Int.reduceLT, Int.reduceLE, Int.reduceToNat, mkE, mapSetE, hN, hF, ty_3, ty_4, ty_9, ty_22, ty_31, ty_33, ty_57, ty_59, ty_119, ty_121, notIf, isEq, h1, h2, q2, bn2, bn3, q5, hbr, e1, hg, h3, q6]
            refine drawnP_intro (by kernel_rfl) (by kernel_rfl) ?_
            simp only [runA, runB, runC, runD, runE, runF, fieldE, storeE, binE, ↓reduceIte, Nat.reduceLT, Nat.reduceLeDiff, Nat.reduceEqDiff, Nat.reduceAdd, Nat.reduceMul, Nat.reduceSub, reduceCtorEq, putAt, unE, Nat.reduceBEq, convE, buildE, List.replicate, Int.reduceLT, Int.reduceLE, Int.reduceToNat, mkE, mapSetE, hN, hF, ty_3, ty_4, ty_9, ty_22, ty_31, ty_33, ty_57, ty_59, ty_119, ty_121, notIf, isEq, h1, h2, q2, bn2, bn3, q5, hbr, e1, hg, h3, q6, hrow, hby, hsn]
            refine ⟨f, _, by omega, ?_, ini ++ [p] ++ [b], b.pa, by simp; omega, by simp; omega, hWk, .inr ⟨ini ++ [p], b, rfl, rfl⟩⟩
            rw [hns]
            simp only [runB, finC, finD, AS.get, AS.mem, false_implies, implies_true, ↓reduceIte, Nat.reduceEqDiff, Option.isSome_some, Option.isSome_none, forall_eq_or_imp, forall_eq, reduceCtorEq, Nat.reduceAdd, Nat.reduceMul, List.zip_cons_cons, List.zip_nil_left, List.zip_nil_right, List.forall_mem_nil, List.length_append, List.length_cons, List.length_nil, Nat.zero_add]
            first | done | simp


variable {Γ : FuncId → Contract}


theorem op_makeFuncC {Γ : FuncId → Contract} {P : Program} {M : List Nat} {d : Option Tmp} {ty : TypeId} {pos : String} {af : Array Edge} {g : Option (Nat × Bool)} {ρ : Operand → AV} (f : FuncId) (cp : Array Operand) : opE Γ P M ⟨d, .makeFunc (.func f) #[] cp, ty, pos, af, g⟩ ρ = ((capE (cp.toList.map ρ)).bind fun r => .ret ⟨.clo f r.1, r.2⟩) := by
  show (if (#[] : Array Operand) = #[] then ((capE (cp.toList.map ρ)).bind fun r => (.ret ⟨.clo f r.1, r.2⟩ : EP Eff)) else .fail) = _
  rw [if_pos rfl]
theorem capE_nil : capE [] = .ret ([], []) := rfl
theorem capE_ptr (n : Nat) (l : List AV) : capE (.ptr n 0 :: l) = .ask n fun
      | some (.obj cells _) => match toPCs cells with
        | some cs => (capE l).bind fun r => .ret (cs :: r.1, (n, .obj cells true) :: r.2)
        | none => .fail
      | _ => .fail := rfl
def parP (x : List UInt8) (t : Blk) : Bool := t.pa == x
noncomputable def parC : Contract := mkC (α := Blk × List UInt8) (fun _ => True) (fun q => [q.1.av, .rptr [.str q.2]]) (fun _ => []) (fun q => ⟨[.pv (.c (.bool (parP q.2 q.1)))], []⟩)
theorem par_at (t : Blk) (x : List UInt8) : parC [.agg [.c (.int .i64 t.vw), .c (.int .i64 t.ht), .c (.str t.pa), .c (.int .i64 t.ju.vw), .c (.int .i64 t.ju.ht), .c (.str t.ju.bl), .c (.sl (votes t.ju.vs)), .c (.sl (trows t.txs)), .c (.str t.sig)], .rptr [.str x]] [] = some ⟨[.pv (.c (.bool (parP x t)))], []⟩ :=
  mkC_at (α := Blk × List UInt8) (t, x) trivial (by
    rintro ⟨t', x'⟩ _ h _
    have h' : [t'.av, .rptr [.str x']] = [t.av, .rptr [.str x]] := h
    simp only [List.cons.injEq, Blk.av_iff, AV.rptr.injEq, PC.str.injEq, and_true] at h'
    obtain ⟨rfl, rfl⟩ := h'
    rfl)
set_option maxHeartbeats 1000000 in
theorem par_sound : SoundC Tryz.prog 137 parC := by
  refine sound_fn Tryz.func137 (by kernel_rfl) rfl rfl ?_
  intro args objs r hr
  obtain ⟨⟨t, x⟩, _, rfl, rfl, rfl⟩ := mkC_inv hr
  refine ⟨rfl, by show 2 ≤ _; decide, fun E hN hns hF => ?_⟩
  refine vc_sound none0_sound mixed _ _ _ ?_
  have hN := hN.trans nt_137
  unfold Blk.av parP
  dsimp only
  simp +contextual (maxSteps := 10000000) only [runA, runB, runC, runD, runE, runF, fieldE, storeE, binE, ↓reduceIte, Nat.reduceLT, Nat.reduceLeDiff, Nat.reduceEqDiff, Nat.reduceAdd, Nat.reduceMul, Nat.reduceSub, reduceCtorEq, putAt, unE, Nat.reduceBEq, convE, buildE, List.replicate, Int.reduceLT, Int.reduceLE, Int.reduceToNat, mkE, mapSetE, hN, hF, ty_3, ty_4, ty_9, ty_22, ty_31, ty_33, notIf, isEq, bytes_length, false_implies, implies_true]
  simp only [runB, finC, finD, Option.isSome_some, Option.isSome_none, ↓reduceIte, Nat.reduceEqDiff, Nat.reduceAdd, Nat.reduceMul, forall_eq_or_imp, forall_eq, implies_true, Nat.reduceBEq, reduceCtorEq, false_implies, List.zip_cons_cons, List.zip_nil_left, List.zip_nil_right, Nat.reduceLeDiff, List.forall_mem_nil, rs_137, ty_3, ty_4, ty_9, ty_22, ty_31, ty_33]
noncomputable def parIC : Contract := mkC (α := List Blk × List UInt8) (fun q => q.1.length ≤ 9223372036854775807) (fun q => [.c (.sl (brows q.1)), .clo 137 [[.str q.2]]]) (fun _ => []) (fun q => ⟨[.pv (.c (.int .i64 (idxP (parP q.2) q.1)))], []⟩)
noncomputable def parFC : Contract := mkC (α := List Blk × List UInt8) (fun q => q.1.length ≤ 9223372036854775807) (fun q => [.c (.sl (brows q.1)), .clo 137 [[.str q.2]]]) (fun _ => []) (fun q => ⟨[.pv (.c (.bool (q.1.any (parP q.2))))], []⟩)
theorem parI_at (l : List Blk) (x : List UInt8) (h : l.length ≤ 9223372036854775807) : parIC [.c (.sl (brows l)), .clo 137 [[.str x]]] [] = some ⟨[.pv (.c (.int .i64 (idxP (parP x) l)))], []⟩ :=
  mkC_at (α := List Blk × List UInt8) (l, x) h (by
    rintro y _ h _
    simp only [List.cons.injEq, AV.c.injEq, PC.sl.injEq, PC.str.injEq, PC.int.injEq, AV.clo.injEq, true_and, and_true, brows_iff] at h
    simp only [h])
theorem parF_at (l : List Blk) (x : List UInt8) (h : l.length ≤ 9223372036854775807) : parFC [.c (.sl (brows l)), .clo 137 [[.str x]]] [] = some ⟨[.pv (.c (.bool (l.any (parP x))))], []⟩ :=
  mkC_at (α := List Blk × List UInt8) (l, x) h (by
    rintro y _ h _
    simp only [List.cons.injEq, AV.c.injEq, PC.sl.injEq, PC.str.injEq, PC.int.injEq, AV.clo.injEq, true_and, and_true, brows_iff] at h
    simp only [h])
set_option maxHeartbeats 2000000 in
theorem parI_sound (hΓ : SoundG Tryz.prog Γ) (h1 : Γ 137 = parC) : SoundC Tryz.prog 194 parIC := by
  refine sound_fn Tryz.func194 (by kernel_rfl) rfl rfl ?_
  intro args objs r hr
  obtain ⟨⟨l, x⟩, hl, rfl, rfl, rfl⟩ := mkC_inv hr
  have hl : l.length ≤ 9223372036854775807 := hl
  refine ⟨rfl, by show 2 ≤ _; decide, fun E hN hns hF => ?_⟩
  refine vc_sound hΓ mixed _ _ _ ?_
  have hN := hN.trans nt_194
  dsimp only
  simp only [runA, runB, runC, runD, runE, runF, fieldE, storeE, binE, ↓reduceIte, Nat.reduceLT, Nat.reduceLeDiff, Nat.reduceEqDiff, Nat.reduceAdd, Nat.reduceMul, Nat.reduceSub, reduceCtorEq, putAt, unE, Nat.reduceBEq, convE, buildE, List.replicate, Int.reduceLT, Int.reduceLE, Int.reduceToNat, mkE, mapSetE, hN, hF, ty_3, ty_9, ty_22, ty_31, ty_33, ty_57, notIf, isEq, brows_length, Blk.pcs]
  refine AWP.loop (fun k st => ∃ i : Nat, (i ≤ l.length ∧ ∀ k, k < i → (parP x) (l.getD k zeroBk) = false) ∧ k = l.length - i ∧ st = ⟨[(0, .c (.sl (brows l))), (1, .clo 137 [[.str x]]), (7, .c (.int .i64 (l.length : Int))), (8, .c (.int .i64 (i : Int)))], []⟩) ⟨l.length, _, ?w, 0, ⟨Nat.zero_le _, fun k hk => absurd hk (by omega)⟩, rfl, rfl⟩ ?r
  case w =>
    rw [hns]
    simp only [runB, finC, finD, AS.get, AS.mem, false_implies, implies_true, ↓reduceIte, Nat.reduceEqDiff, Option.isSome_some, Option.isSome_none, forall_eq_or_imp, forall_eq, reduceCtorEq, Nat.reduceAdd, Nat.reduceMul, List.zip_cons_cons, List.zip_nil_left, List.zip_nil_right, List.forall_mem_nil]
    first | done | simp
  case r =>
    rintro k st ⟨i, ⟨hi, h8⟩, rfl, rfl⟩
    refine vc_sound hΓ mixed _ _ _ ?_
    by_cases hlt : i < l.length
    · have k1 : decide ((i : Int) < (l.length : Int)) = true := by simpa using hlt
      have e1 : IntKind.i64.wrap ((i : Int) + 1) = (i : Int) + 1 := wrapI (by omega)
      have hg := browsD l i hlt
      unfold Blk.pcs at hg
      have hd := par_at (l.getD i zeroBk) x
      cases hp : (parP x) (l.getD i zeroBk) with
      | false =>
        have h8' : ∀ k, k < i + 1 → (parP x) (l.getD k zeroBk) = false := fun k hk => by
          by_cases e : k = i
          · rw [e]; exact hp
          · exact h8 k (by omega)
        rw [hp] at hd
        generalize l.getD i zeroBk = y at hg hd
        simp only [runA, runB, runC, runD, runE, runF, fieldE, storeE, binE, ↓reduceIte, Nat.reduceLT, Nat.reduceLeDiff, Nat.reduceEqDiff, Nat.reduceAdd, Nat.reduceMul, Nat.reduceSub, reduceCtorEq, putAt, unE, Nat.reduceBEq, convE, buildE, List.replicate, Int.reduceLT, Int.reduceLE, Int.reduceToNat, mkE, mapSetE, hN, hF, ty_3, ty_9, ty_22, ty_31, ty_33, ty_57, notIf, isEq, k1, e1, hg, h1, hd]
        refine ⟨l.length - (i + 1), _, by omega, ?_, i + 1, ⟨by omega, h8'⟩, rfl, rfl⟩
        rw [hns]
        simp only [runB, finC, finD, AS.get, AS.mem, false_implies, implies_true, ↓reduceIte, Nat.reduceEqDiff, Option.isSome_some, Option.isSome_none, forall_eq_or_imp, forall_eq, reduceCtorEq, Nat.reduceAdd, Nat.reduceMul, List.zip_cons_cons, List.zip_nil_left, List.zip_nil_right, List.forall_mem_nil]
        first | done | simp
      | true =>
        have hS := idxP_some hlt hp h8
        rw [hp] at hd
        generalize l.getD i zeroBk = y at hg hd
        simp only [runA, runB, runC, runD, runE, runF, fieldE, storeE, binE, ↓reduceIte, Nat.reduceLT, Nat.reduceLeDiff, Nat.reduceEqDiff, Nat.reduceAdd, Nat.reduceMul, Nat.reduceSub, reduceCtorEq, putAt, unE, Nat.reduceBEq, convE, buildE, List.replicate, Int.reduceLT, Int.reduceLE, Int.reduceToNat, mkE, mapSetE, hN, hF, ty_3, ty_9, ty_22, ty_31, ty_33, ty_57, notIf, isEq, k1, e1, hg, h1, hd]
        simp only [runB, finC, finD, Option.isSome_some, Option.isSome_none, ↓reduceIte, Nat.reduceEqDiff, Nat.reduceAdd, Nat.reduceMul, forall_eq_or_imp, forall_eq, implies_true, Nat.reduceBEq, reduceCtorEq, false_implies, List.zip_cons_cons, List.zip_nil_left, List.zip_nil_right, Nat.reduceLeDiff, List.forall_mem_nil, rs_194, hS]
    · have k1 : decide ((i : Int) < (l.length : Int)) = false := by simpa using hlt
      obtain rfl : i = l.length := by omega
      have hS := idxP_none h8
      simp only [runA, runB, runC, runD, runE, runF, fieldE, storeE, binE, ↓reduceIte, Nat.reduceLT, Nat.reduceLeDiff, Nat.reduceEqDiff, Nat.reduceAdd, Nat.reduceMul, Nat.reduceSub, reduceCtorEq, putAt, unE, Nat.reduceBEq, convE, buildE, List.replicate, Int.reduceLT, Int.reduceLE, Int.reduceToNat, mkE, mapSetE, hN, hF, ty_3, ty_9, ty_22, ty_31, ty_33, ty_57, notIf, isEq, k1]
      simp only [runB, finC, finD, Option.isSome_some, Option.isSome_none, ↓reduceIte, Nat.reduceEqDiff, Nat.reduceAdd, Nat.reduceMul, forall_eq_or_imp, forall_eq, implies_true, Nat.reduceBEq, reduceCtorEq, false_implies, List.zip_cons_cons, List.zip_nil_left, List.zip_nil_right, Nat.reduceLeDiff, List.forall_mem_nil, rs_194, hS]
set_option maxHeartbeats 1000000 in
theorem parF_sound (hΓ : SoundG Tryz.prog Γ) (h1 : Γ 194 = parIC) : SoundC Tryz.prog 136 parFC := by
  refine sound_fn Tryz.func136 (by kernel_rfl) rfl rfl ?_
  intro args objs r hr
  obtain ⟨⟨l, x⟩, hl, rfl, rfl, rfl⟩ := mkC_inv hr
  have hl : l.length ≤ 9223372036854775807 := hl
  refine ⟨rfl, by show 2 ≤ _; decide, fun E hN hns hF => ?_⟩
  refine vc_sound hΓ mixed _ _ _ ?_
  have hN := hN.trans nt_136
  have h2 := parI_at l x hl
  have h3 := idxP_ge (parP x) l
  dsimp only
  simp only [runA, runB, runC, runD, runE, runF, fieldE, storeE, binE, ↓reduceIte, Nat.reduceLT, Nat.reduceLeDiff, Nat.reduceEqDiff, Nat.reduceAdd, Nat.reduceMul, Nat.reduceSub, reduceCtorEq, putAt, unE, Nat.reduceBEq, convE, buildE, List.replicate, Int.reduceLT, Int.reduceLE, Int.reduceToNat, mkE, mapSetE, hN, hF, ty_3, ty_4, ty_33, ty_57, notIf, isEq, h1, h2, h3]
  simp only [runB, finC, finD, Option.isSome_some, Option.isSome_none, ↓reduceIte, Nat.reduceEqDiff, Nat.reduceAdd, Nat.reduceMul, forall_eq_or_imp, forall_eq, implies_true, Nat.reduceBEq, reduceCtorEq, false_implies, List.zip_cons_cons, List.zip_nil_left, List.zip_nil_right, Nat.reduceLeDiff, List.forall_mem_nil, rs_136]

noncomputable def extS (own : List Blk) (a b : List UInt8) : Bool := (walkS own a).2 && (b == a || b == genS || (walkS own a).1.any (parP b))
noncomputable def conS (own : List Blk) (a b : List UInt8) : Bool := (walkS own a).2 && (walkS own b).2 && !extS own a b && !extS own b a
theorem walkL_len (own : List Blk) : ∀ (f : Nat) (acc : List Blk) (nm : List UInt8) (l : List Blk), walkL own f acc nm = some l → l.length ≤ acc.length + f
  | 0, acc, nm, l, h => by
    unfold walkL at h
    split at h
    · cases h; omega
    · cases h
  | f + 1, acc, nm, l, h => by
    unfold walkL at h
    split at h
    · cases h; omega
    · split at h
      · split at h
        · have := walkL_len own f _ _ _ h
          simp at this; omega
        · cases h
      · have := walkL_len own f _ _ _ h
        simp at this; omega
theorem walkS_len (own : List Blk) (nm : List UInt8) : (walkS own nm).1.length ≤ own.length + 1 := by
  unfold walkS walkE
  split
  · simp
  · rename_i l h
    have := walkL_len own _ _ _ _ h
    simp at this
    split
    · simp
    · split
      · exact this
      · simp
noncomputable def exdC : Contract := mkC (α := List Blk × List UInt8 × List UInt8) (fun p => treeOK p.1) (fun p => [.ptr 6400000 0, .c (.str p.2.1), .c (.str p.2.2)]) (fun p => [[.mp true (esOf p.1)]]) (fun p => ⟨[.pv (.c (.bool (extS p.1 p.2.1 p.2.2)))], [[.mp true (esOf p.1)]]⟩)
theorem exd_at (o : List Blk) (a : List UInt8) (b : List UInt8) (g0 : treeOK o) : exdC [.ptr 6400000 0, .c (.str a), .c (.str b)] [[.mp true (esOf o)]] = some ⟨[.pv (.c (.bool (extS o a b)))], [[.mp true (esOf o)]]⟩ := by
  exact mkC_at (α := List Blk × List UInt8 × List UInt8) (o, a, b) g0 (by
    rintro ⟨o', a', b'⟩ _ h ho
    have hh := And.intro h ho
    clear h ho
    simp only [List.cons.injEq, AV.c.injEq, AV.agg.injEq, PC.int.injEq, PC.str.injEq, PC.bool.injEq, PC.sl.injEq, OV.c.injEq, OV.own.injEq, OV.mp.injEq, bytes_iff, texts_iff, true_and, and_true, and_self, beq_self_eq_true, esOf_iff] at hh
    simp only [hh])
noncomputable def cflC : Contract := mkC (α := List Blk × List UInt8 × List UInt8) (fun p => treeOK p.1) (fun p => [.ptr 6400000 0, .c (.str p.2.1), .c (.str p.2.2)]) (fun p => [[.mp true (esOf p.1)]]) (fun p => ⟨[.pv (.c (.bool (conS p.1 p.2.1 p.2.2)))], [[.mp true (esOf p.1)]]⟩)
theorem cfl_at (o : List Blk) (a : List UInt8) (b : List UInt8) (g0 : treeOK o) : cflC [.ptr 6400000 0, .c (.str a), .c (.str b)] [[.mp true (esOf o)]] = some ⟨[.pv (.c (.bool (conS o a b)))], [[.mp true (esOf o)]]⟩ := by
  exact mkC_at (α := List Blk × List UInt8 × List UInt8) (o, a, b) g0 (by
    rintro ⟨o', a', b'⟩ _ h ho
    have hh := And.intro h ho
    clear h ho
    simp only [List.cons.injEq, AV.c.injEq, AV.agg.injEq, PC.int.injEq, PC.str.injEq, PC.bool.injEq, PC.sl.injEq, OV.c.injEq, OV.own.injEq, OV.mp.injEq, bytes_iff, texts_iff, true_and, and_true, and_self, beq_self_eq_true, esOf_iff] at hh
    simp only [hh])

set_option maxRecDepth 100000 in
set_option maxHeartbeats 4000000 in
theorem exd_sound (hΓ : SoundG Tryz.prog Γ) (h1 : Γ 124 = walkC) (h2 : Γ 42 = genC) (h3 : Γ 136 = parFC) : SoundC Tryz.prog 85 exdC := by
  refine sound_fn Tryz.func85 (by kernel_rfl) rfl rfl ?_
  intro args objs r0 hr
  obtain ⟨⟨o, a, b⟩, ho, rfl, rfl, rfl⟩ := mkC_inv hr
  refine ⟨rfl, by show 3 ≤ _; decide, fun E hN hns hF => ?_⟩
  refine vc_sound hΓ mixed _ _ _ ?_
  have hN := hN.trans nt_85
  have ho : treeOK o := ho
  have q1 := walk_at o a ho
  have hl := walkS_len o a
  have hol := ho.1
  have q2 : genC [] [] = some ⟨[.pv (.c (.str genS))], []⟩ := rfl
  have q3 := parF_at (walkS o a).1 b (by omega)
  dsimp only
  unfold extS
  generalize walkS o a = w at q1 q3 ⊢
  obtain ⟨l, k⟩ := w
  dsimp only at q1 q3 ⊢
  cases k with
  | false =>
    simp only [runA, runB, runC, runD, runE, runF, fieldE, storeE, binE, ↓reduceIte, Nat.reduceLT, Nat.reduceLeDiff, Nat.reduceEqDiff, Nat.reduceAdd, Nat.reduceMul, Nat.reduceSub, reduceCtorEq, putAt, unE, Nat.reduceBEq, convE, buildE, List.replicate, Int.reduceLT, Int.reduceLE, Int.reduceToNat, mkE, mapSetE, hN, hF, ty_4, ty_9, ty_33, ty_57, ty_59, notIf, isEq, h1, q1]
    simp only [runB, finC, finD, Option.isSome_some, Option.isSome_none, ↓reduceIte, Nat.reduceEqDiff, Nat.reduceAdd, Nat.reduceMul, forall_eq_or_imp, forall_eq, implies_true, Nat.reduceBEq, reduceCtorEq, false_implies, List.zip_cons_cons, List.zip_nil_left, List.zip_nil_right, Nat.reduceLeDiff, List.forall_mem_nil, rs_85, ty_4, ty_9, ty_33, ty_57, ty_59, Bool.false_and]
  | true =>
    cases c1 : b == a with
    | true =>
      simp only [runA, runB, runC, runD, runE, runF, fieldE, storeE, binE, ↓reduceIte, Nat.reduceLT, Nat.reduceLeDiff, Nat.reduceEqDiff, Nat.reduceAdd, Nat.reduceMul, Nat.reduceSub, reduceCtorEq, putAt, unE, Nat.reduceBEq, convE, buildE, List.replicate, Int.reduceLT, Int.reduceLE, Int.reduceToNat, mkE, mapSetE, hN, hF, ty_4, ty_9, ty_33, ty_57, ty_59, notIf, isEq, h1, q1, c1]
      refine drawnP_intro (by kernel_rfl) (by kernel_rfl) ?_
      simp only [runA, runB, runC, runD, runE, runF, fieldE, storeE, binE, ↓reduceIte, Nat.reduceLT, Nat.reduceLeDiff, Nat.reduceEqDiff, Nat.reduceAdd, Nat.reduceMul, Nat.reduceSub, reduceCtorEq, putAt, unE, Nat.reduceBEq, convE, buildE, List.replicate, Int.reduceLT, Int.reduceLE, Int.reduceToNat, mkE, mapSetE, hN, hF, ty_4, ty_9, ty_33, ty_57, ty_59, notIf, isEq, h1, q1, c1]
      simp only [runB, finC, finD, Option.isSome_some, Option.isSome_none, ↓reduceIte, Nat.reduceEqDiff, Nat.reduceAdd, Nat.reduceMul, forall_eq_or_imp, forall_eq, implies_true, Nat.reduceBEq, reduceCtorEq, false_implies, List.zip_cons_cons, List.zip_nil_left, List.zip_nil_right, Nat.reduceLeDiff, List.forall_mem_nil, rs_85, ty_4, ty_9, ty_33, ty_57, ty_59, Bool.true_and, Bool.true_or]
    | false =>
      cases c2 : b == genS with
      | true =>
        simp only [runA, runB, runC, runD, runE, runF, fieldE, storeE, binE, ↓reduceIte, Nat.reduceLT, Nat.reduceLeDiff, Nat.reduceEqDiff, Nat.reduceAdd, Nat.reduceMul, Nat.reduceSub, reduceCtorEq, putAt, unE, Nat.reduceBEq, convE, buildE, List.replicate, Int.reduceLT, Int.reduceLE, Int.reduceToNat, mkE, mapSetE, hN, hF, ty_4, ty_9, ty_33, ty_57, ty_59, notIf, isEq, h1, q1, c1, h2, q2, c2]
        refine drawnP_intro (by kernel_rfl) (by kernel_rfl) ?_
        simp only [runA, runB, runC, runD, runE, runF, fieldE, storeE, binE, ↓reduceIte, Nat.reduceLT, Nat.reduceLeDiff, Nat.reduceEqDiff, Nat.reduceAdd, Nat.reduceMul, Nat.reduceSub, reduceCtorEq, putAt, unE, Nat.reduceBEq, convE, buildE, List.replicate, Int.reduceLT, Int.reduceLE, Int.reduceToNat, mkE, mapSetE, hN, hF, ty_4, ty_9, ty_33, ty_57, ty_59, notIf, isEq, h1, q1, c1, h2, q2, c2]
        simp only [runB, finC, finD, Option.isSome_some, Option.isSome_none, ↓reduceIte, Nat.reduceEqDiff, Nat.reduceAdd, Nat.reduceMul, forall_eq_or_imp, forall_eq, implies_true, Nat.reduceBEq, reduceCtorEq, false_implies, List.zip_cons_cons, List.zip_nil_left, List.zip_nil_right, Nat.reduceLeDiff, List.forall_mem_nil, rs_85, ty_4, ty_9, ty_33, ty_57, ty_59, Bool.true_and, Bool.true_or, Bool.or_true]
      | false =>
        simp only [runA, runB, runC, runD, runE, runF, fieldE, storeE, binE, ↓reduceIte, Nat.reduceLT, Nat.reduceLeDiff, Nat.reduceEqDiff, Nat.reduceAdd, Nat.reduceMul, Nat.reduceSub, reduceCtorEq, putAt, unE, Nat.reduceBEq, convE, buildE, List.replicate, Int.reduceLT, Int.reduceLE, Int.reduceToNat, mkE, mapSetE, hN, hF, ty_4, ty_9, ty_33, ty_57, ty_59, notIf, isEq, h1, q1, c1, h2, q2, c2, h3, q3, op_makeFuncC, capE_nil, capE_ptr]
        refine drawnP_intro (by kernel_rfl) (by kernel_rfl) ?_
        simp only [runA, runB, runC, runD, runE, runF, fieldE, storeE, binE, ↓reduceIte, Nat.reduceLT, Nat.reduceLeDiff, Nat.reduceEqDiff, Nat.reduceAdd, Nat.reduceMul, Nat.reduceSub, reduceCtorEq, putAt, unE, Nat.reduceBEq, convE, buildE, List.replicate, Int.reduceLT, Int.reduceLE, Int.reduceToNat, mkE, mapSetE, hN, hF, ty_4, ty_9, ty_33, ty_57, ty_59, notIf, isEq, h1, q1, c1, h2, q2, c2, h3, q3, op_makeFuncC, capE_nil, capE_ptr]
        simp only [runB, finC, finD, Option.isSome_some, Option.isSome_none, ↓reduceIte, Nat.reduceEqDiff, Nat.reduceAdd, Nat.reduceMul, forall_eq_or_imp, forall_eq, implies_true, Nat.reduceBEq, reduceCtorEq, false_implies, List.zip_cons_cons, List.zip_nil_left, List.zip_nil_right, Nat.reduceLeDiff, List.forall_mem_nil, rs_85, ty_4, ty_9, ty_33, ty_57, ty_59, Bool.true_and, Bool.false_or]

set_option maxRecDepth 100000 in
set_option maxHeartbeats 4000000 in
theorem cfl_sound (hΓ : SoundG Tryz.prog Γ) (h1 : Γ 124 = walkC) (h2 : Γ 85 = exdC) : SoundC Tryz.prog 70 cflC := by
  refine sound_fn Tryz.func70 (by kernel_rfl) rfl rfl ?_
  intro args objs r0 hr
  obtain ⟨⟨o, a, b⟩, ho, rfl, rfl, rfl⟩ := mkC_inv hr
  refine ⟨rfl, by show 3 ≤ _; decide, fun E hN hns hF => ?_⟩
  refine vc_sound hΓ mixed _ _ _ ?_
  have hN := hN.trans nt_70
  have ho : treeOK o := ho
  have q1 := walk_at o a ho
  have q2 := walk_at o b ho
  have q3 := exd_at o a b ho
  have q4 := exd_at o b a ho
  dsimp only
  unfold conS
  generalize extS o a b = e1 at q3 ⊢
  generalize extS o b a = e2 at q4 ⊢
  generalize (walkS o a).1 = l1 at q1
  generalize (walkS o b).1 = l2 at q2
  generalize (walkS o a).2 = k1 at q1 ⊢
  generalize (walkS o b).2 = k2 at q2 ⊢
  cases k1 <;> cases k2 <;> cases e1 <;> cases e2
  all_goals
    simp only [runA, runB, runC, runD, runE, runF, fieldE, storeE, binE, ↓reduceIte, Nat.reduceLT, Nat.reduceLeDiff, Nat.reduceEqDiff, Nat.reduceAdd, Nat.reduceMul, Nat.reduceSub, reduceCtorEq, putAt, unE, Nat.reduceBEq, convE, buildE, List.replicate, Int.reduceLT, Int.reduceLE, Int.reduceToNat, mkE, mapSetE, hN, hF, ty_4, ty_9, ty_59, notIf, isEq, h1, q1, q2, h2, q3, q4, Bool.not_true, Bool.not_false]
    simp only [runB, finC, finD, Option.isSome_some, Option.isSome_none, ↓reduceIte, Nat.reduceEqDiff, Nat.reduceAdd, Nat.reduceMul, forall_eq_or_imp, forall_eq, implies_true, Nat.reduceBEq, reduceCtorEq, false_implies, List.zip_cons_cons, List.zip_nil_left, List.zip_nil_right, Nat.reduceLeDiff, List.forall_mem_nil, rs_70, ty_4, ty_9, ty_59, Bool.true_and, Bool.false_and, Bool.and_false, Bool.and_true, Bool.not_true, Bool.not_false]


variable {Γ : FuncId → Contract}



variable {Γ : FuncId → Contract}


def isPath (own : List Blk) : List UInt8 → List Blk → Prop
  | nm, [] => atB own nm = none
  | nm, b :: S => atB own nm = some b ∧ isPath own b.pa S
theorem walkL_path (own : List Blk) : ∀ (f : Nat) (acc : List Blk) (nm : List UInt8) (R : List Blk), walkL own f acc nm = some R → ∃ S, R = acc ++ S ∧ isPath own nm S
  | 0, acc, nm, R, h => by
    unfold walkL at h
    split at h
    · rename_i ha; cases h; exact ⟨[], by simp, ha⟩
    · cases h
  | f + 1, acc, nm, R, h => by
    unfold walkL at h
    split at h
    · rename_i ha; cases h; exact ⟨[], by simp, ha⟩
    · rename_i b ha
      split at h
      · split at h
        · obtain ⟨S, rfl, hS⟩ := walkL_path own f _ _ _ h
          exact ⟨b :: S, by simp, ha, hS⟩
        · cases h
      · obtain ⟨S, rfl, hS⟩ := walkL_path own f _ _ _ h
        exact ⟨b :: S, by simp, ha, hS⟩
theorem isPath_one {own : List Blk} : ∀ {S T : List Blk} {nm : List UInt8}, isPath own nm S → isPath own nm T → S = T
  | [], [], _, _, _ => rfl
  | [], _ :: _, nm, h, k => by have e := k.1; rw [show atB own nm = none from h] at e; cases e
  | _ :: _, [], nm, h, k => by have e := h.1; rw [show atB own nm = none from k] at e; cases e
  | b :: S, c :: T, nm, ⟨h1, h2⟩, ⟨k1, k2⟩ => by
    rw [h1] at k1
    cases k1
    rw [isPath_one h2 k2]
theorem isPath_split {own : List Blk} : ∀ {A : List Blk} {x : Blk} {T : List Blk} {nm : List UInt8}, isPath own nm (A ++ x :: T) → isPath own x.pa T
  | [], _, _, _, h => h.2
  | _ :: A, _, _, _, h => isPath_split (A := A) h.2
theorem walkS_path {own : List Blk} {nm : List UInt8} (h : (walkS own nm).2 = true) : isPath own nm (walkS own nm).1 := by
  unfold walkS at h ⊢
  cases hW : walkL own (own.length + 1) [] nm with
  | none => rw [hW] at h; cases h
  | some l =>
    rw [hW] at h
    obtain ⟨S, hl2, hS⟩ := walkL_path own _ _ _ _ hW
    rw [List.nil_append] at hl2
    subst hl2
    rcases List.eq_nil_or_concat l with rfl | ⟨i, p, e⟩
    · exact hS
    · rw [List.concat_eq_append] at e
      subst e
      rw [walkE_snoc] at h ⊢
      split at h
      · rename_i hc
        rw [if_pos hc]
        exact hS
      · cases h
theorem extS_of {own : List Blk} {a b : List UInt8} (h : extS own a b = true) : (walkS own a).2 = true ∧ (b = a ∨ b = genS ∨ ∃ A x T, (walkS own a).1 = A ++ x :: T ∧ x.pa = b) := by
  unfold extS at h
  simp only [Bool.and_eq_true, Bool.or_eq_true, beq_iff_eq, List.any_eq_true] at h
  obtain ⟨h1, (h2 | h2) | ⟨x, hx, hp⟩⟩ := h
  · exact ⟨h1, .inl h2⟩
  · exact ⟨h1, .inr (.inl h2)⟩
  · obtain ⟨A, T, e⟩ := List.append_of_mem hx
    exact ⟨h1, .inr (.inr ⟨A, x, T, e, by simpa [parP] using hp⟩)⟩
theorem ext_gen {own : List Blk} {a : List UInt8} (h : (walkS own a).2 = true) : extS own a genS = true := by
  unfold extS
  simp [h]
theorem ext_self {own : List Blk} {a : List UInt8} (h : (walkS own a).2 = true) : extS own a a = true := by
  unfold extS
  simp [h]
theorem ext_mem {own : List Blk} {a : List UInt8} (h : (walkS own a).2 = true) {x : Blk} (hx : x ∈ (walkS own a).1) : extS own a x.pa = true := by
  unfold extS
  simp only [h, Bool.true_and, Bool.or_eq_true, beq_iff_eq, List.any_eq_true]
  exact .inr ⟨x, hx, by simp [parP]⟩
/-- What two that one extends are to each other. -/
theorem three {own : List Blk} {a b c : List UInt8} (hb : extS own a b = true) (hc : extS own a c = true) : conS own b c = false := by
  obtain ⟨ha, hb'⟩ := extS_of hb
  obtain ⟨_, hc'⟩ := extS_of hc
  have hp := walkS_path ha
  unfold conS
  cases kb : (walkS own b).2 with
  | false => rfl
  | true =>
    cases kc : (walkS own c).2 with
    | false => rfl
    | true =>
      have key : extS own b c = true ∨ extS own c b = true := by
        rcases hb' with rfl | rfl | ⟨A, x, T, e1, rfl⟩
        · exact .inl hc
        · exact .inr (ext_gen kc)
        rcases hc' with rfl | rfl | ⟨A2, y, T2, e2, rfl⟩
        · exact .inr hb
        · exact .inl (ext_gen kb)
        have hpb : (walkS own x.pa).1 = T := by rw [e1] at hp; exact isPath_one (walkS_path kb) (isPath_split hp)
        have hpc : (walkS own y.pa).1 = T2 := by rw [e2] at hp; exact isPath_one (walkS_path kc) (isPath_split hp)
        have hcmp := e1.symm.trans e2
        rcases List.append_eq_append_iff.1 hcmp with ⟨D, h1, h2⟩ | ⟨D, h1, h2⟩
        · cases D with
          | nil =>
            simp only [List.nil_append, List.cons.injEq] at h2
            have hxy : x = y := h2.1
            subst hxy
            exact .inl (ext_self kb)
          | cons d D =>
            simp only [List.cons_append, List.cons.injEq] at h2
            refine .inl (ext_mem kb ?_)
            rw [hpb, h2.2]
            simp
        · cases D with
          | nil =>
            simp only [List.nil_append, List.cons.injEq] at h2
            have hxy : y = x := h2.1
            subst hxy
            exact .inl (ext_self kc)
          | cons d D =>
            simp only [List.cons_append, List.cons.injEq] at h2
            refine .inr (ext_mem kc ?_)
            rw [hpc, h2.2]
            simp
      rcases key with h | h <;> simp [h]
noncomputable def nmIs (name : List UInt8) (b : Blk) : Bool := nameS b == name
noncomputable def atI (l : List Blk) (name : List UInt8) : Int := if name = [] then -1 else idxP (nmIs name) l
def okTl (l : List Blk) : Prop := l.length ≤ 9223372036854775807 ∧ ∀ b ∈ l, b.txs.length ≤ 9223372036854775807
theorem okTl_getD {l : List Blk} (h : okTl l) {i : Nat} (hi : i < l.length) : (l.getD i zeroBk).txs.length ≤ 9223372036854775807 := by
  rw [List.getD, List.getElem?_eq_getElem hi]
  exact h.2 _ (List.getElem_mem hi)
theorem bkN_p (b : Blk) (h : b.txs.length ≤ 9223372036854775807) : bkNC [.agg [.c (.int .i64 b.vw), .c (.int .i64 b.ht), .c (.str b.pa), .c (.int .i64 b.ju.vw), .c (.int .i64 b.ju.ht), .c (.str b.ju.bl), .c (.sl (votes b.ju.vs)), .c (.sl (trows b.txs)), .c (.str b.sig)]] [] = some ⟨[.pv (.c (.str (nameS b)))], []⟩ := bkN_at b.vw b.ht b.pa b.ju.vw b.ju.ht b.ju.bl b.ju.vs b.txs b.sig h
noncomputable def at14C : Contract := mkC (α := List Blk × List UInt8) (fun p => okTl p.1) (fun p => [.c (.sl (brows p.1)), .c (.str p.2)]) (fun p => []) (fun p => ⟨[.pv (.c (.int .i64 (atI p.1 p.2)))], []⟩)
theorem at14_at (l : List Blk) (s : List UInt8) (g0 : okTl l) : at14C [.c (.sl (brows l)), .c (.str s)] [] = some ⟨[.pv (.c (.int .i64 (atI l s)))], []⟩ := by
  exact mkC_at (α := List Blk × List UInt8) (l, s) g0 (by
    rintro ⟨l', s'⟩ _ h ho
    have hh := And.intro h ho
    clear h ho
    simp only [List.cons.injEq, AV.c.injEq, AV.agg.injEq, PC.int.injEq, PC.str.injEq, PC.bool.injEq, PC.sl.injEq, OV.c.injEq, OV.own.injEq, OV.mp.injEq, bytes_iff, texts_iff, true_and, and_true, and_self, beq_self_eq_true, brows_iff] at hh
    simp only [hh])

set_option maxRecDepth 100000 in
set_option maxHeartbeats 4000000 in
theorem at14_sound (hΓ : SoundG Tryz.prog Γ) (h1 : Γ 17 = bkNC) : SoundC Tryz.prog 127 at14C := by
  refine sound_fn Tryz.func127 (by kernel_rfl) rfl rfl ?_
  intro args objs r0 hr
  obtain ⟨⟨l, s⟩, hl, rfl, rfl, rfl⟩ := mkC_inv hr
  refine ⟨rfl, by show 2 ≤ _; decide, fun E hN hns hF => ?_⟩
  refine vc_sound hΓ mixed _ _ _ ?_
  have hN := hN.trans nt_127
  have hl : okTl l := hl
  have hl1 := hl.1
  dsimp only
  by_cases hs : s = []
  · have g1 : (s == []) = true := by simp [hs]
    have hS : atI l s = -1 := if_pos hs
    rw [hS]
    simp only [runA, runB, runC, runD, runE, runF, fieldE, storeE, binE, ↓reduceIte, Nat.reduceLT, Nat.reduceLeDiff, Nat.reduceEqDiff, Nat.reduceAdd, Nat.reduceMul, Nat.reduceSub, reduceCtorEq, putAt, unE, Nat.reduceBEq, convE, buildE, List.replicate, Int.reduceLT, Int.reduceLE, Int.reduceToNat, mkE, mapSetE, hN, hF, ty_3, ty_9, ty_22, ty_31, ty_33, ty_57, notIf, isEq]
    refine AWP.loop (fun k st => ∃ i : Nat, i ≤ l.length ∧ k = l.length - i ∧ st = ⟨[(0, .c (.sl (brows l))), (1, .c (.str s)), (5, .c (.int .i64 (i : Int)))], []⟩) ⟨l.length, _, ?w, 0, Nat.zero_le _, rfl, rfl⟩ ?r
    case w =>
      rw [hns]
      simp only [runB, finC, finD, AS.get, AS.mem, false_implies, implies_true, ↓reduceIte, Nat.reduceEqDiff, Option.isSome_some, Option.isSome_none, forall_eq_or_imp, forall_eq, reduceCtorEq, Nat.reduceAdd, Nat.reduceMul, List.zip_cons_cons, List.zip_nil_left, List.zip_nil_right, List.forall_mem_nil]
      first | done | simp
    case r =>
      rintro k st ⟨i, hi, rfl, rfl⟩
      refine vc_sound hΓ mixed _ _ _ ?_
      by_cases hlt : i < l.length
      · have k1 : decide ((i : Int) < (l.length : Int)) = true := by simpa using hlt
        have e1 : IntKind.i64.wrap ((i : Int) + 1) = (i : Int) + 1 := wrapI (by omega)
        simp only [runA, runB, runC, runD, runE, runF, fieldE, storeE, binE, ↓reduceIte, Nat.reduceLT, Nat.reduceLeDiff, Nat.reduceEqDiff, Nat.reduceAdd, Nat.reduceMul, Nat.reduceSub, reduceCtorEq, putAt, unE, Nat.reduceBEq, convE, buildE, List.replicate, Int.reduceLT, Int.reduceLE, Int.reduceToNat, mkE, mapSetE, hN, hF, ty_3, ty_9, ty_22, ty_31, ty_33, ty_57, notIf, isEq, k1, e1, g1, brows_length, Bool.not_true]
        refine ⟨l.length - (i + 1), _, by omega, ?_, i + 1, by omega, rfl, rfl⟩
        rw [hns]
        simp only [runB, finC, finD, AS.get, AS.mem, false_implies, implies_true, ↓reduceIte, Nat.reduceEqDiff, Option.isSome_some, Option.isSome_none, forall_eq_or_imp, forall_eq, reduceCtorEq, Nat.reduceAdd, Nat.reduceMul, List.zip_cons_cons, List.zip_nil_left, List.zip_nil_right, List.forall_mem_nil]
        first | done | simp
      · have k1 : decide ((i : Int) < (l.length : Int)) = false := by simpa using hlt
        simp only [runA, runB, runC, runD, runE, runF, fieldE, storeE, binE, ↓reduceIte, Nat.reduceLT, Nat.reduceLeDiff, Nat.reduceEqDiff, Nat.reduceAdd, Nat.reduceMul, Nat.reduceSub, reduceCtorEq, putAt, unE, Nat.reduceBEq, convE, buildE, List.replicate, Int.reduceLT, Int.reduceLE, Int.reduceToNat, mkE, mapSetE, hN, hF, ty_3, ty_9, ty_22, ty_31, ty_33, ty_57, notIf, isEq, k1, brows_length]
        simp only [runB, finC, finD, Option.isSome_some, Option.isSome_none, ↓reduceIte, Nat.reduceEqDiff, Nat.reduceAdd, Nat.reduceMul, forall_eq_or_imp, forall_eq, implies_true, Nat.reduceBEq, reduceCtorEq, false_implies, List.zip_cons_cons, List.zip_nil_left, List.zip_nil_right, Nat.reduceLeDiff, List.forall_mem_nil, rs_127, ty_3, ty_9, ty_22, ty_31, ty_33, ty_57]
  · have g1 : (s == []) = false := by simp [hs]
    have hS : atI l s = idxP (nmIs s) l := if_neg hs
    rw [hS]
    simp only [runA, runB, runC, runD, runE, runF, fieldE, storeE, binE, ↓reduceIte, Nat.reduceLT, Nat.reduceLeDiff, Nat.reduceEqDiff, Nat.reduceAdd, Nat.reduceMul, Nat.reduceSub, reduceCtorEq, putAt, unE, Nat.reduceBEq, convE, buildE, List.replicate, Int.reduceLT, Int.reduceLE, Int.reduceToNat, mkE, mapSetE, hN, hF, ty_3, ty_9, ty_22, ty_31, ty_33, ty_57, notIf, isEq]
    refine AWP.loop (fun k st => ∃ i : Nat, (i ≤ l.length ∧ ∀ k, k < i → nmIs s (l.getD k zeroBk) = false) ∧ k = l.length - i ∧ st = ⟨[(0, .c (.sl (brows l))), (1, .c (.str s)), (5, .c (.int .i64 (i : Int)))], []⟩) ⟨l.length, _, ?w, 0, ⟨Nat.zero_le _, fun k hk => absurd hk (by omega)⟩, rfl, rfl⟩ ?r
    case w =>
      rw [hns]
      simp only [runB, finC, finD, AS.get, AS.mem, false_implies, implies_true, ↓reduceIte, Nat.reduceEqDiff, Option.isSome_some, Option.isSome_none, forall_eq_or_imp, forall_eq, reduceCtorEq, Nat.reduceAdd, Nat.reduceMul, List.zip_cons_cons, List.zip_nil_left, List.zip_nil_right, List.forall_mem_nil]
      first | done | simp
    case r =>
      rintro k st ⟨i, ⟨hi, h8⟩, rfl, rfl⟩
      refine vc_sound hΓ mixed _ _ _ ?_
      by_cases hlt : i < l.length
      · have k1 : decide ((i : Int) < (l.length : Int)) = true := by simpa using hlt
        have e1 : IntKind.i64.wrap ((i : Int) + 1) = (i : Int) + 1 := wrapI (by omega)
        have hg := browsD l i hlt
        have hd := bkN_p (l.getD i zeroBk) (okTl_getD hl hlt)
        unfold Blk.pcs at hg
        cases hp : nmIs s (l.getD i zeroBk) with
        | false =>
          have h8' : ∀ k, k < i + 1 → nmIs s (l.getD k zeroBk) = false := fun k hk => by
            by_cases e : k = i
            · rw [e]; exact hp
            · exact h8 k (by omega)
          unfold nmIs at hp
          generalize l.getD i zeroBk = y at hg hd hp
          simp only [runA, runB, runC, runD, runE, runF, fieldE, storeE, binE, ↓reduceIte, Nat.reduceLT, Nat.reduceLeDiff, Nat.reduceEqDiff, Nat.reduceAdd, Nat.reduceMul, Nat.reduceSub, reduceCtorEq, putAt, unE, Nat.reduceBEq, convE, buildE, List.replicate, Int.reduceLT, Int.reduceLE, Int.reduceToNat, mkE, mapSetE, hN, hF, ty_3, ty_9, ty_22, ty_31, ty_33, ty_57, notIf, isEq, k1, e1, g1, hg, h1, hd, hp, brows_length, Bool.not_false]
          refine ⟨l.length - (i + 1), _, by omega, ?_, i + 1, ⟨by omega, h8'⟩, rfl, rfl⟩
          rw [hns]
          simp only [runB, finC, finD, AS.get, AS.mem, false_implies, implies_true, ↓reduceIte, Nat.reduceEqDiff, Option.isSome_some, Option.isSome_none, forall_eq_or_imp, forall_eq, reduceCtorEq, Nat.reduceAdd, Nat.reduceMul, List.zip_cons_cons, List.zip_nil_left, List.zip_nil_right, List.forall_mem_nil]
          first | done | simp
        | true =>
          have hR := idxP_some hlt hp h8
          unfold nmIs at hp
          generalize l.getD i zeroBk = y at hg hd hp
          simp only [runA, runB, runC, runD, runE, runF, fieldE, storeE, binE, ↓reduceIte, Nat.reduceLT, Nat.reduceLeDiff, Nat.reduceEqDiff, Nat.reduceAdd, Nat.reduceMul, Nat.reduceSub, reduceCtorEq, putAt, unE, Nat.reduceBEq, convE, buildE, List.replicate, Int.reduceLT, Int.reduceLE, Int.reduceToNat, mkE, mapSetE, hN, hF, ty_3, ty_9, ty_22, ty_31, ty_33, ty_57, notIf, isEq, k1, e1, g1, hg, h1, hd, hp, brows_length, Bool.not_false]
          simp only [runB, finC, finD, Option.isSome_some, Option.isSome_none, ↓reduceIte, Nat.reduceEqDiff, Nat.reduceAdd, Nat.reduceMul, forall_eq_or_imp, forall_eq, implies_true, Nat.reduceBEq, reduceCtorEq, false_implies, List.zip_cons_cons, List.zip_nil_left, List.zip_nil_right, Nat.reduceLeDiff, List.forall_mem_nil, rs_127, ty_3, ty_9, ty_22, ty_31, ty_33, ty_57, hR]
      · have k1 : decide ((i : Int) < (l.length : Int)) = false := by simpa using hlt
        obtain rfl : i = l.length := by omega
        have hR := idxP_none h8
        simp only [runA, runB, runC, runD, runE, runF, fieldE, storeE, binE, ↓reduceIte, Nat.reduceLT, Nat.reduceLeDiff, Nat.reduceEqDiff, Nat.reduceAdd, Nat.reduceMul, Nat.reduceSub, reduceCtorEq, putAt, unE, Nat.reduceBEq, convE, buildE, List.replicate, Int.reduceLT, Int.reduceLE, Int.reduceToNat, mkE, mapSetE, hN, hF, ty_3, ty_9, ty_22, ty_31, ty_33, ty_57, notIf, isEq, k1, brows_length]
        simp only [runB, finC, finD, Option.isSome_some, Option.isSome_none, ↓reduceIte, Nat.reduceEqDiff, Nat.reduceAdd, Nat.reduceMul, forall_eq_or_imp, forall_eq, implies_true, Nat.reduceBEq, reduceCtorEq, false_implies, List.zip_cons_cons, List.zip_nil_left, List.zip_nil_right, Nat.reduceLeDiff, List.forall_mem_nil, rs_127, ty_3, ty_9, ty_22, ty_31, ty_33, ty_57, hR]


variable {Γ : FuncId → Contract}


def okBl (l : List Blk) : Prop := l.length ≤ 1048576 ∧ ∀ b ∈ l, b.txs.length ≤ 1048576 ∧ b.ju.vs.length ≤ 1048576
theorem okBl_getD {l : List Blk} (h : okBl l) {i : Nat} (hi : i < l.length) : (l.getD i zeroBk).txs.length ≤ 1048576 ∧ (l.getD i zeroBk).ju.vs.length ≤ 1048576 := by
  rw [List.getD, List.getElem?_eq_getElem hi]
  exact h.2 _ (List.getElem_mem hi)
noncomputable def ownI (l : List Blk) (i : Nat) : List Blk := (l.take i).foldl putO []
theorem ownI_succ {l : List Blk} {i : Nat} (h : i < l.length) : ownI l (i + 1) = putO (ownI l i) (l.getD i zeroBk) := by
  unfold ownI
  rw [List.take_add_one, List.getElem?_eq_getElem h, List.foldl_append, List.getD, List.getElem?_eq_getElem h]
  rfl
theorem ownI_ok {l : List Blk} (hl : okBl l) : ∀ i, i ≤ l.length → (ownI l i).length ≤ i ∧ ∀ b ∈ ownI l i, okB b ∧ (b.txs.length ≤ 1048576 ∧ b.ju.vs.length ≤ 1048576)
  | 0, _ => ⟨by simp [ownI], by simp [ownI]⟩
  | i + 1, h => by
    obtain ⟨h1, h2⟩ := ownI_ok hl i (by omega)
    rw [ownI_succ (by omega)]
    unfold putO
    split
    · rename_i hp
      unfold putB' at hp
      simp only [Bool.and_eq_true, decide_eq_true_eq] at hp
      refine ⟨by simp; omega, fun b hb => ?_⟩
      rcases List.mem_append.1 hb with hb | hb
      · exact h2 b hb
      · simp only [List.mem_singleton] at hb
        subst hb
        exact ⟨hp.1, okBl_getD hl (by omega)⟩
    · exact ⟨by omega, h2⟩
theorem ownI_tree {l : List Blk} (hl : okBl l) {i : Nat} (h : i ≤ l.length) : treeOK (ownI l i) := by
  obtain ⟨h1, h2⟩ := ownI_ok hl i h
  have := hl.1
  exact ⟨by omega, fun b hb => ⟨(h2 b hb).1, by have := (h2 b hb).2.1; omega, by have := (h2 b hb).2.2; omega⟩⟩
theorem ownI_tl {l : List Blk} (hl : okBl l) {i : Nat} (h : i ≤ l.length) : okTl (ownI l i) := by
  obtain ⟨h1, h2⟩ := ownI_ok hl i h
  have := hl.1
  exact ⟨by omega, fun b hb => by have := (h2 b hb).2.1; omega⟩
theorem putT_p (o : List Blk) (b : Blk) (h : smB b) : putTC [.ptr 6400000 0, .agg [.c (.int .i64 b.vw), .c (.int .i64 b.ht), .c (.str b.pa), .c (.int .i64 b.ju.vw), .c (.int .i64 b.ju.ht), .c (.str b.ju.bl), .c (.sl (votes b.ju.vs)), .c (.sl (trows b.txs)), .c (.str b.sig)]] [[.mp true (esOf o)]] = some ⟨[.pv (.c (.bool (putB' o b)))], [[.mp true (esOf (putO o b))]]⟩ := putT_at o b.vw b.ht b.pa b.ju.vw b.ju.ht b.ju.bl b.ju.vs b.txs b.sig h
theorem newT_at : newTC [] [] = some ⟨[.newobj [.mp true []]], []⟩ := rfl

variable {Γ : FuncId → Contract}


def nothing : List UInt8 := [110, 111, 116, 104, 105, 110, 103]
end Go.Proofs.YtenmlgalcjkdbaaGreat.AM
