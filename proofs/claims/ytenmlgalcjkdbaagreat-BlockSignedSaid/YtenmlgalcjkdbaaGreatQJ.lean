/-
  QJ: Bv6 Bv7.
-/
import Derived.Test.YtenmlgalcjkdbaaGreatQI
import Derived.Test.YtenmlgalcjkdbaaGreatQ9
import Derived.Test.YtenmlgalcjkdbaaGreatQG
set_option linter.unusedVariables false
set_option linter.unusedSimpArgs false
namespace Go.Proofs.YtenmlgalcjkdbaaGreat.AM
open Go

variable {Γ : FuncId → Contract}


structure Cfg where
  ro : List (List UInt8)
  cl : List (List UInt8)
  q : Int
  ba : Int
  ca : Int
def Cfg.av (c : Cfg) : AV := .agg [.c (.sl (texts c.ro)), .c (.sl (texts c.cl)), .c (.int .i64 c.q), .c (.int .i64 c.ba), .c (.int .i64 c.ca)]
theorem Cfg.av_inj {a b : Cfg} (h : a.av = b.av) : a = b := by
  obtain ⟨a0, a1, a2, a3, a4⟩ := a
  obtain ⟨b0, b1, b2, b3, b4⟩ := b
  simp only [Cfg.av, AV.agg.injEq, List.cons.injEq, AV.c.injEq, PC.sl.injEq, PC.int.injEq, texts_iff, true_and, and_true] at h
  obtain ⟨rfl, rfl, rfl, rfl, rfl⟩ := h
  rfl
theorem Cfg.av_iff {a b : Cfg} : a.av = b.av ↔ a = b := ⟨Cfg.av_inj, fun h => by rw [h]⟩
abbrev CfgB := {c : Cfg // c.cl.length ≤ 9223372036854775807}
theorem cfgB_ext {a b : CfgB} (h : a.1.ro = b.1.ro ∧ a.1.cl = b.1.cl ∧ a.1.q = b.1.q ∧ a.1.ba = b.1.ba ∧ a.1.ca = b.1.ca) : a = b := by
  obtain ⟨⟨a0, a1, a2, a3, a4⟩, ha⟩ := a
  obtain ⟨⟨b0, b1, b2, b3, b4⟩, hb⟩ := b
  obtain ⟨rfl, rfl, rfl, rfl, rfl⟩ := h
  rfl
def ldS (v n : Int) : Int := if v < 0 ∨ n < 1 then 0 else v.tmod n
theorem ldS_lt (v : Int) {n : Nat} (h : 0 < n) : ∃ d : Nat, ldS v (n : Int) = (d : Int) ∧ d < n := by
  unfold ldS
  split
  · exact ⟨0, rfl, h⟩
  · have h1 := Int.tmod_lt_of_pos v (b := (n : Int)) (by omega)
    have h2 : 0 ≤ v.tmod (n : Int) := Int.tmod_nonneg _ (by omega)
    exact ⟨(v.tmod (n : Int)).toNat, by omega, by omega⟩
theorem nameS_le (b : Blk) : (nameS b).length ≤ 32 := by
  by_cases h : okB b
  · rw [nameS_len h]; decide
  · rw [show nameS b = [] from if_neg h]; simp
noncomputable def sgS (b : Blk) (roots : List (List UInt8)) : Bool := if roots = [] then false else (verS (roots.getD (ldS b.vw (roots.length : Int)).toNat []) 4 (nameS b) b.sig).2
noncomputable def badV (c : CfgB) (t : Txn) : Bool := !validT t c.1.cl
noncomputable def vaS (b : Blk) (c : Cfg) : Bool := decide (okB b) && (sgS b c.ro && (decide (ctS b.ju c.ro c.q = 0) && b.txs.all fun t => validT t c.cl))
theorem any_badV (l : List Txn) (c : CfgB) : (!l.any (badV c)) = l.all fun t => validT t c.1.cl := by
  induction l with
  | nil => rfl
  | cons t l ih =>
    rw [List.any_cons, List.all_cons, Bool.not_or, ih]
    unfold badV
    rw [Bool.not_not]
theorem ctS_val (c : Ct) (roots : List (List UInt8)) (q : Int) : ctS c roots q = 0 ∨ ctS c roots q = 41 := by
  unfold ctS
  split
  · exact .inl rfl
  · split
    · exact .inr rfl
    · split
      · exact .inl rfl
      · exact .inr rfl
noncomputable def ldC : Contract := mkC (α := Int × Int) (fun p => True) (fun p => [.c (.int .i64 p.1), .c (.int .i64 p.2)]) (fun p => []) (fun p => ⟨[.pv (.c (.int .i64 (ldS p.1 p.2)))], []⟩)
theorem ld_at (v : Int) (n : Int) : ldC [.c (.int .i64 v), .c (.int .i64 n)] [] = some ⟨[.pv (.c (.int .i64 (ldS v n)))], []⟩ := by
  exact mkC_at (α := Int × Int) (v, n) trivial (by
    rintro ⟨v', n'⟩ _ h ho
    have hh := And.intro h ho
    clear h ho
    simp only [List.cons.injEq, AV.c.injEq, AV.agg.injEq, PC.int.injEq, PC.str.injEq, PC.bool.injEq, PC.sl.injEq, OV.c.injEq, OV.own.injEq, OV.mp.injEq, bytes_iff, texts_iff, true_and, and_true, and_self, beq_self_eq_true] at hh
    simp only [hh])

set_option maxRecDepth 100000 in
set_option maxHeartbeats 4000000 in
theorem ld_sound  : SoundC Tryz.prog 41 ldC := by
  refine sound_fn Tryz.func41 (by kernel_rfl) rfl rfl ?_
  intro args objs r0 hr
  obtain ⟨⟨v, n⟩, _, rfl, rfl, rfl⟩ := mkC_inv hr
  refine ⟨rfl, by show 2 ≤ _; decide, fun E hN hns hF => ?_⟩
  refine vc_sound none0_sound mixed _ _ _ ?_
  have hN := hN.trans nt_41
  dsimp only
  by_cases c1 : v < 0
  · have k1 : decide (v < 0) = true := decide_eq_true c1
    have hS : ldS v n = 0 := if_pos (.inl c1)
    rw [hS]
    simp only [runA, runB, runC, runD, runE, runF, fieldE, storeE, binE, ↓reduceIte, Nat.reduceLT, Nat.reduceLeDiff, Nat.reduceEqDiff, Nat.reduceAdd, Nat.reduceMul, Nat.reduceSub, reduceCtorEq, putAt, unE, Nat.reduceBEq, convE, buildE, List.replicate, Int.reduceLT, Int.reduceLE, Int.reduceToNat, mkE, mapSetE, hN, hF, ty_3, notIf, isEq, k1]
    simp only [runB, finC, finD, Option.isSome_some, Option.isSome_none, ↓reduceIte, Nat.reduceEqDiff, Nat.reduceAdd, Nat.reduceMul, forall_eq_or_imp, forall_eq, implies_true, Nat.reduceBEq, reduceCtorEq, false_implies, List.zip_cons_cons, List.zip_nil_left, List.zip_nil_right, Nat.reduceLeDiff, List.forall_mem_nil, rs_41, ty_3]
  have k1 : decide (v < 0) = false := decide_eq_false c1
  by_cases c2 : n < 1
  · have k2 : decide (n < 1) = true := decide_eq_true c2
    have hS : ldS v n = 0 := if_pos (.inr c2)
    rw [hS]
    simp only [runA, runB, runC, runD, runE, runF, fieldE, storeE, binE, ↓reduceIte, Nat.reduceLT, Nat.reduceLeDiff, Nat.reduceEqDiff, Nat.reduceAdd, Nat.reduceMul, Nat.reduceSub, reduceCtorEq, putAt, unE, Nat.reduceBEq, convE, buildE, List.replicate, Int.reduceLT, Int.reduceLE, Int.reduceToNat, mkE, mapSetE, hN, hF, ty_3, notIf, isEq, k1, k2]
    simp only [runB, finC, finD, Option.isSome_some, Option.isSome_none, ↓reduceIte, Nat.reduceEqDiff, Nat.reduceAdd, Nat.reduceMul, forall_eq_or_imp, forall_eq, implies_true, Nat.reduceBEq, reduceCtorEq, false_implies, List.zip_cons_cons, List.zip_nil_left, List.zip_nil_right, Nat.reduceLeDiff, List.forall_mem_nil, rs_41, ty_3]
  have k2 : decide (n < 1) = false := decide_eq_false c2
  have hS : ldS v n = v.tmod n := if_neg (by rintro (h | h); exact c1 h; exact c2 h)
  have z0 : (n = 0) = False := eq_false (by omega)
  rw [hS]
  simp only [runA, runB, runC, runD, runE, runF, fieldE, storeE, binE, ↓reduceIte, Nat.reduceLT, Nat.reduceLeDiff, Nat.reduceEqDiff, Nat.reduceAdd, Nat.reduceMul, Nat.reduceSub, reduceCtorEq, putAt, unE, Nat.reduceBEq, convE, buildE, List.replicate, Int.reduceLT, Int.reduceLE, Int.reduceToNat, mkE, mapSetE, hN, hF, ty_3, notIf, isEq, k1, k2, z0]
  simp only [runB, finC, finD, Option.isSome_some, Option.isSome_none, ↓reduceIte, Nat.reduceEqDiff, Nat.reduceAdd, Nat.reduceMul, forall_eq_or_imp, forall_eq, implies_true, Nat.reduceBEq, reduceCtorEq, false_implies, List.zip_cons_cons, List.zip_nil_left, List.zip_nil_right, Nat.reduceLeDiff, List.forall_mem_nil, rs_41, ty_3]

noncomputable def sgdC : Contract := mkC (α := Blk × List (List UInt8)) (fun p => p.1.txs.length ≤ 9223372036854775807 ∧ p.2.length ≤ 9223372036854775807) (fun p => [p.1.av, .c (.sl (texts p.2))]) (fun p => []) (fun p => ⟨[.pv (.c (.bool (sgS p.1 p.2)))], []⟩)
theorem sgd_at (bvw : Int) (bht : Int) (bpa : List UInt8) (bjvw : Int) (bjht : Int) (bjbl : List UInt8) (bjvs : List Vt) (btxs : List Txn) (bsig : List UInt8) (roots : List (List UInt8)) (g0 : btxs.length ≤ 9223372036854775807) (g1 : roots.length ≤ 9223372036854775807) : sgdC [(.agg [.c (.int .i64 bvw), .c (.int .i64 bht), .c (.str bpa), .c (.int .i64 bjvw), .c (.int .i64 bjht), .c (.str bjbl), .c (.sl (votes bjvs)), .c (.sl (trows btxs)), .c (.str bsig)]), .c (.sl (texts roots))] [] = some ⟨[.pv (.c (.bool (sgS (⟨bvw, bht, bpa, ⟨bjvw, bjht, bjbl, bjvs⟩, btxs, bsig⟩ : Blk) roots)))], []⟩ := by
  exact mkC_at (α := Blk × List (List UInt8)) (⟨bvw, bht, bpa, ⟨bjvw, bjht, bjbl, bjvs⟩, btxs, bsig⟩, roots) ⟨g0, g1⟩ (by
    rintro ⟨b', roots'⟩ _ h ho
    have hh := And.intro h ho
    clear h ho
    simp only [List.cons.injEq, AV.c.injEq, AV.agg.injEq, PC.int.injEq, PC.str.injEq, PC.bool.injEq, PC.sl.injEq, OV.c.injEq, OV.own.injEq, OV.mp.injEq, bytes_iff, texts_iff, true_and, and_true, and_self, beq_self_eq_true, Blk.av_iff] at hh
    simp only [hh])

set_option maxRecDepth 100000 in
set_option maxHeartbeats 4000000 in
theorem sgd_sound (hΓ : SoundG Tryz.prog Γ) (h1 : Γ 41 = ldC) (h2 : Γ 16 = bkNC) (h3 : Γ 119 = sverC) : SoundC Tryz.prog 64 sgdC := by
  refine sound_fn Tryz.func64 (by kernel_rfl) rfl rfl ?_
  intro args objs r0 hr
  obtain ⟨⟨⟨vw, ht, pa, ⟨jv, jh, jb, js⟩, txs, sig⟩, roots⟩, ⟨hl, hro⟩, rfl, rfl, rfl⟩ := mkC_inv hr
  refine ⟨rfl, by show 2 ≤ _; decide, fun E hN hns hF => ?_⟩
  refine vc_sound hΓ mixed _ _ _ ?_
  have hN := hN.trans nt_64
  have hl : txs.length ≤ 9223372036854775807 := hl
  have hro : roots.length ≤ 9223372036854775807 := hro
  have hrl := texts_length roots
  have q2 := bkN_at vw ht pa jv jh jb js txs sig hl
  have hnl := nameS_le ⟨vw, ht, pa, ⟨jv, jh, jb, js⟩, txs, sig⟩
  unfold Blk.av
  dsimp only
  by_cases c1 : roots = []
  · have g1 : ((roots.length : Int) == 0) = true := by rw [c1]; rfl
    have hS : sgS ⟨vw, ht, pa, ⟨jv, jh, jb, js⟩, txs, sig⟩ roots = false := if_pos c1
    rw [hS]
    simp only [runA, runB, runC, runD, runE, runF, fieldE, storeE, binE, ↓reduceIte, Nat.reduceLT, Nat.reduceLeDiff, Nat.reduceEqDiff, Nat.reduceAdd, Nat.reduceMul, Nat.reduceSub, reduceCtorEq, putAt, unE, Nat.reduceBEq, convE, buildE, List.replicate, Int.reduceLT, Int.reduceLE, Int.reduceToNat, mkE, mapSetE, hN, hF, ty_3, ty_4, ty_5, ty_9, ty_22, ty_24, ty_31, ty_33, ty_47, notIf, isEq, hrl, g1]
    simp only [runB, finC, finD, Option.isSome_some, Option.isSome_none, ↓reduceIte, Nat.reduceEqDiff, Nat.reduceAdd, Nat.reduceMul, forall_eq_or_imp, forall_eq, implies_true, Nat.reduceBEq, reduceCtorEq, false_implies, List.zip_cons_cons, List.zip_nil_left, List.zip_nil_right, Nat.reduceLeDiff, List.forall_mem_nil, rs_64, ty_3, ty_4, ty_5, ty_9, ty_22, ty_24, ty_31, ty_33, ty_47]
  have g1 : ((roots.length : Int) == 0) = false := beq_eq_false_iff_ne.2 (fun h => c1 (List.length_eq_zero_iff.1 (by omega)))
  have hpos : 0 < roots.length := List.length_pos_iff.2 c1
  obtain ⟨d, hd, hdl⟩ := ldS_lt vw hpos
  have hS : sgS ⟨vw, ht, pa, ⟨jv, jh, jb, js⟩, txs, sig⟩ roots = (verS (roots.getD d []) 4 (nameS ⟨vw, ht, pa, ⟨jv, jh, jb, js⟩, txs, sig⟩) sig).2 := by
    unfold sgS
    rw [if_neg c1]
    dsimp only
    rw [hd, Int.toNat_natCast]
  rw [hS]
  have q1 := ld_at vw (roots.length : Int)
  rw [hd] at q1
  have hg := textsD roots d hdl
  generalize nameS ⟨vw, ht, pa, ⟨jv, jh, jb, js⟩, txs, sig⟩ = nm at q2 hnl ⊢
  have q3 := sver_at (roots.getD d []) 4 nm sig (by omega)
  generalize verS (roots.getD d []) 4 nm sig = vv at q3 ⊢
  generalize roots.getD d [] = rt at q3 hg
  simp only [runA, runB, runC, runD, runE, runF, fieldE, storeE, binE, ↓reduceIte, Nat.reduceLT, Nat.reduceLeDiff, Nat.reduceEqDiff, Nat.reduceAdd, Nat.reduceMul, Nat.reduceSub, reduceCtorEq, putAt, unE, Nat.reduceBEq, convE, buildE, List.replicate, Int.reduceLT, Int.reduceLE, Int.reduceToNat, mkE, mapSetE, hN, hF, ty_3, ty_4, ty_5, ty_9, ty_22, ty_24, ty_31, ty_33, ty_47, notIf, isEq, hrl, g1, h1, q1, hg, h2, q2, h3, q3]
  refine drawnP_intro (by kernel_rfl) (by kernel_rfl) ?_
  simp only [runA, runB, runC, runD, runE, runF, fieldE, storeE, binE, ↓reduceIte, Nat.reduceLT, Nat.reduceLeDiff, Nat.reduceEqDiff, Nat.reduceAdd, Nat.reduceMul, Nat.reduceSub, reduceCtorEq, putAt, unE, Nat.reduceBEq, convE, buildE, List.replicate, Int.reduceLT, Int.reduceLE, Int.reduceToNat, mkE, mapSetE, hN, hF, ty_3, ty_4, ty_5, ty_9, ty_22, ty_24, ty_31, ty_33, ty_47, notIf, isEq, hrl, g1, h1, q1, hg, h2, q2, h3, q3]
  simp only [runB, finC, finD, Option.isSome_some, Option.isSome_none, ↓reduceIte, Nat.reduceEqDiff, Nat.reduceAdd, Nat.reduceMul, forall_eq_or_imp, forall_eq, implies_true, Nat.reduceBEq, reduceCtorEq, false_implies, List.zip_cons_cons, List.zip_nil_left, List.zip_nil_right, Nat.reduceLeDiff, List.forall_mem_nil, rs_64, ty_3, ty_4, ty_5, ty_9, ty_22, ty_24, ty_31, ty_33, ty_47]

noncomputable def vaTC : Contract := mkC (α := Txn × CfgB) (fun _ => True) (fun q => [q.1.av, .rptr [.sl (texts q.2.1.ro), .sl (texts q.2.1.cl), .int .i64 q.2.1.q, .int .i64 q.2.1.ba, .int .i64 q.2.1.ca]]) (fun _ => []) (fun q => ⟨[.pv (.c (.bool (badV q.2 q.1)))], []⟩)
theorem vaT_at (t : Txn) (ZZ : CfgB) : vaTC [.agg [.c (.int .i64 t.fr), .c (.int .i64 t.to), .c (.int .i64 t.am), .c (.int .i64 t.no), .c (.str t.sig)], .rptr [.sl (texts ZZ.1.ro), .sl (texts ZZ.1.cl), .int .i64 ZZ.1.q, .int .i64 ZZ.1.ba, .int .i64 ZZ.1.ca]] [] = some ⟨[.pv (.c (.bool (badV ZZ t)))], []⟩ :=
  mkC_at (α := Txn × CfgB) (t, ZZ) trivial (by
    rintro ⟨t', ⟨⟨x1, x2, x3, x4, x5⟩, hx⟩⟩ _ h _
    obtain ⟨⟨m1, m2, m3, m4, m5⟩, hm⟩ := ZZ
    have h' : [t'.av, .rptr [.sl (texts x1), .sl (texts x2), .int .i64 x3, .int .i64 x4, .int .i64 x5]] = [t.av, .rptr [.sl (texts m1), .sl (texts m2), .int .i64 m3, .int .i64 m4, .int .i64 m5]] := h
    simp only [List.cons.injEq, Txn.av_iff, AV.rptr.injEq, PC.sl.injEq, PC.int.injEq, texts_iff, true_and, and_true] at h'
    obtain ⟨rfl, rfl, rfl, rfl, rfl, rfl⟩ := h'
    rfl)
set_option maxHeartbeats 4000000 in
theorem vaT_sound (hΓ : SoundG Tryz.prog Γ) (h1 : Γ 68 = txVaC) : SoundC Tryz.prog 67 vaTC := by
  refine sound_fn Tryz.func67 (by kernel_rfl) rfl rfl ?_
  intro args objs r hr
  obtain ⟨⟨t, ⟨⟨x1, x2, x3, x4, x5⟩, hx⟩⟩, _, rfl, rfl, rfl⟩ := mkC_inv hr
  refine ⟨rfl, by show 2 ≤ _; decide, fun E hN hns hF => ?_⟩
  refine vc_sound hΓ mixed _ _ _ ?_
  have hN := hN.trans nt_67
  have q1 := txVa_at t x2 hx
  unfold Txn.av badV
  dsimp only at q1 ⊢
  generalize validT t x2 = v at q1 ⊢
  simp only [runA, runB, runC, runD, runE, runF, fieldE, storeE, binE, ↓reduceIte, Nat.reduceLT, Nat.reduceLeDiff, Nat.reduceEqDiff, Nat.reduceAdd, Nat.reduceMul, Nat.reduceSub, reduceCtorEq, putAt, unE, Nat.reduceBEq, convE, buildE, List.replicate, Int.reduceLT, Int.reduceLE, Int.reduceToNat, mkE, mapSetE, hN, hF, ty_3, ty_4, ty_9, ty_24, ty_36, ty_43, notIf, isEq, h1, q1]
  simp only [runB, finC, finD, Option.isSome_some, Option.isSome_none, ↓reduceIte, Nat.reduceEqDiff, Nat.reduceAdd, Nat.reduceMul, forall_eq_or_imp, forall_eq, implies_true, Nat.reduceBEq, reduceCtorEq, false_implies, List.zip_cons_cons, List.zip_nil_left, List.zip_nil_right, Nat.reduceLeDiff, List.forall_mem_nil, rs_67, ty_3, ty_4, ty_9, ty_24, ty_36, ty_43]
noncomputable def vaTIC : Contract := mkC (α := List Txn × CfgB) (fun q => q.1.length ≤ 9223372036854775807) (fun q => [.c (.sl (trows q.1)), .clo 67 [[.sl (texts q.2.1.ro), .sl (texts q.2.1.cl), .int .i64 q.2.1.q, .int .i64 q.2.1.ba, .int .i64 q.2.1.ca]]]) (fun _ => []) (fun q => ⟨[.pv (.c (.int .i64 (idxP (badV q.2) q.1)))], []⟩)
noncomputable def vaTFC : Contract := mkC (α := List Txn × CfgB) (fun q => q.1.length ≤ 9223372036854775807) (fun q => [.c (.sl (trows q.1)), .clo 67 [[.sl (texts q.2.1.ro), .sl (texts q.2.1.cl), .int .i64 q.2.1.q, .int .i64 q.2.1.ba, .int .i64 q.2.1.ca]]]) (fun _ => []) (fun q => ⟨[.pv (.c (.bool (q.1.any (badV q.2))))], []⟩)
theorem vaTI_at (l : List Txn) (ZZ : CfgB) (h : l.length ≤ 9223372036854775807) : vaTIC [.c (.sl (trows l)), .clo 67 [[.sl (texts ZZ.1.ro), .sl (texts ZZ.1.cl), .int .i64 ZZ.1.q, .int .i64 ZZ.1.ba, .int .i64 ZZ.1.ca]]] [] = some ⟨[.pv (.c (.int .i64 (idxP (badV ZZ) l)))], []⟩ :=
  mkC_at (α := List Txn × CfgB) (l, ZZ) h (by
    rintro y _ h _
    simp only [List.cons.injEq, AV.c.injEq, PC.sl.injEq, PC.str.injEq, PC.int.injEq, AV.clo.injEq, true_and, and_true, trows_iff, texts_iff] at h
    obtain ⟨h1, h2⟩ := h
    obtain ⟨y1, y2⟩ := y
    dsimp only at h1 h2
    rw [h1, cfgB_ext h2])
theorem vaTF_at (l : List Txn) (ZZ : CfgB) (h : l.length ≤ 9223372036854775807) : vaTFC [.c (.sl (trows l)), .clo 67 [[.sl (texts ZZ.1.ro), .sl (texts ZZ.1.cl), .int .i64 ZZ.1.q, .int .i64 ZZ.1.ba, .int .i64 ZZ.1.ca]]] [] = some ⟨[.pv (.c (.bool (l.any (badV ZZ))))], []⟩ :=
  mkC_at (α := List Txn × CfgB) (l, ZZ) h (by
    rintro y _ h _
    simp only [List.cons.injEq, AV.c.injEq, PC.sl.injEq, PC.str.injEq, PC.int.injEq, AV.clo.injEq, true_and, and_true, trows_iff, texts_iff] at h
    obtain ⟨h1, h2⟩ := h
    obtain ⟨y1, y2⟩ := y
    dsimp only at h1 h2
    rw [h1, cfgB_ext h2])
set_option maxHeartbeats 2000000 in
theorem vaTI_sound (hΓ : SoundG Tryz.prog Γ) (h1 : Γ 67 = vaTC) : SoundC Tryz.prog 122 vaTIC := by
  refine sound_fn Tryz.func122 (by kernel_rfl) rfl rfl ?_
  intro args objs r hr
  obtain ⟨⟨l, ZZ⟩, hl, rfl, rfl, rfl⟩ := mkC_inv hr
  have hl : l.length ≤ 9223372036854775807 := hl
  refine ⟨rfl, by show 2 ≤ _; decide, fun E hN hns hF => ?_⟩
  refine vc_sound hΓ mixed _ _ _ ?_
  have hN := hN.trans nt_122
  dsimp only
  simp only [runA, runB, runC, runD, runE, runF, fieldE, storeE, binE, ↓reduceIte, Nat.reduceLT, Nat.reduceLeDiff, Nat.reduceEqDiff, Nat.reduceAdd, Nat.reduceMul, Nat.reduceSub, reduceCtorEq, putAt, unE, Nat.reduceBEq, convE, buildE, List.replicate, Int.reduceLT, Int.reduceLE, Int.reduceToNat, mkE, mapSetE, hN, hF, ty_3, ty_9, ty_22, ty_36, notIf, isEq, trows_length, Txn.pcs]
  refine AWP.loop (fun k st => ∃ i : Nat, (i ≤ l.length ∧ ∀ k, k < i → (badV ZZ) (l.getD k zeroT) = false) ∧ k = l.length - i ∧ st = ⟨[(0, .c (.sl (trows l))), (1, .clo 67 [[.sl (texts ZZ.1.ro), .sl (texts ZZ.1.cl), .int .i64 ZZ.1.q, .int .i64 ZZ.1.ba, .int .i64 ZZ.1.ca]]), (7, .c (.int .i64 (l.length : Int))), (8, .c (.int .i64 (i : Int)))], []⟩) ⟨l.length, _, ?w, 0, ⟨Nat.zero_le _, fun k hk => absurd hk (by omega)⟩, rfl, rfl⟩ ?r
  case w =>
    rw [hns]
    simp only [runB, finC, finD, AS.get, AS.mem, false_implies, implies_true, ↓reduceIte, Nat.reduceEqDiff, Option.isSome_some, Option.isSome_none, forall_eq_or_imp, forall_eq, reduceCtorEq, Nat.reduceAdd, Nat.reduceMul, List.zip_cons_cons, List.zip_nil_left, List.zip_nil_right, List.forall_mem_nil]
    first | done | simp
  case r =>
    rintro k st ⟨i, ⟨hi, h8⟩, rfl, rfl⟩
    refine vc_sound hΓ mixed _ _ _ ?_
    by_cases hlt : i < l.length
    · have k1 : decide ((i : Int) < (l.length : Int)) = true := by simpa using hlt
      have e1 : IntKind.i64.wrap ((i : Int) + 1) = (i : Int) + 1 := wrapI (by omega)
      have hg := trowsD l i hlt
      unfold Txn.pcs at hg
      have hd := vaT_at (l.getD i zeroT) ZZ
      cases hp : (badV ZZ) (l.getD i zeroT) with
      | false =>
        have h8' : ∀ k, k < i + 1 → (badV ZZ) (l.getD k zeroT) = false := fun k hk => by
          by_cases e : k = i
          · rw [e]; exact hp
          · exact h8 k (by omega)
        rw [hp] at hd
        generalize l.getD i zeroT = y at hg hd
        simp only [runA, runB, runC, runD, runE, runF, fieldE, storeE, binE, ↓reduceIte, Nat.reduceLT, Nat.reduceLeDiff, Nat.reduceEqDiff, Nat.reduceAdd, Nat.reduceMul, Nat.reduceSub, reduceCtorEq, putAt, unE, Nat.reduceBEq, convE, buildE, List.replicate, Int.reduceLT, Int.reduceLE, Int.reduceToNat, mkE, mapSetE, hN, hF, ty_3, ty_9, ty_22, ty_36, notIf, isEq, k1, e1, hg, h1, hd]
        refine ⟨l.length - (i + 1), _, by omega, ?_, i + 1, ⟨by omega, h8'⟩, rfl, rfl⟩
        rw [hns]
        simp only [runB, finC, finD, AS.get, AS.mem, false_implies, implies_true, ↓reduceIte, Nat.reduceEqDiff, Option.isSome_some, Option.isSome_none, forall_eq_or_imp, forall_eq, reduceCtorEq, Nat.reduceAdd, Nat.reduceMul, List.zip_cons_cons, List.zip_nil_left, List.zip_nil_right, List.forall_mem_nil]
        first | done | simp
      | true =>
        have hS := idxP_some hlt hp h8
        rw [hp] at hd
        generalize l.getD i zeroT = y at hg hd
        simp only [runA, runB, runC, runD, runE, runF, fieldE, storeE, binE, ↓reduceIte, Nat.reduceLT, Nat.reduceLeDiff, Nat.reduceEqDiff, Nat.reduceAdd, Nat.reduceMul, Nat.reduceSub, reduceCtorEq, putAt, unE, Nat.reduceBEq, convE, buildE, List.replicate, Int.reduceLT, Int.reduceLE, Int.reduceToNat, mkE, mapSetE, hN, hF, ty_3, ty_9, ty_22, ty_36, notIf, isEq, k1, e1, hg, h1, hd]
        simp only [runB, finC, finD, Option.isSome_some, Option.isSome_none, ↓reduceIte, Nat.reduceEqDiff, Nat.reduceAdd, Nat.reduceMul, forall_eq_or_imp, forall_eq, implies_true, Nat.reduceBEq, reduceCtorEq, false_implies, List.zip_cons_cons, List.zip_nil_left, List.zip_nil_right, Nat.reduceLeDiff, List.forall_mem_nil, rs_122, hS]
    · have k1 : decide ((i : Int) < (l.length : Int)) = false := by simpa using hlt
      obtain rfl : i = l.length := by omega
      have hS := idxP_none h8
      simp only [runA, runB, runC, runD, runE, runF, fieldE, storeE, binE, ↓reduceIte, Nat.reduceLT, Nat.reduceLeDiff, Nat.reduceEqDiff, Nat.reduceAdd, Nat.reduceMul, Nat.reduceSub, reduceCtorEq, putAt, unE, Nat.reduceBEq, convE, buildE, List.replicate, Int.reduceLT, Int.reduceLE, Int.reduceToNat, mkE, mapSetE, hN, hF, ty_3, ty_9, ty_22, ty_36, notIf, isEq, k1]
      simp only [runB, finC, finD, Option.isSome_some, Option.isSome_none, ↓reduceIte, Nat.reduceEqDiff, Nat.reduceAdd, Nat.reduceMul, forall_eq_or_imp, forall_eq, implies_true, Nat.reduceBEq, reduceCtorEq, false_implies, List.zip_cons_cons, List.zip_nil_left, List.zip_nil_right, Nat.reduceLeDiff, List.forall_mem_nil, rs_122, hS]
set_option maxHeartbeats 1000000 in
theorem vaTF_sound (hΓ : SoundG Tryz.prog Γ) (h1 : Γ 122 = vaTIC) : SoundC Tryz.prog 66 vaTFC := by
  refine sound_fn Tryz.func66 (by kernel_rfl) rfl rfl ?_
  intro args objs r hr
  obtain ⟨⟨l, ZZ⟩, hl, rfl, rfl, rfl⟩ := mkC_inv hr
  have hl : l.length ≤ 9223372036854775807 := hl
  refine ⟨rfl, by show 2 ≤ _; decide, fun E hN hns hF => ?_⟩
  refine vc_sound hΓ mixed _ _ _ ?_
  have hN := hN.trans nt_66
  have h2 := vaTI_at l ZZ hl
  have h3 := idxP_ge (badV ZZ) l
  dsimp only
  simp only [runA, runB, runC, runD, runE, runF, fieldE, storeE, binE, ↓reduceIte, Nat.reduceLT, Nat.reduceLeDiff, Nat.reduceEqDiff, Nat.reduceAdd, Nat.reduceMul, Nat.reduceSub, reduceCtorEq, putAt, unE, Nat.reduceBEq, convE, buildE, List.replicate, Int.reduceLT, Int.reduceLE, Int.reduceToNat, mkE, mapSetE, hN, hF, ty_3, ty_4, ty_22, ty_36, notIf, isEq, h1, h2, h3]
  simp only [runB, finC, finD, Option.isSome_some, Option.isSome_none, ↓reduceIte, Nat.reduceEqDiff, Nat.reduceAdd, Nat.reduceMul, forall_eq_or_imp, forall_eq, implies_true, Nat.reduceBEq, reduceCtorEq, false_implies, List.zip_cons_cons, List.zip_nil_left, List.zip_nil_right, Nat.reduceLeDiff, List.forall_mem_nil, rs_66]


variable {Γ : FuncId → Contract}

noncomputable def bVaC : Contract := mkC (α := Blk × Cfg) (fun p => p.1.txs.length ≤ 9223372036854775807 ∧ p.1.ju.vs.length ≤ 9223372036854775807 ∧ p.2.ro.length ≤ 9223372036854775807 ∧ p.2.cl.length ≤ 9223372036854775807) (fun p => [p.1.av, p.2.av]) (fun p => []) (fun p => ⟨[.pv (.c (.bool (vaS p.1 p.2)))], []⟩)
theorem bVa_at (bvw : Int) (bht : Int) (bpa : List UInt8) (bjvw : Int) (bjht : Int) (bjbl : List UInt8) (bjvs : List Vt) (btxs : List Txn) (bsig : List UInt8) (cro : List (List UInt8)) (ccl : List (List UInt8)) (cq : Int) (cba : Int) (cca : Int) (g0 : btxs.length ≤ 9223372036854775807) (g1 : bjvs.length ≤ 9223372036854775807) (g2 : cro.length ≤ 9223372036854775807) (g3 : ccl.length ≤ 9223372036854775807) : bVaC [(.agg [.c (.int .i64 bvw), .c (.int .i64 bht), .c (.str bpa), .c (.int .i64 bjvw), .c (.int .i64 bjht), .c (.str bjbl), .c (.sl (votes bjvs)), .c (.sl (trows btxs)), .c (.str bsig)]), (.agg [.c (.sl (texts cro)), .c (.sl (texts ccl)), .c (.int .i64 cq), .c (.int .i64 cba), .c (.int .i64 cca)])] [] = some ⟨[.pv (.c (.bool (vaS (⟨bvw, bht, bpa, ⟨bjvw, bjht, bjbl, bjvs⟩, btxs, bsig⟩ : Blk) (⟨cro, ccl, cq, cba, cca⟩ : Cfg))))], []⟩ := by
  exact mkC_at (α := Blk × Cfg) (⟨bvw, bht, bpa, ⟨bjvw, bjht, bjbl, bjvs⟩, btxs, bsig⟩, ⟨cro, ccl, cq, cba, cca⟩) ⟨g0, g1, g2, g3⟩ (by
    rintro ⟨b', c'⟩ _ h ho
    have hh := And.intro h ho
    clear h ho
    simp only [List.cons.injEq, AV.c.injEq, AV.agg.injEq, PC.int.injEq, PC.str.injEq, PC.bool.injEq, PC.sl.injEq, OV.c.injEq, OV.own.injEq, OV.mp.injEq, bytes_iff, texts_iff, true_and, and_true, and_self, beq_self_eq_true, Blk.av_iff, Cfg.av_iff] at hh
    simp only [hh])

set_option maxRecDepth 100000 in
set_option maxHeartbeats 4000000 in
theorem bVa_sound (hΓ : SoundG Tryz.prog Γ) (h1 : Γ 45 = bkCkC) (h2 : Γ 64 = sgdC) (h3 : Γ 65 = ceckC) (h4 : Γ 66 = vaTFC) : SoundC Tryz.prog 21 bVaC := by
  refine sound_fn Tryz.func21 (by kernel_rfl) rfl rfl ?_
  intro args objs r0 hr
  obtain ⟨⟨⟨vw, ht, pa, ⟨jv, jh, jb, js⟩, txs, sig⟩, ⟨ro, cl, q, ba, ca⟩⟩, ⟨h1l, h2l, h3l, h4l⟩, rfl, rfl, rfl⟩ := mkC_inv hr
  refine ⟨rfl, by show 2 ≤ _; decide, fun E hN hns hF => ?_⟩
  refine vc_sound hΓ mixed _ _ _ ?_
  have hN := hN.trans nt_21
  have h1l : txs.length ≤ 9223372036854775807 := h1l
  have h2l : js.length ≤ 9223372036854775807 := h2l
  have h3l : ro.length ≤ 9223372036854775807 := h3l
  have h4l : cl.length ≤ 9223372036854775807 := h4l
  have hrl := texts_length ro
  have htl := trows_length txs
  have nt1 : (!true) = false := rfl
  have ntf : (!false) = true := rfl
  have b0 : ((0 : Int) != 0) = false := rfl
  have b9 : ((9 : Int) != 0) = true := rfl
  have b41 : ((41 : Int) != 0) = true := rfl
  have qk := bkCk_at ⟨vw, ht, pa, ⟨jv, jh, jb, js⟩, txs, sig⟩ h1l
  have hV : vaS ⟨vw, ht, pa, ⟨jv, jh, jb, js⟩, txs, sig⟩ ⟨ro, cl, q, ba, ca⟩ = (decide (okB ⟨vw, ht, pa, ⟨jv, jh, jb, js⟩, txs, sig⟩) && (sgS ⟨vw, ht, pa, ⟨jv, jh, jb, js⟩, txs, sig⟩ ro && (decide (ctS ⟨jv, jh, jb, js⟩ ro q = 0) && txs.all fun t => validT t cl))) := rfl
  rw [hV]
  have qs := sgd_at vw ht pa jv jh jb js txs sig ro h1l h3l
  have qc := ceck_at jv jh jb js ro q h2l h3l
  have qt := vaTF_at txs ⟨⟨ro, cl, q, ba, ca⟩, h4l⟩ h1l
  have hany := any_badV txs ⟨⟨ro, cl, q, ba, ca⟩, h4l⟩
  have hcv := ctS_val ⟨jv, jh, jb, js⟩ ro q
  unfold Blk.av Cfg.av
  dsimp only at qk qt hany ⊢
  generalize txs.any (badV ⟨⟨ro, cl, q, ba, ca⟩, h4l⟩) = an at qt hany
  generalize sgS ⟨vw, ht, pa, ⟨jv, jh, jb, js⟩, txs, sig⟩ ro = sg at qs ⊢
  generalize ctS ⟨jv, jh, jb, js⟩ ro q = ct at qc hcv ⊢
  rw [← hany]
  by_cases hk : okB ⟨vw, ht, pa, ⟨jv, jh, jb, js⟩, txs, sig⟩
  case neg =>
    rw [show bkS ⟨vw, ht, pa, ⟨jv, jh, jb, js⟩, txs, sig⟩ = 9 from if_neg hk] at qk
    rw [decide_eq_false hk, Bool.false_and]
    simp only [runA, runB, runC, runD, runE, runF, fieldE, storeE, binE, ↓reduceIte, Nat.reduceLT, Nat.reduceLeDiff, Nat.reduceEqDiff, Nat.reduceAdd, Nat.reduceMul, Nat.reduceSub, reduceCtorEq, putAt, unE, Nat.reduceBEq, convE, buildE, List.replicate, Int.reduceLT, Int.reduceLE, Int.reduceToNat, mkE, mapSetE, hN, hF, ty_3, ty_4, ty_9, ty_22, ty_24, ty_29, ty_31, ty_33, ty_36, ty_37, ty_43, notIf, isEq, hrl, htl, nt1, ntf, b0, b9, b41, h1, qk]
    simp only [runB, finC, finD, Option.isSome_some, Option.isSome_none, ↓reduceIte, Nat.reduceEqDiff, Nat.reduceAdd, Nat.reduceMul, forall_eq_or_imp, forall_eq, implies_true, Nat.reduceBEq, reduceCtorEq, false_implies, List.zip_cons_cons, List.zip_nil_left, List.zip_nil_right, Nat.reduceLeDiff, List.forall_mem_nil, rs_21, ty_3, ty_4, ty_9, ty_22, ty_24, ty_29, ty_31, ty_33, ty_36, ty_37, ty_43]
  rw [show bkS ⟨vw, ht, pa, ⟨jv, jh, jb, js⟩, txs, sig⟩ = 0 from if_pos hk] at qk
  rw [decide_eq_true hk, Bool.true_and]
  cases sg with
  | false =>
    rw [Bool.false_and]
    simp only [runA, runB, runC, runD, runE, runF, fieldE, storeE, binE, ↓reduceIte, Nat.reduceLT, Nat.reduceLeDiff, Nat.reduceEqDiff, Nat.reduceAdd, Nat.reduceMul, Nat.reduceSub, reduceCtorEq, putAt, unE, Nat.reduceBEq, convE, buildE, List.replicate, Int.reduceLT, Int.reduceLE, Int.reduceToNat, mkE, mapSetE, hN, hF, ty_3, ty_4, ty_9, ty_22, ty_24, ty_29, ty_31, ty_33, ty_36, ty_37, ty_43, notIf, isEq, hrl, htl, nt1, ntf, b0, b9, b41, h1, qk, h2, qs]
    simp only [runB, finC, finD, Option.isSome_some, Option.isSome_none, ↓reduceIte, Nat.reduceEqDiff, Nat.reduceAdd, Nat.reduceMul, forall_eq_or_imp, forall_eq, implies_true, Nat.reduceBEq, reduceCtorEq, false_implies, List.zip_cons_cons, List.zip_nil_left, List.zip_nil_right, Nat.reduceLeDiff, List.forall_mem_nil, rs_21, ty_3, ty_4, ty_9, ty_22, ty_24, ty_29, ty_31, ty_33, ty_36, ty_37, ty_43]
  | true =>
  rw [Bool.true_and]
  rcases hcv with rfl | rfl
  · rw [decide_eq_true rfl, Bool.true_and]
    simp only [runA, runB, runC, runD, runE, runF, fieldE, storeE, binE, ↓reduceIte, Nat.reduceLT, Nat.reduceLeDiff, Nat.reduceEqDiff, Nat.reduceAdd, Nat.reduceMul, Nat.reduceSub, reduceCtorEq, putAt, unE, Nat.reduceBEq, convE, buildE, List.replicate, Int.reduceLT, Int.reduceLE, Int.reduceToNat, mkE, mapSetE, hN, hF, ty_3, ty_4, ty_9, ty_22, ty_24, ty_29, ty_31, ty_33, ty_36, ty_37, ty_43, notIf, isEq, hrl, htl, nt1, ntf, b0, b9, b41, h1, qk, h2, qs, h3, qc, h4, qt, op_makeFuncC, capE_nil, capE_ptr]
    simp only [runB, finC, finD, Option.isSome_some, Option.isSome_none, ↓reduceIte, Nat.reduceEqDiff, Nat.reduceAdd, Nat.reduceMul, forall_eq_or_imp, forall_eq, implies_true, Nat.reduceBEq, reduceCtorEq, false_implies, List.zip_cons_cons, List.zip_nil_left, List.zip_nil_right, Nat.reduceLeDiff, List.forall_mem_nil, rs_21, ty_3, ty_4, ty_9, ty_22, ty_24, ty_29, ty_31, ty_33, ty_36, ty_37, ty_43]
  · rw [decide_eq_false (by decide), Bool.false_and]
    simp only [runA, runB, runC, runD, runE, runF, fieldE, storeE, binE, ↓reduceIte, Nat.reduceLT, Nat.reduceLeDiff, Nat.reduceEqDiff, Nat.reduceAdd, Nat.reduceMul, Nat.reduceSub, reduceCtorEq, putAt, unE, Nat.reduceBEq, convE, buildE, List.replicate, Int.reduceLT, Int.reduceLE, Int.reduceToNat, mkE, mapSetE, hN, hF, ty_3, ty_4, ty_9, ty_22, ty_24, ty_29, ty_31, ty_33, ty_36, ty_37, ty_43, notIf, isEq, hrl, htl, nt1, ntf, b0, b9, b41, h1, qk, h2, qs, h3, qc]
    simp only [runB, finC, finD, Option.isSome_some, Option.isSome_none, ↓reduceIte, Nat.reduceEqDiff, Nat.reduceAdd, Nat.reduceMul, forall_eq_or_imp, forall_eq, implies_true, Nat.reduceBEq, reduceCtorEq, false_implies, List.zip_cons_cons, List.zip_nil_left, List.zip_nil_right, Nat.reduceLeDiff, List.forall_mem_nil, rs_21, ty_3, ty_4, ty_9, ty_22, ty_24, ty_29, ty_31, ty_33, ty_36, ty_37, ty_43]

def alive10C : Contract := fun args objs => match args, objs with | [], [] => some ⟨[.pv (.c (.bool true))], []⟩ | _, _ => none
set_option maxHeartbeats 1000000 in
theorem alive10_sound (hΓ : SoundG Tryz.prog Γ) (h1 : Γ 41 = ldC) (h2 : Γ 42 = genC) : SoundC Tryz.prog 7 alive10C := by
  refine sound_fn Tryz.func7 (by kernel_rfl) rfl rfl ?_
  intro args objs r hr
  unfold alive10C at hr
  split at hr
  · cases hr
    refine ⟨rfl, by show 0 ≤ _; decide, fun E hN hns hF => ?_⟩
    refine vc_sound hΓ mixed _ _ _ ?_
    have hN := hN.trans nt_7
    have q1 : ldC [.c (.int .i64 5), .c (.int .i64 4)] [] = some ⟨[.pv (.c (.int .i64 1))], []⟩ := ld_at 5 4
    have q2 : genC [] [] = some ⟨[.pv (.c (.str genS))], []⟩ := rfl
    have b1 : ((1 : Int) == 1) = true := rfl
    have hlen : (genS.length : Int) = 32 := rfl
    have b2 : ((32 : Int) == 32) = true := rfl
    generalize genS = g at q2 hlen
    simp only [runA, runB, runC, runD, runE, runF, fieldE, storeE, binE, ↓reduceIte, Nat.reduceLT, Nat.reduceLeDiff, Nat.reduceEqDiff, Nat.reduceAdd, Nat.reduceMul, Nat.reduceSub, reduceCtorEq, putAt, unE, Nat.reduceBEq, convE, buildE, List.replicate, Int.reduceLT, Int.reduceLE, Int.reduceToNat, mkE, mapSetE, hN, hF, ty_3, ty_4, ty_9, notIf, isEq, h1, h2, q1, q2, b1, hlen, b2]
    simp only [runB, finC, finD, Option.isSome_some, Option.isSome_none, ↓reduceIte, Nat.reduceEqDiff, Nat.reduceAdd, Nat.reduceMul, forall_eq_or_imp, forall_eq, implies_true, Nat.reduceBEq, reduceCtorEq, false_implies, List.zip_cons_cons, List.zip_nil_left, List.zip_nil_right, Nat.reduceLeDiff, List.forall_mem_nil, rs_7, ty_3, ty_4, ty_9]
  · cases hr
end Go.Proofs.YtenmlgalcjkdbaaGreat.AM
