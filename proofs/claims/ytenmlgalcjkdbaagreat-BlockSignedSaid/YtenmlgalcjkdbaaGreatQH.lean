/-
  QH: Vo6 Bv1 Bv2 Bv0 Bv3 Bv4.
-/
import Derived.Test.YtenmlgalcjkdbaaGreatQG
import Derived.Test.YtenmlgalcjkdbaaGreatQ9
import Derived.Test.YtenmlgalcjkdbaaGreatQF
import Derived.Test.YtenmlgalcjkdbaaGreatQB
set_option linter.unusedVariables false
set_option linter.unusedSimpArgs false
namespace Go.Proofs.YtenmlgalcjkdbaaGreat.AM
open Go

variable {Γ : FuncId → Contract}


variable {Γ : FuncId → Contract}



variable {Γ : FuncId → Contract}



variable {Γ : FuncId → Contract}

theorem op_makeFuncC {Γ : FuncId → Contract} {P : Program} {M : List Nat} {d : Option Tmp} {ty : TypeId} {pos : String} {af : Array Edge} {g : Option (Nat × Bool)} {ρ : Operand → AV} (f : FuncId) (cp : Array Operand) : opE Γ P M ⟨d, .makeFunc (.func f) #[] cp, ty, pos, af, g⟩ ρ = ((capE (cp.toList.map ρ)).bind fun r => .ret ⟨.clo f r.1, r.2⟩) := by
  show (if (#[] : Array Operand) = #[] then ((capE (cp.toList.map ρ)).bind fun r => (.ret ⟨.clo f r.1, r.2⟩ : EP Eff)) else .fail) = _
  rw [if_pos rfl]
theorem capE_nil : capE [] = .ret ([], []) := rfl
theorem capE_ptr (n : Nat) (l : List AV) : capE (.ptr n 0 :: l) = .ask n fun
      | some (.obj cells _) => match toPCs cells with
        | some cs => (capE l).bind fun r => .ret (cs :: r.1, (n, .obj cells true) :: r.2)
        | none => .fail
      | _ => .fail := rfl
theorem eqg_mk : Tryz.prog.eqGuardType Tryz.prog.depth 74 = false := by kernel_rfl
theorem eq_mk (a b : Mk) : eqE Tryz.prog 10000 74 [.int .i64 a.vw, .int .i64 a.ht, .str a.bl] [.int .i64 b.vw, .int .i64 b.ht, .str b.bl] = some (decide (a = b)) := by
  have h : eqE Tryz.prog 10000 74 [.int .i64 a.vw, .int .i64 a.ht, .str a.bl] [.int .i64 b.vw, .int .i64 b.ht, .str b.bl] = some ((a.vw == b.vw) && ((a.ht == b.ht) && ((a.bl == b.bl) && true))) := by kernel_rfl
  refine h.trans (congrArg some ?_)
  obtain ⟨a1, a2, a3⟩ := a
  obtain ⟨b1, b2, b3⟩ := b
  rw [Bool.eq_iff_iff, decide_eq_true_iff, Mk.mk.injEq, Bool.and_eq_true, Bool.and_eq_true, Bool.and_eq_true, beq_iff_eq, beq_iff_eq, beq_iff_eq]
  exact ⟨fun ⟨x, y, z, _⟩ => ⟨x, y, z⟩, fun ⟨x, y, z⟩ => ⟨x, y, z, rfl⟩⟩
noncomputable def cmkC : Contract := mkC (α := Ct) (fun p => True) (fun p => [p.av]) (fun p => []) (fun p => ⟨[.pv (Mk.av ⟨p.vw, p.ht, p.bl⟩)], []⟩)
theorem cmk_at (cvw : Int) (cht : Int) (cbl : List UInt8) (cvs : List Vt) : cmkC [(.agg [.c (.int .i64 cvw), .c (.int .i64 cht), .c (.str cbl), .c (.sl (votes cvs))])] [] = some ⟨[.pv (Mk.av ⟨cvw, cht, cbl⟩)], []⟩ := by
  exact mkC_at (α := Ct) ⟨cvw, cht, cbl, cvs⟩ trivial (by
    rintro c' _ h ho
    have hh := And.intro h ho
    clear h ho
    simp only [List.cons.injEq, AV.c.injEq, AV.agg.injEq, PC.int.injEq, PC.str.injEq, PC.bool.injEq, PC.sl.injEq, OV.c.injEq, OV.own.injEq, OV.mp.injEq, bytes_iff, texts_iff, true_and, and_true, and_self, beq_self_eq_true, Ct.av_iff] at hh
    simp only [hh])

set_option maxRecDepth 100000 in
set_option maxHeartbeats 4000000 in
theorem cmk_sound  : SoundC Tryz.prog 80 cmkC := by
  refine sound_fn Tryz.func80 (by kernel_rfl) rfl rfl ?_
  intro args objs r0 hr
  obtain ⟨⟨a1, a2, a3, a4⟩, _, rfl, rfl, rfl⟩ := mkC_inv hr
  refine ⟨rfl, by show 1 ≤ _; decide, fun E hN hns hF => ?_⟩
  refine vc_sound none0_sound mixed _ _ _ ?_
  have hN := hN.trans nt_80
  unfold Ct.av Mk.av
  dsimp only
  simp only [runA, runB, runC, runD, runE, runF, fieldE, storeE, binE, ↓reduceIte, Nat.reduceLT, Nat.reduceLeDiff, Nat.reduceEqDiff, Nat.reduceAdd, Nat.reduceMul, Nat.reduceSub, reduceCtorEq, putAt, unE, Nat.reduceBEq, convE, buildE, List.replicate, Int.reduceLT, Int.reduceLE, Int.reduceToNat, mkE, mapSetE, hN, hF, ty_3, ty_9, ty_29, ty_31, ty_74, notIf, isEq]
  simp only [runB, finC, finD, Option.isSome_some, Option.isSome_none, ↓reduceIte, Nat.reduceEqDiff, Nat.reduceAdd, Nat.reduceMul, forall_eq_or_imp, forall_eq, implies_true, Nat.reduceBEq, reduceCtorEq, false_implies, List.zip_cons_cons, List.zip_nil_left, List.zip_nil_right, Nat.reduceLeDiff, List.forall_mem_nil, rs_80, ty_3, ty_9, ty_29, ty_31, ty_74]


variable {Γ : FuncId → Contract}


def isV (m : Mk) (v : Vt) : Bool := (v.kd == 1) && decide ((⟨v.vw, v.ht, v.bl⟩ : Mk) = m)
noncomputable def stepC (c : Ct) (roots : List (List UInt8)) (i : Nat) : Bool :=
  isV ⟨c.vw, c.ht, c.bl⟩ (c.vs.getD i zeroV) && ((decide (i = 0) || decide ((c.vs.getD (i - 1) zeroV).sg < (c.vs.getD i zeroV).sg)) && validV (c.vs.getD i zeroV) roots)
open Classical in
noncomputable def ctS (c : Ct) (roots : List (List UInt8)) (q : Int) : Int :=
  if c.vs = [] ∧ (⟨c.vw, c.ht, c.bl⟩ : Mk) = ⟨0, 0, genS⟩ then 0 else if q < 1 ∨ (c.vs.length : Int) ≠ q then 41 else if ∀ i, i < c.vs.length → stepC c roots i = true then 0 else 41
noncomputable def vAbC : Contract := mkC (α := Vt) (fun p => True) (fun p => [p.av]) (fun p => []) (fun p => ⟨[.pv (Mk.av ⟨p.vw, p.ht, p.bl⟩)], []⟩)
theorem vAb_at (vkd : Int) (vvw : Int) (vht : Int) (vbl : List UInt8) (vtk : Int) (vsg : Int) (vsig : List UInt8) : vAbC [(.agg [.c (.int .i64 vkd), .c (.int .i64 vvw), .c (.int .i64 vht), .c (.str vbl), .c (.int .i64 vtk), .c (.int .i64 vsg), .c (.str vsig)])] [] = some ⟨[.pv (Mk.av ⟨vvw, vht, vbl⟩)], []⟩ := by
  exact mkC_at (α := Vt) ⟨vkd, vvw, vht, vbl, vtk, vsg, vsig⟩ trivial (by
    rintro v' _ h ho
    have hh := And.intro h ho
    clear h ho
    simp only [List.cons.injEq, AV.c.injEq, AV.agg.injEq, PC.int.injEq, PC.str.injEq, PC.bool.injEq, PC.sl.injEq, OV.c.injEq, OV.own.injEq, OV.mp.injEq, bytes_iff, texts_iff, true_and, and_true, and_self, beq_self_eq_true, Vt.av_iff] at hh
    simp only [hh])

set_option maxRecDepth 100000 in
set_option maxHeartbeats 4000000 in
theorem vAb_sound  : SoundC Tryz.prog 169 vAbC := by
  refine sound_fn Tryz.func169 (by kernel_rfl) rfl rfl ?_
  intro args objs r0 hr
  obtain ⟨⟨kd, vw, ht, bl, tk, sg, sig⟩, _, rfl, rfl, rfl⟩ := mkC_inv hr
  refine ⟨rfl, by show 1 ≤ _; decide, fun E hN hns hF => ?_⟩
  refine vc_sound none0_sound mixed _ _ _ ?_
  have hN := hN.trans nt_169
  unfold Vt.av Mk.av
  dsimp only
  simp only [runA, runB, runC, runD, runE, runF, fieldE, storeE, binE, ↓reduceIte, Nat.reduceLT, Nat.reduceLeDiff, Nat.reduceEqDiff, Nat.reduceAdd, Nat.reduceMul, Nat.reduceSub, reduceCtorEq, putAt, unE, Nat.reduceBEq, convE, buildE, List.replicate, Int.reduceLT, Int.reduceLE, Int.reduceToNat, mkE, mapSetE, hN, hF, ty_3, ty_9, ty_74, ty_97, notIf, isEq]
  simp only [runB, finC, finD, Option.isSome_some, Option.isSome_none, ↓reduceIte, Nat.reduceEqDiff, Nat.reduceAdd, Nat.reduceMul, forall_eq_or_imp, forall_eq, implies_true, Nat.reduceBEq, reduceCtorEq, false_implies, List.zip_cons_cons, List.zip_nil_left, List.zip_nil_right, Nat.reduceLeDiff, List.forall_mem_nil, rs_169, ty_3, ty_9, ty_74, ty_97]

noncomputable def abtIC : Contract := mkC (α := Vt × Mk) (fun _ => True) (fun q => [q.1.av, .rptr [.int .i64 q.2.vw, .int .i64 q.2.ht, .str q.2.bl]]) (fun _ => []) (fun q => ⟨[.pv (.c (.bool (isV q.2 q.1)))], []⟩)
theorem abtI_at (y : Vt) (m : Mk) : abtIC [.agg [.c (.int .i64 y.kd), .c (.int .i64 y.vw), .c (.int .i64 y.ht), .c (.str y.bl), .c (.int .i64 y.tk), .c (.int .i64 y.sg), .c (.str y.sig)], .rptr [.int .i64 m.vw, .int .i64 m.ht, .str m.bl]] [] = some ⟨[.pv (.c (.bool (isV m y)))], []⟩ :=
  mkC_at (α := Vt × Mk) (y, m) trivial (by
    rintro ⟨t', ⟨x1, x2, x3⟩⟩ _ h _
    obtain ⟨m1, m2, m3⟩ := m
    have h' : [t'.av, .rptr [.int .i64 x1, .int .i64 x2, .str x3]] = [y.av, .rptr [.int .i64 m1, .int .i64 m2, .str m3]] := h
    simp only [List.cons.injEq, Vt.av_iff, AV.rptr.injEq, PC.str.injEq, PC.int.injEq, true_and, and_true] at h'
    obtain ⟨rfl, rfl, rfl, rfl⟩ := h'
    rfl)
set_option maxHeartbeats 4000000 in
theorem abtI_sound (hΓ : SoundG Tryz.prog Γ) (h1 : Γ 169 = vAbC) : SoundC Tryz.prog 168 abtIC := by
  refine sound_fn Tryz.func168 (by kernel_rfl) rfl rfl ?_
  intro args objs r hr
  obtain ⟨⟨⟨kd, vw, ht, bl, tk, sg, sig⟩, ⟨m1, m2, m3⟩⟩, _, rfl, rfl, rfl⟩ := mkC_inv hr
  refine ⟨rfl, by show 2 ≤ _; decide, fun E hN hns hF => ?_⟩
  refine vc_sound hΓ mixed _ _ _ ?_
  have hN := hN.trans nt_168
  have q1 := vAb_at kd vw ht bl tk sg sig
  have q2 := eq_mk ⟨vw, ht, bl⟩ ⟨m1, m2, m3⟩
  unfold Vt.av isV
  unfold Mk.av at q1
  dsimp only at q1 q2 ⊢
  generalize decide ((⟨vw, ht, bl⟩ : Mk) = ⟨m1, m2, m3⟩) = e at q2 ⊢
  cases k1 : kd == 1 with
  | true =>
    simp only [runA, runB, runC, runD, runE, runF, fieldE, storeE, binE, ↓reduceIte, Nat.reduceLT, Nat.reduceLeDiff, Nat.reduceEqDiff, Nat.reduceAdd, Nat.reduceMul, Nat.reduceSub, reduceCtorEq, putAt, unE, Nat.reduceBEq, convE, buildE, List.replicate, Int.reduceLT, Int.reduceLE, Int.reduceToNat, mkE, mapSetE, hN, hF, ty_3, ty_4, ty_9, ty_74, ty_97, notIf, isEq, k1, h1, q1, eqg_mk, q2, Bool.true_and]
    refine drawnP_intro (by kernel_rfl) (by kernel_rfl) ?_
    simp only [runA, runB, runC, runD, runE, runF, fieldE, storeE, binE, ↓reduceIte, Nat.reduceLT, Nat.reduceLeDiff, Nat.reduceEqDiff, Nat.reduceAdd, Nat.reduceMul, Nat.reduceSub, reduceCtorEq, putAt, unE, Nat.reduceBEq, convE, buildE, List.replicate, Int.reduceLT, Int.reduceLE, Int.reduceToNat, mkE, mapSetE, hN, hF, ty_3, ty_4, ty_9, ty_74, ty_97, notIf, isEq, k1, h1, q1, eqg_mk, q2, Bool.true_and]
    simp only [runB, finC, finD, Option.isSome_some, Option.isSome_none, ↓reduceIte, Nat.reduceEqDiff, Nat.reduceAdd, Nat.reduceMul, forall_eq_or_imp, forall_eq, implies_true, Nat.reduceBEq, reduceCtorEq, false_implies, List.zip_cons_cons, List.zip_nil_left, List.zip_nil_right, Nat.reduceLeDiff, List.forall_mem_nil, rs_168, ty_3, ty_4, ty_9, ty_74, ty_97]
  | false =>
    simp only [runA, runB, runC, runD, runE, runF, fieldE, storeE, binE, ↓reduceIte, Nat.reduceLT, Nat.reduceLeDiff, Nat.reduceEqDiff, Nat.reduceAdd, Nat.reduceMul, Nat.reduceSub, reduceCtorEq, putAt, unE, Nat.reduceBEq, convE, buildE, List.replicate, Int.reduceLT, Int.reduceLE, Int.reduceToNat, mkE, mapSetE, hN, hF, ty_3, ty_4, ty_9, ty_74, ty_97, notIf, isEq, k1, Bool.false_and]
    refine drawnP_intro (by kernel_rfl) (by kernel_rfl) ?_
    simp only [runA, runB, runC, runD, runE, runF, fieldE, storeE, binE, ↓reduceIte, Nat.reduceLT, Nat.reduceLeDiff, Nat.reduceEqDiff, Nat.reduceAdd, Nat.reduceMul, Nat.reduceSub, reduceCtorEq, putAt, unE, Nat.reduceBEq, convE, buildE, List.replicate, Int.reduceLT, Int.reduceLE, Int.reduceToNat, mkE, mapSetE, hN, hF, ty_3, ty_4, ty_9, ty_74, ty_97, notIf, isEq, k1, Bool.false_and]
    simp only [runB, finC, finD, Option.isSome_some, Option.isSome_none, ↓reduceIte, Nat.reduceEqDiff, Nat.reduceAdd, Nat.reduceMul, forall_eq_or_imp, forall_eq, implies_true, Nat.reduceBEq, reduceCtorEq, false_implies, List.zip_cons_cons, List.zip_nil_left, List.zip_nil_right, Nat.reduceLeDiff, List.forall_mem_nil, rs_168, ty_3, ty_4, ty_9, ty_74, ty_97]

noncomputable def abtC : Contract := mkC (α := Mk) (fun _ => True) (fun m => [m.av]) (fun _ => []) (fun m => ⟨[.pv (.clo 168 [[.int .i64 m.vw, .int .i64 m.ht, .str m.bl]])], []⟩)
theorem abt_at (a b : Int) (c : List UInt8) : abtC [.agg [.c (.int .i64 a), .c (.int .i64 b), .c (.str c)]] [] = some ⟨[.pv (.clo 168 [[.int .i64 a, .int .i64 b, .str c]])], []⟩ :=
  mkC_at (α := Mk) ⟨a, b, c⟩ trivial (by
    rintro t' _ h _
    have h' : [t'.av] = [Mk.av ⟨a, b, c⟩] := h
    simp only [List.cons.injEq, Mk.av_iff, and_true] at h'
    rw [h'])
set_option maxHeartbeats 4000000 in
theorem abt_sound : SoundC Tryz.prog 120 abtC := by
  refine sound_fn Tryz.func120 (by kernel_rfl) rfl rfl ?_
  intro args objs r hr
  obtain ⟨⟨m1, m2, m3⟩, _, rfl, rfl, rfl⟩ := mkC_inv hr
  refine ⟨rfl, by show 1 ≤ _; decide, fun E hN hns hF => ?_⟩
  refine vc_sound none0_sound mixed _ _ _ ?_
  have hN := hN.trans nt_120
  unfold Mk.av
  dsimp only
  simp only [runA, runB, runC, runD, runE, runF, fieldE, storeE, binE, ↓reduceIte, Nat.reduceLT, Nat.reduceLeDiff, Nat.reduceEqDiff, Nat.reduceAdd, Nat.reduceMul, Nat.reduceSub, reduceCtorEq, putAt, unE, Nat.reduceBEq, convE, buildE, List.replicate, Int.reduceLT, Int.reduceLE, Int.reduceToNat, mkE, mapSetE, hN, hF, ty_3, ty_9, ty_74, notIf, isEq, op_makeFuncC, capE_nil, capE_ptr]
  simp only [runB, finC, finD, Option.isSome_some, Option.isSome_none, ↓reduceIte, Nat.reduceEqDiff, Nat.reduceAdd, Nat.reduceMul, forall_eq_or_imp, forall_eq, implies_true, Nat.reduceBEq, reduceCtorEq, false_implies, List.zip_cons_cons, List.zip_nil_left, List.zip_nil_right, Nat.reduceLeDiff, List.forall_mem_nil, rs_120, ty_3, ty_9, ty_74]


variable {Γ : FuncId → Contract}


theorem stepC_def (cvw cht : Int) (cbl : List UInt8) (cvs : List Vt) (roots : List (List UInt8)) (i : Nat) : stepC ⟨cvw, cht, cbl, cvs⟩ roots i = (isV ⟨cvw, cht, cbl⟩ (cvs.getD i zeroV) && ((decide (i = 0) || decide ((cvs.getD (i - 1) zeroV).sg < (cvs.getD i zeroV).sg)) && validV (cvs.getD i zeroV) roots)) := rfl
theorem votesG (l : List Vt) (i : Nat) (h : i < l.length) : (votes l)[i]? = some [.int .i64 (l.getD i zeroV).kd, .int .i64 (l.getD i zeroV).vw, .int .i64 (l.getD i zeroV).ht, .str (l.getD i zeroV).bl, .int .i64 (l.getD i zeroV).tk, .int .i64 (l.getD i zeroV).sg, .str (l.getD i zeroV).sig] := votesD l i h
noncomputable def ceckC : Contract := mkC (α := Ct × List (List UInt8) × Int) (fun p => p.1.vs.length ≤ 9223372036854775807 ∧ p.2.1.length ≤ 9223372036854775807) (fun p => [p.1.av, .c (.sl (texts p.2.1)), .c (.int .i64 p.2.2)]) (fun p => []) (fun p => ⟨[.pv (.c (.int .i64 (ctS p.1 p.2.1 p.2.2)))], []⟩)
theorem ceck_at (cvw : Int) (cht : Int) (cbl : List UInt8) (cvs : List Vt) (roots : List (List UInt8)) (q : Int) (g0 : cvs.length ≤ 9223372036854775807) (g1 : roots.length ≤ 9223372036854775807) : ceckC [(.agg [.c (.int .i64 cvw), .c (.int .i64 cht), .c (.str cbl), .c (.sl (votes cvs))]), .c (.sl (texts roots)), .c (.int .i64 q)] [] = some ⟨[.pv (.c (.int .i64 (ctS (⟨cvw, cht, cbl, cvs⟩ : Ct) roots q)))], []⟩ := by
  exact mkC_at (α := Ct × List (List UInt8) × Int) (⟨cvw, cht, cbl, cvs⟩, roots, q) ⟨g0, g1⟩ (by
    rintro ⟨c', roots', q'⟩ _ h ho
    have hh := And.intro h ho
    clear h ho
    simp only [List.cons.injEq, AV.c.injEq, AV.agg.injEq, PC.int.injEq, PC.str.injEq, PC.bool.injEq, PC.sl.injEq, OV.c.injEq, OV.own.injEq, OV.mp.injEq, bytes_iff, texts_iff, true_and, and_true, and_self, beq_self_eq_true, Ct.av_iff] at hh
    simp only [hh])

set_option maxRecDepth 100000 in
set_option maxHeartbeats 4000000 in
theorem ceck_sound (hΓ : SoundG Tryz.prog Γ) (h2 : Γ 80 = cmkC) (h3 : Γ 81 = cfirstC) (h5 : Γ 120 = abtC) (h6 : Γ 168 = abtIC) (h7 : Γ 121 = voVaC) : SoundC Tryz.prog 65 ceckC := by
  refine sound_fn Tryz.func65 (by kernel_rfl) rfl rfl ?_
  intro args objs r0 hr
  obtain ⟨⟨⟨cvw, cht, cbl, cvs⟩, roots, q⟩, ⟨hvs, hro⟩, rfl, rfl, rfl⟩ := mkC_inv hr
  refine ⟨rfl, by show 3 ≤ _; decide, fun E hN hns hF => ?_⟩
  refine vc_sound hΓ mixed _ _ _ ?_
  have hN := hN.trans nt_65
  have hvs : cvs.length ≤ 9223372036854775807 := hvs
  have hro : roots.length ≤ 9223372036854775807 := hro
  have hlen := votes_length cvs
  have qm := cmk_at cvw cht cbl cvs
  have qm0 := cmk_at 0 0 genS []
  have qf : cfirstC [] [] = some ⟨[.pv (.agg [.c (.int .i64 0), .c (.int .i64 0), .c (.str genS), .c (.sl [])])], []⟩ := rfl
  have qe := eq_mk ⟨cvw, cht, cbl⟩ ⟨0, 0, genS⟩
  have qa := abt_at cvw cht cbl
  rw [votes_nil] at qm0
  have nt1 : (!true) = false := rfl
  have ntf : (!false) = true := rfl
  unfold Ct.av
  unfold Mk.av at qm qm0
  dsimp only at qm qm0 qe ⊢
  obtain ⟨R, hR⟩ : ∃ R, R = ctS ⟨cvw, cht, cbl, cvs⟩ roots q := ⟨_, rfl⟩
  rw [← hR]
  by_cases c1 : cvs = []
  · have g1 : ((cvs.length : Int) == 0) = true := by rw [c1]; rfl
    by_cases c0 : (⟨cvw, cht, cbl⟩ : Mk) = ⟨0, 0, genS⟩
    · have hr : R = 0 := by rw [hR]; unfold ctS; rw [if_pos ⟨c1, c0⟩]
      rw [decide_eq_true c0] at qe
      rw [hr]
      generalize genS = gg at qf qm0 qe
      simp only [runA, runB, runC, runD, runE, runF, fieldE, storeE, binE, ↓reduceIte, Nat.reduceLT, Nat.reduceLeDiff, Nat.reduceEqDiff, Nat.reduceAdd, Nat.reduceMul, Nat.reduceSub, reduceCtorEq, putAt, unE, Nat.reduceBEq, convE, buildE, List.replicate, Int.reduceLT, Int.reduceLE, Int.reduceToNat, mkE, mapSetE, hN, hF, ty_3, ty_4, ty_9, ty_24, ty_29, ty_31, ty_37, ty_74, ty_97, notIf, isEq, hlen, g1, h2, qm, h3, qf, qm0, eqg_mk, qe]
      simp only [runB, finC, finD, Option.isSome_some, Option.isSome_none, ↓reduceIte, Nat.reduceEqDiff, Nat.reduceAdd, Nat.reduceMul, forall_eq_or_imp, forall_eq, implies_true, Nat.reduceBEq, reduceCtorEq, false_implies, List.zip_cons_cons, List.zip_nil_left, List.zip_nil_right, Nat.reduceLeDiff, List.forall_mem_nil, rs_65, ty_3, ty_4, ty_9, ty_24, ty_29, ty_31, ty_37, ty_74, ty_97]
    · have hnf : ¬ (cvs = [] ∧ (⟨cvw, cht, cbl⟩ : Mk) = ⟨0, 0, genS⟩) := fun h => c0 h.2
      rw [decide_eq_false c0] at qe
      by_cases c2 : q < 1
      · have k2 : decide (q < 1) = true := decide_eq_true c2
        have hr : R = 41 := by rw [hR]; unfold ctS; rw [if_neg hnf, if_pos (.inl c2)]
        rw [hr]
        simp only [runA, runB, runC, runD, runE, runF, fieldE, storeE, binE, ↓reduceIte, Nat.reduceLT, Nat.reduceLeDiff, Nat.reduceEqDiff, Nat.reduceAdd, Nat.reduceMul, Nat.reduceSub, reduceCtorEq, putAt, unE, Nat.reduceBEq, convE, buildE, List.replicate, Int.reduceLT, Int.reduceLE, Int.reduceToNat, mkE, mapSetE, hN, hF, ty_3, ty_4, ty_9, ty_24, ty_29, ty_31, ty_37, ty_74, ty_97, notIf, isEq, hlen, nt1, ntf, g1, h2, qm, h3, qf, qm0, eqg_mk, qe, k2]
        simp only [runB, finC, finD, Option.isSome_some, Option.isSome_none, ↓reduceIte, Nat.reduceEqDiff, Nat.reduceAdd, Nat.reduceMul, forall_eq_or_imp, forall_eq, implies_true, Nat.reduceBEq, reduceCtorEq, false_implies, List.zip_cons_cons, List.zip_nil_left, List.zip_nil_right, Nat.reduceLeDiff, List.forall_mem_nil, rs_65, ty_3, ty_4, ty_9, ty_24, ty_29, ty_31, ty_37, ty_74, ty_97]
      have k2 : decide (q < 1) = false := decide_eq_false c2
      by_cases c3 : (cvs.length : Int) = q
      case neg =>
        have k3 : ((cvs.length : Int) != q) = true := by rw [bne_iff_ne]; exact c3
        have hr : R = 41 := by rw [hR]; unfold ctS; rw [if_neg hnf, if_pos (.inr c3)]
        rw [hr]
        simp only [runA, runB, runC, runD, runE, runF, fieldE, storeE, binE, ↓reduceIte, Nat.reduceLT, Nat.reduceLeDiff, Nat.reduceEqDiff, Nat.reduceAdd, Nat.reduceMul, Nat.reduceSub, reduceCtorEq, putAt, unE, Nat.reduceBEq, convE, buildE, List.replicate, Int.reduceLT, Int.reduceLE, Int.reduceToNat, mkE, mapSetE, hN, hF, ty_3, ty_4, ty_9, ty_24, ty_29, ty_31, ty_37, ty_74, ty_97, notIf, isEq, hlen, nt1, ntf, g1, h2, qm, h3, qf, qm0, eqg_mk, qe, k2, k3]
        simp only [runB, finC, finD, Option.isSome_some, Option.isSome_none, ↓reduceIte, Nat.reduceEqDiff, Nat.reduceAdd, Nat.reduceMul, forall_eq_or_imp, forall_eq, implies_true, Nat.reduceBEq, reduceCtorEq, false_implies, List.zip_cons_cons, List.zip_nil_left, List.zip_nil_right, Nat.reduceLeDiff, List.forall_mem_nil, rs_65, ty_3, ty_4, ty_9, ty_24, ty_29, ty_31, ty_37, ty_74, ty_97]
      have k3 : ((cvs.length : Int) != q) = false := by rw [c3, bne_self_eq_false]
      have hR2 : R = (if ∀ i, i < cvs.length → stepC ⟨cvw, cht, cbl, cvs⟩ roots i = true then 0 else 41) := by rw [hR]; unfold ctS; rw [if_neg hnf, if_neg (by rintro (h | h); exact c2 h; exact h c3)]
      simp only [runA, runB, runC, runD, runE, runF, fieldE, storeE, binE, ↓reduceIte, Nat.reduceLT, Nat.reduceLeDiff, Nat.reduceEqDiff, Nat.reduceAdd, Nat.reduceMul, Nat.reduceSub, reduceCtorEq, putAt, unE, Nat.reduceBEq, convE, buildE, List.replicate, Int.reduceLT, Int.reduceLE, Int.reduceToNat, mkE, mapSetE, hN, hF, ty_3, ty_4, ty_9, ty_24, ty_29, ty_31, ty_37, ty_74, ty_97, notIf, isEq, hlen, nt1, ntf, g1, h2, qm, h3, qf, qm0, eqg_mk, qe, k2, k3, qa, h5]
      refine AWP.loop (fun k st => ∃ i : Nat, (i ≤ cvs.length ∧ ∀ j, j < i → stepC ⟨cvw, cht, cbl, cvs⟩ roots j = true) ∧ k = cvs.length - i ∧ st = ⟨[(1, .c (.sl (texts roots))), (3, .ptr 192 0), (7, .clo 168 [[.int .i64 cvw, .int .i64 cht, .str cbl]]), (34, .c (.sl (votes cvs))), (35, .c (.int .i64 (cvs.length : Int))), (36, .c (.int .i64 (i : Int)))], [(192, .obj [.c (.int .i64 cvw), .c (.int .i64 cht), .c (.str cbl), .c (.sl (votes cvs))] false)]⟩) ⟨cvs.length, _, ?w, 0, ⟨Nat.zero_le _, fun j hj => absurd hj (by omega)⟩, rfl, rfl⟩ ?r
      case w =>
        rw [hns]
        simp only [runB, finC, finD, AS.get, AS.mem, false_implies, implies_true, ↓reduceIte, Nat.reduceEqDiff, Option.isSome_some, Option.isSome_none, forall_eq_or_imp, forall_eq, reduceCtorEq, Nat.reduceAdd, Nat.reduceMul, List.zip_cons_cons, List.zip_nil_left, List.zip_nil_right, List.forall_mem_nil]
        first | done | simp
      case r =>
        rintro k st ⟨i, ⟨hi, hall⟩, rfl, rfl⟩
        refine vc_sound hΓ mixed _ _ _ ?_
        by_cases hlt : i < cvs.length
        case neg =>
          obtain rfl : i = cvs.length := by omega
          have k4 : decide (((cvs.length : Nat) : Int) < (cvs.length : Int)) = false := decide_eq_false (by omega)
          have hr : R = 0 := by rw [hR2]; exact if_pos hall
          rw [hr]
          simp only [runA, runB, runC, runD, runE, runF, fieldE, storeE, binE, ↓reduceIte, Nat.reduceLT, Nat.reduceLeDiff, Nat.reduceEqDiff, Nat.reduceAdd, Nat.reduceMul, Nat.reduceSub, reduceCtorEq, putAt, unE, Nat.reduceBEq, convE, buildE, List.replicate, Int.reduceLT, Int.reduceLE, Int.reduceToNat, mkE, mapSetE, hN, hF, ty_3, ty_4, ty_9, ty_24, ty_29, ty_31, ty_37, ty_74, ty_97, notIf, isEq, hlen, nt1, ntf, g1, h2, qm, h3, qf, qm0, eqg_mk, qe, k4]
          simp only [runB, finC, finD, Option.isSome_some, Option.isSome_none, ↓reduceIte, Nat.reduceEqDiff, Nat.reduceAdd, Nat.reduceMul, forall_eq_or_imp, forall_eq, implies_true, Nat.reduceBEq, reduceCtorEq, false_implies, List.zip_cons_cons, List.zip_nil_left, List.zip_nil_right, Nat.reduceLeDiff, List.forall_mem_nil, rs_65, ty_3, ty_4, ty_9, ty_24, ty_29, ty_31, ty_37, ty_74, ty_97]
        have k4 : decide ((i : Int) < (cvs.length : Int)) = true := decide_eq_true (by omega)
        have e1 : IntKind.i64.wrap ((i : Int) + 1) = (i : Int) + 1 := wrapI (by omega)
        have hy := votesG cvs i hlt
        have hs := stepC_def cvw cht cbl cvs roots i
        have hbad : stepC ⟨cvw, cht, cbl, cvs⟩ roots i = false → R = 41 := fun h => by rw [hR2]; exact if_neg (fun ha => by rw [ha i hlt] at h; cases h)
        have hnext : stepC ⟨cvw, cht, cbl, cvs⟩ roots i = true → ∀ j, j < i + 1 → stepC ⟨cvw, cht, cbl, cvs⟩ roots j = true := fun h j hj => by
          by_cases e : j = i
          · rw [e]; exact h
          · exact hall j (by omega)
        have hprev : 0 < i → (votes cvs)[i - 1]? = some [.int .i64 (cvs.getD (i - 1) zeroV).kd, .int .i64 (cvs.getD (i - 1) zeroV).vw, .int .i64 (cvs.getD (i - 1) zeroV).ht, .str (cvs.getD (i - 1) zeroV).bl, .int .i64 (cvs.getD (i - 1) zeroV).tk, .int .i64 (cvs.getD (i - 1) zeroV).sg, .str (cvs.getD (i - 1) zeroV).sig] := fun h => votesG cvs (i - 1) (by omega)
        generalize cvs.getD i zeroV = y at hy hs
        generalize cvs.getD (i - 1) zeroV = p at hs hprev
        have qv := voVa_at y roots hro
        have q1 := abtI_at y ⟨cvw, cht, cbl⟩
        dsimp only at q1
        cases v1 : isV ⟨cvw, cht, cbl⟩ y with
        | false =>
          rw [v1] at q1
          rw [hbad (by rw [hs, v1]; simp)]
          simp only [runA, runB, runC, runD, runE, runF, fieldE, storeE, binE, ↓reduceIte, Nat.reduceLT, Nat.reduceLeDiff, Nat.reduceEqDiff, Nat.reduceAdd, Nat.reduceMul, Nat.reduceSub, reduceCtorEq, putAt, unE, Nat.reduceBEq, convE, buildE, List.replicate, Int.reduceLT, Int.reduceLE, Int.reduceToNat, mkE, mapSetE, hN, hF, ty_3, ty_4, ty_9, ty_24, ty_29, ty_31, ty_37, ty_74, ty_97, notIf, isEq, hlen, nt1, ntf, g1, h2, qm, h3, qf, qm0, eqg_mk, qe, k4, e1, hy, h6, q1]
          refine drawnP_intro (by kernel_rfl) (by kernel_rfl) ?_
          simp only [runA, runB, runC, runD, runE, runF, fieldE, storeE, binE, ↓reduceIte, Nat.reduceLT, Nat.reduceLeDiff, Nat.reduceEqDiff, Nat.reduceAdd, Nat.reduceMul, Nat.reduceSub, reduceCtorEq, putAt, unE, Nat.reduceBEq, convE, buildE, List.replicate, Int.reduceLT, Int.reduceLE, Int.reduceToNat, mkE, mapSetE, hN, hF, ty_3, ty_4, ty_9, ty_24, ty_29, ty_31, ty_37, ty_74, ty_97, notIf, isEq, hlen, nt1, ntf, g1, h2, qm, h3, qf, qm0, eqg_mk, qe, k4, e1, hy, h6, q1]
          simp only [runB, finC, finD, Option.isSome_some, Option.isSome_none, ↓reduceIte, Nat.reduceEqDiff, Nat.reduceAdd, Nat.reduceMul, forall_eq_or_imp, forall_eq, implies_true, Nat.reduceBEq, reduceCtorEq, false_implies, List.zip_cons_cons, List.zip_nil_left, List.zip_nil_right, Nat.reduceLeDiff, List.forall_mem_nil, rs_65, ty_3, ty_4, ty_9, ty_24, ty_29, ty_31, ty_37, ty_74, ty_97]
        | true =>
          rw [v1] at q1
          by_cases hi0 : i = 0
          · have g5 : decide ((i : Int) > 0) = false := decide_eq_false (by omega)
            cases v2 : validV y roots with
            | false =>
              rw [v2] at qv
              rw [hbad (by rw [hs, v1, decide_eq_true hi0, v2]; simp)]
              simp only [runA, runB, runC, runD, runE, runF, fieldE, storeE, binE, ↓reduceIte, Nat.reduceLT, Nat.reduceLeDiff, Nat.reduceEqDiff, Nat.reduceAdd, Nat.reduceMul, Nat.reduceSub, reduceCtorEq, putAt, unE, Nat.reduceBEq, convE, buildE, List.replicate, Int.reduceLT, Int.reduceLE, Int.reduceToNat, mkE, mapSetE, hN, hF, ty_3, ty_4, ty_9, ty_24, ty_29, ty_31, ty_37, ty_74, ty_97, notIf, isEq, hlen, nt1, ntf, g1, h2, qm, h3, qf, qm0, eqg_mk, qe, k4, e1, hy, h6, q1, g5, h7, qv]
              refine drawnP_intro (by kernel_rfl) (by kernel_rfl) ?_
              simp only [runA, runB, runC, runD, runE, runF, fieldE, storeE, binE, ↓reduceIte, Nat.reduceLT, Nat.reduceLeDiff, Nat.reduceEqDiff, Nat.reduceAdd, Nat.reduceMul, Nat.reduceSub, reduceCtorEq, putAt, unE, Nat.reduceBEq, convE, buildE, List.replicate, Int.reduceLT, Int.reduceLE, Int.reduceToNat, mkE, mapSetE, hN, hF, ty_3, ty_4, ty_9, ty_24, ty_29, ty_31, ty_37, ty_74, ty_97, notIf, isEq, hlen, nt1, ntf, g1, h2, qm, h3, qf, qm0, eqg_mk, qe, k4, e1, hy, h6, q1, g5, h7, qv]
              simp only [runB, finC, finD, Option.isSome_some, Option.isSome_none, ↓reduceIte, Nat.reduceEqDiff, Nat.reduceAdd, Nat.reduceMul, forall_eq_or_imp, forall_eq, implies_true, Nat.reduceBEq, reduceCtorEq, false_implies, List.zip_cons_cons, List.zip_nil_left, List.zip_nil_right, Nat.reduceLeDiff, List.forall_mem_nil, rs_65, ty_3, ty_4, ty_9, ty_24, ty_29, ty_31, ty_37, ty_74, ty_97]
            | true =>
              rw [v2] at qv
              have hst := hnext (by rw [hs, v1, decide_eq_true hi0, v2]; simp)
              simp only [runA, runB, runC, runD, runE, runF, fieldE, storeE, binE, ↓reduceIte, Nat.reduceLT, Nat.reduceLeDiff, Nat.reduceEqDiff, Nat.reduceAdd, Nat.reduceMul, Nat.reduceSub, reduceCtorEq, putAt, unE, Nat.reduceBEq, convE, buildE, List.replicate, Int.reduceLT, Int.reduceLE, Int.reduceToNat, mkE, mapSetE, hN, hF, ty_3, ty_4, ty_9, ty_24, ty_29, ty_31, ty_37, ty_74, ty_97, notIf, isEq, hlen, nt1, ntf, g1, h2, qm, h3, qf, qm0, eqg_mk, qe, k4, e1, hy, h6, q1, g5, h7, qv]
              refine drawnP_intro (by kernel_rfl) (by kernel_rfl) ?_
              simp only [runA, runB, runC, runD, runE, runF, fieldE, storeE, binE, ↓reduceIte, Nat.reduceLT, Nat.reduceLeDiff, Nat.reduceEqDiff, Nat.reduceAdd, Nat.reduceMul, Nat.reduceSub, reduceCtorEq, putAt, unE, Nat.reduceBEq, convE, buildE, List.replicate, Int.reduceLT, Int.reduceLE, Int.reduceToNat, mkE, mapSetE, hN, hF, ty_3, ty_4, ty_9, ty_24, ty_29, ty_31, ty_37, ty_74, ty_97, notIf, isEq, hlen, nt1, ntf, g1, h2, qm, h3, qf, qm0, eqg_mk, qe, k4, e1, hy, h6, q1, g5, h7, qv]
              refine ⟨cvs.length - (i + 1), _, by omega, ?_, i + 1, ⟨by omega, hst⟩, rfl, rfl⟩
              rw [hns]
              simp only [runB, finC, finD, AS.get, AS.mem, false_implies, implies_true, ↓reduceIte, Nat.reduceEqDiff, Option.isSome_some, Option.isSome_none, forall_eq_or_imp, forall_eq, reduceCtorEq, Nat.reduceAdd, Nat.reduceMul, List.zip_cons_cons, List.zip_nil_left, List.zip_nil_right, List.forall_mem_nil]
              first | done | simp
          · have g5 : decide ((i : Int) > 0) = true := decide_eq_true (by omega)
            have e6 : IntKind.i64.wrap ((i : Int) - 1) = ((i - 1 : Nat) : Int) := by rw [wrapI (by omega)]; omega
            have hp := hprev (by omega)
            by_cases hsg : p.sg < y.sg
            case neg =>
              have g6 : decide (p.sg ≥ y.sg) = true := decide_eq_true (by omega)
              rw [hbad (by rw [hs, v1, decide_eq_false hi0, decide_eq_false hsg]; simp)]
              simp only [runA, runB, runC, runD, runE, runF, fieldE, storeE, binE, ↓reduceIte, Nat.reduceLT, Nat.reduceLeDiff, Nat.reduceEqDiff, Nat.reduceAdd, Nat.reduceMul, Nat.reduceSub, reduceCtorEq, putAt, unE, Nat.reduceBEq, convE, buildE, List.replicate, Int.reduceLT, Int.reduceLE, Int.reduceToNat, mkE, mapSetE, hN, hF, ty_3, ty_4, ty_9, ty_24, ty_29, ty_31, ty_37, ty_74, ty_97, notIf, isEq, hlen, nt1, ntf, g1, h2, qm, h3, qf, qm0, eqg_mk, qe, k4, e1, hy, h6, q1, g5, e6, hp, g6]
              refine drawnP_intro (by kernel_rfl) (by kernel_rfl) ?_
              simp only [runA, runB, runC, runD, runE, runF, fieldE, storeE, binE, ↓reduceIte, Nat.reduceLT, Nat.reduceLeDiff, Nat.reduceEqDiff, Nat.reduceAdd, Nat.reduceMul, Nat.reduceSub, reduceCtorEq, putAt, unE, Nat.reduceBEq, convE, buildE, List.replicate, Int.reduceLT, Int.reduceLE, Int.reduceToNat, mkE, mapSetE, hN, hF, ty_3, ty_4, ty_9, ty_24, ty_29, ty_31, ty_37, ty_74, ty_97, notIf, isEq, hlen, nt1, ntf, g1, h2, qm, h3, qf, qm0, eqg_mk, qe, k4, e1, hy, h6, q1, g5, e6, hp, g6]
              simp only [runB, finC, finD, Option.isSome_some, Option.isSome_none, ↓reduceIte, Nat.reduceEqDiff, Nat.reduceAdd, Nat.reduceMul, forall_eq_or_imp, forall_eq, implies_true, Nat.reduceBEq, reduceCtorEq, false_implies, List.zip_cons_cons, List.zip_nil_left, List.zip_nil_right, Nat.reduceLeDiff, List.forall_mem_nil, rs_65, ty_3, ty_4, ty_9, ty_24, ty_29, ty_31, ty_37, ty_74, ty_97]
            have g6 : decide (p.sg ≥ y.sg) = false := decide_eq_false (by omega)
            cases v2 : validV y roots with
            | false =>
              rw [v2] at qv
              rw [hbad (by rw [hs, v1, decide_eq_false hi0, decide_eq_true hsg, v2]; simp)]
              simp only [runA, runB, runC, runD, runE, runF, fieldE, storeE, binE, ↓reduceIte, Nat.reduceLT, Nat.reduceLeDiff, Nat.reduceEqDiff, Nat.reduceAdd, Nat.reduceMul, Nat.reduceSub, reduceCtorEq, putAt, unE, Nat.reduceBEq, convE, buildE, List.replicate, Int.reduceLT, Int.reduceLE, Int.reduceToNat, mkE, mapSetE, hN, hF, ty_3, ty_4, ty_9, ty_24, ty_29, ty_31, ty_37, ty_74, ty_97, notIf, isEq, hlen, nt1, ntf, g1, h2, qm, h3, qf, qm0, eqg_mk, qe, k4, e1, hy, h6, q1, g5, e6, hp, g6, h7, qv]
              refine drawnP_intro (by kernel_rfl) (by kernel_rfl) ?_
              simp only [runA, runB, runC, runD, runE, runF, fieldE, storeE, binE, ↓reduceIte, Nat.reduceLT, Nat.reduceLeDiff, Nat.reduceEqDiff, Nat.reduceAdd, Nat.reduceMul, Nat.reduceSub, reduceCtorEq, putAt, unE, Nat.reduceBEq, convE, buildE, List.replicate, Int.reduceLT, Int.reduceLE, Int.reduceToNat, mkE, mapSetE, hN, hF, ty_3, ty_4, ty_9, ty_24, ty_29, ty_31, ty_37, ty_74, ty_97, notIf, isEq, hlen, nt1, ntf, g1, h2, qm, h3, qf, qm0, eqg_mk, qe, k4, e1, hy, h6, q1, g5, e6, hp, g6, h7, qv]
              simp only [runB, finC, finD, Option.isSome_some, Option.isSome_none, ↓reduceIte, Nat.reduceEqDiff, Nat.reduceAdd, Nat.reduceMul, forall_eq_or_imp, forall_eq, implies_true, Nat.reduceBEq, reduceCtorEq, false_implies, List.zip_cons_cons, List.zip_nil_left, List.zip_nil_right, Nat.reduceLeDiff, List.forall_mem_nil, rs_65, ty_3, ty_4, ty_9, ty_24, ty_29, ty_31, ty_37, ty_74, ty_97]
            | true =>
              rw [v2] at qv
              have hst := hnext (by rw [hs, v1, decide_eq_false hi0, decide_eq_true hsg, v2]; simp)
              simp only [runA, runB, runC, runD, runE, runF, fieldE, storeE, binE, ↓reduceIte, Nat.reduceLT, Nat.reduceLeDiff, Nat.reduceEqDiff, Nat.reduceAdd, Nat.reduceMul, Nat.reduceSub, reduceCtorEq, putAt, unE, Nat.reduceBEq, convE, buildE, List.replicate, Int.reduceLT, Int.reduceLE, Int.reduceToNat, mkE, mapSetE, hN, hF, ty_3, ty_4, ty_9, ty_24, ty_29, ty_31, ty_37, ty_74, ty_97, notIf, isEq, hlen, nt1, ntf, g1, h2, qm, h3, qf, qm0, eqg_mk, qe, k4, e1, hy, h6, q1, g5, e6, hp, g6, h7, qv]
              refine drawnP_intro (by kernel_rfl) (by kernel_rfl) ?_
              simp only [runA, runB, runC, runD, runE, runF, fieldE, storeE, binE, ↓reduceIte, Nat.reduceLT, Nat.reduceLeDiff, Nat.reduceEqDiff, Nat.reduceAdd, Nat.reduceMul, Nat.reduceSub, reduceCtorEq, putAt, unE, Nat.reduceBEq, convE, buildE, List.replicate, Int.reduceLT, Int.reduceLE, Int.reduceToNat, mkE, mapSetE, hN, hF, ty_3, ty_4, ty_9, ty_24, ty_29, ty_31, ty_37, ty_74, ty_97, notIf, isEq, hlen, nt1, ntf, g1, h2, qm, h3, qf, qm0, eqg_mk, qe, k4, e1, hy, h6, q1, g5, e6, hp, g6, h7, qv]
              refine ⟨cvs.length - (i + 1), _, by omega, ?_, i + 1, ⟨by omega, hst⟩, rfl, rfl⟩
              rw [hns]
              simp only [runB, finC, finD, AS.get, AS.mem, false_implies, implies_true, ↓reduceIte, Nat.reduceEqDiff, Option.isSome_some, Option.isSome_none, forall_eq_or_imp, forall_eq, reduceCtorEq, Nat.reduceAdd, Nat.reduceMul, List.zip_cons_cons, List.zip_nil_left, List.zip_nil_right, List.forall_mem_nil]
              first | done | simp
  · have g1 : ((cvs.length : Int) == 0) = false := beq_eq_false_iff_ne.2 (fun h => c1 (List.length_eq_zero_iff.1 (by omega)))
    have hnf : ¬ (cvs = [] ∧ (⟨cvw, cht, cbl⟩ : Mk) = ⟨0, 0, genS⟩) := fun h => c1 h.1
    by_cases c2 : q < 1
    · have k2 : decide (q < 1) = true := decide_eq_true c2
      have hr : R = 41 := by rw [hR]; unfold ctS; rw [if_neg hnf, if_pos (.inl c2)]
      rw [hr]
      simp only [runA, runB, runC, runD, runE, runF, fieldE, storeE, binE, ↓reduceIte, Nat.reduceLT, Nat.reduceLeDiff, Nat.reduceEqDiff, Nat.reduceAdd, Nat.reduceMul, Nat.reduceSub, reduceCtorEq, putAt, unE, Nat.reduceBEq, convE, buildE, List.replicate, Int.reduceLT, Int.reduceLE, Int.reduceToNat, mkE, mapSetE, hN, hF, ty_3, ty_4, ty_9, ty_24, ty_29, ty_31, ty_37, ty_74, ty_97, notIf, isEq, hlen, nt1, ntf, g1, h2, qm, k2]
      simp only [runB, finC, finD, Option.isSome_some, Option.isSome_none, ↓reduceIte, Nat.reduceEqDiff, Nat.reduceAdd, Nat.reduceMul, forall_eq_or_imp, forall_eq, implies_true, Nat.reduceBEq, reduceCtorEq, false_implies, List.zip_cons_cons, List.zip_nil_left, List.zip_nil_right, Nat.reduceLeDiff, List.forall_mem_nil, rs_65, ty_3, ty_4, ty_9, ty_24, ty_29, ty_31, ty_37, ty_74, ty_97]
    have k2 : decide (q < 1) = false := decide_eq_false c2
    by_cases c3 : (cvs.length : Int) = q
    case neg =>
      have k3 : ((cvs.length : Int) != q) = true := by rw [bne_iff_ne]; exact c3
      have hr : R = 41 := by rw [hR]; unfold ctS; rw [if_neg hnf, if_pos (.inr c3)]
      rw [hr]
      simp only [runA, runB, runC, runD, runE, runF, fieldE, storeE, binE, ↓reduceIte, Nat.reduceLT, Nat.reduceLeDiff, Nat.reduceEqDiff, Nat.reduceAdd, Nat.reduceMul, Nat.reduceSub, reduceCtorEq, putAt, unE, Nat.reduceBEq, convE, buildE, List.replicate, Int.reduceLT, Int.reduceLE, Int.reduceToNat, mkE, mapSetE, hN, hF, ty_3, ty_4, ty_9, ty_24, ty_29, ty_31, ty_37, ty_74, ty_97, notIf, isEq, hlen, nt1, ntf, g1, h2, qm, k2, k3]
      simp only [runB, finC, finD, Option.isSome_some, Option.isSome_none, ↓reduceIte, Nat.reduceEqDiff, Nat.reduceAdd, Nat.reduceMul, forall_eq_or_imp, forall_eq, implies_true, Nat.reduceBEq, reduceCtorEq, false_implies, List.zip_cons_cons, List.zip_nil_left, List.zip_nil_right, Nat.reduceLeDiff, List.forall_mem_nil, rs_65, ty_3, ty_4, ty_9, ty_24, ty_29, ty_31, ty_37, ty_74, ty_97]
    have k3 : ((cvs.length : Int) != q) = false := by rw [c3, bne_self_eq_false]
    have hR2 : R = (if ∀ i, i < cvs.length → stepC ⟨cvw, cht, cbl, cvs⟩ roots i = true then 0 else 41) := by rw [hR]; unfold ctS; rw [if_neg hnf, if_neg (by rintro (h | h); exact c2 h; exact h c3)]
    simp only [runA, runB, runC, runD, runE, runF, fieldE, storeE, binE, ↓reduceIte, Nat.reduceLT, Nat.reduceLeDiff, Nat.reduceEqDiff, Nat.reduceAdd, Nat.reduceMul, Nat.reduceSub, reduceCtorEq, putAt, unE, Nat.reduceBEq, convE, buildE, List.replicate, Int.reduceLT, Int.reduceLE, Int.reduceToNat, mkE, mapSetE, hN, hF, ty_3, ty_4, ty_9, ty_24, ty_29, ty_31, ty_37, ty_74, ty_97, notIf, isEq, hlen, nt1, ntf, g1, h2, qm, k2, k3, qa, h5]
    refine AWP.loop (fun k st => ∃ i : Nat, (i ≤ cvs.length ∧ ∀ j, j < i → stepC ⟨cvw, cht, cbl, cvs⟩ roots j = true) ∧ k = cvs.length - i ∧ st = ⟨[(1, .c (.sl (texts roots))), (3, .ptr 192 0), (7, .clo 168 [[.int .i64 cvw, .int .i64 cht, .str cbl]]), (34, .c (.sl (votes cvs))), (35, .c (.int .i64 (cvs.length : Int))), (36, .c (.int .i64 (i : Int)))], [(192, .obj [.c (.int .i64 cvw), .c (.int .i64 cht), .c (.str cbl), .c (.sl (votes cvs))] false)]⟩) ⟨cvs.length, _, ?w, 0, ⟨Nat.zero_le _, fun j hj => absurd hj (by omega)⟩, rfl, rfl⟩ ?r
    case w =>
      rw [hns]
      simp only [runB, finC, finD, AS.get, AS.mem, false_implies, implies_true, ↓reduceIte, Nat.reduceEqDiff, Option.isSome_some, Option.isSome_none, forall_eq_or_imp, forall_eq, reduceCtorEq, Nat.reduceAdd, Nat.reduceMul, List.zip_cons_cons, List.zip_nil_left, List.zip_nil_right, List.forall_mem_nil]
      first | done | simp
    case r =>
      rintro k st ⟨i, ⟨hi, hall⟩, rfl, rfl⟩
      refine vc_sound hΓ mixed _ _ _ ?_
      by_cases hlt : i < cvs.length
      case neg =>
        obtain rfl : i = cvs.length := by omega
        have k4 : decide (((cvs.length : Nat) : Int) < (cvs.length : Int)) = false := decide_eq_false (by omega)
        have hr : R = 0 := by rw [hR2]; exact if_pos hall
        rw [hr]
        simp only [runA, runB, runC, runD, runE, runF, fieldE, storeE, binE, ↓reduceIte, Nat.reduceLT, Nat.reduceLeDiff, Nat.reduceEqDiff, Nat.reduceAdd, Nat.reduceMul, Nat.reduceSub, reduceCtorEq, putAt, unE, Nat.reduceBEq, convE, buildE, List.replicate, Int.reduceLT, Int.reduceLE, Int.reduceToNat, mkE, mapSetE, hN, hF, ty_3, ty_4, ty_9, ty_24, ty_29, ty_31, ty_37, ty_74, ty_97, notIf, isEq, hlen, nt1, ntf, g1, h2, qm, k4]
        simp only [runB, finC, finD, Option.isSome_some, Option.isSome_none, ↓reduceIte, Nat.reduceEqDiff, Nat.reduceAdd, Nat.reduceMul, forall_eq_or_imp, forall_eq, implies_true, Nat.reduceBEq, reduceCtorEq, false_implies, List.zip_cons_cons, List.zip_nil_left, List.zip_nil_right, Nat.reduceLeDiff, List.forall_mem_nil, rs_65, ty_3, ty_4, ty_9, ty_24, ty_29, ty_31, ty_37, ty_74, ty_97]
      have k4 : decide ((i : Int) < (cvs.length : Int)) = true := decide_eq_true (by omega)
      have e1 : IntKind.i64.wrap ((i : Int) + 1) = (i : Int) + 1 := wrapI (by omega)
      have hy := votesG cvs i hlt
      have hs := stepC_def cvw cht cbl cvs roots i
      have hbad : stepC ⟨cvw, cht, cbl, cvs⟩ roots i = false → R = 41 := fun h => by rw [hR2]; exact if_neg (fun ha => by rw [ha i hlt] at h; cases h)
      have hnext : stepC ⟨cvw, cht, cbl, cvs⟩ roots i = true → ∀ j, j < i + 1 → stepC ⟨cvw, cht, cbl, cvs⟩ roots j = true := fun h j hj => by
        by_cases e : j = i
        · rw [e]; exact h
        · exact hall j (by omega)
      have hprev : 0 < i → (votes cvs)[i - 1]? = some [.int .i64 (cvs.getD (i - 1) zeroV).kd, .int .i64 (cvs.getD (i - 1) zeroV).vw, .int .i64 (cvs.getD (i - 1) zeroV).ht, .str (cvs.getD (i - 1) zeroV).bl, .int .i64 (cvs.getD (i - 1) zeroV).tk, .int .i64 (cvs.getD (i - 1) zeroV).sg, .str (cvs.getD (i - 1) zeroV).sig] := fun h => votesG cvs (i - 1) (by omega)
      generalize cvs.getD i zeroV = y at hy hs
      generalize cvs.getD (i - 1) zeroV = p at hs hprev
      have qv := voVa_at y roots hro
      have q1 := abtI_at y ⟨cvw, cht, cbl⟩
      dsimp only at q1
      cases v1 : isV ⟨cvw, cht, cbl⟩ y with
      | false =>
        rw [v1] at q1
        rw [hbad (by rw [hs, v1]; simp)]
        simp only [runA, runB, runC, runD, runE, runF, fieldE, storeE, binE, ↓reduceIte, Nat.reduceLT, Nat.reduceLeDiff, Nat.reduceEqDiff, Nat.reduceAdd, Nat.reduceMul, Nat.reduceSub, reduceCtorEq, putAt, unE, Nat.reduceBEq, convE, buildE, List.replicate, Int.reduceLT, Int.reduceLE, Int.reduceToNat, mkE, mapSetE, hN, hF, ty_3, ty_4, ty_9, ty_24, ty_29, ty_31, ty_37, ty_74, ty_97, notIf, isEq, hlen, nt1, ntf, g1, h2, qm, k4, e1, hy, h6, q1]
        refine drawnP_intro (by kernel_rfl) (by kernel_rfl) ?_
        simp only [runA, runB, runC, runD, runE, runF, fieldE, storeE, binE, ↓reduceIte, Nat.reduceLT, Nat.reduceLeDiff, Nat.reduceEqDiff, Nat.reduceAdd, Nat.reduceMul, Nat.reduceSub, reduceCtorEq, putAt, unE, Nat.reduceBEq, convE, buildE, List.replicate, Int.reduceLT, Int.reduceLE, Int.reduceToNat, mkE, mapSetE, hN, hF, ty_3, ty_4, ty_9, ty_24, ty_29, ty_31, ty_37, ty_74, ty_97, notIf, isEq, hlen, nt1, ntf, g1, h2, qm, k4, e1, hy, h6, q1]
        simp only [runB, finC, finD, Option.isSome_some, Option.isSome_none, ↓reduceIte, Nat.reduceEqDiff, Nat.reduceAdd, Nat.reduceMul, forall_eq_or_imp, forall_eq, implies_true, Nat.reduceBEq, reduceCtorEq, false_implies, List.zip_cons_cons, List.zip_nil_left, List.zip_nil_right, Nat.reduceLeDiff, List.forall_mem_nil, rs_65, ty_3, ty_4, ty_9, ty_24, ty_29, ty_31, ty_37, ty_74, ty_97]
      | true =>
        rw [v1] at q1
        by_cases hi0 : i = 0
        · have g5 : decide ((i : Int) > 0) = false := decide_eq_false (by omega)
          cases v2 : validV y roots with
          | false =>
            rw [v2] at qv
            rw [hbad (by rw [hs, v1, decide_eq_true hi0, v2]; simp)]
            simp only [runA, runB, runC, runD, runE, runF, fieldE, storeE, binE, ↓reduceIte, Nat.reduceLT, Nat.reduceLeDiff, Nat.reduceEqDiff, Nat.reduceAdd, Nat.reduceMul, Nat.reduceSub, reduceCtorEq, putAt, unE, Nat.reduceBEq, convE, buildE, List.replicate, Int.reduceLT, Int.reduceLE, Int.reduceToNat, mkE, mapSetE, hN, hF, ty_3, ty_4, ty_9, ty_24, ty_29, ty_31, ty_37, ty_74, ty_97, notIf, isEq, hlen, nt1, ntf, g1, h2, qm, k4, e1, hy, h6, q1, g5, h7, qv]
            refine drawnP_intro (by kernel_rfl) (by kernel_rfl) ?_
            simp only [runA, runB, runC, runD, runE, runF, fieldE, storeE, binE, ↓reduceIte, Nat.reduceLT, Nat.reduceLeDiff, Nat.reduceEqDiff, Nat.reduceAdd, Nat.reduceMul, Nat.reduceSub, reduceCtorEq, putAt, unE, Nat.reduceBEq, convE, buildE, List.replicate, Int.reduceLT, Int.reduceLE, Int.reduceToNat, mkE, mapSetE, hN, hF, ty_3, ty_4, ty_9, ty_24, ty_29, ty_31, ty_37, ty_74, ty_97, notIf, isEq, hlen, nt1, ntf, g1, h2, qm, k4, e1, hy, h6, q1, g5, h7, qv]
            simp only [runB, finC, finD, Option.isSome_some, Option.isSome_none, ↓reduceIte, Nat.reduceEqDiff, Nat.reduceAdd, Nat.reduceMul, forall_eq_or_imp, forall_eq, implies_true, Nat.reduceBEq, reduceCtorEq, false_implies, List.zip_cons_cons, List.zip_nil_left, List.zip_nil_right, Nat.reduceLeDiff, List.forall_mem_nil, rs_65, ty_3, ty_4, ty_9, ty_24, ty_29, ty_31, ty_37, ty_74, ty_97]
          | true =>
            rw [v2] at qv
            have hst := hnext (by rw [hs, v1, decide_eq_true hi0, v2]; simp)
            simp only [runA, runB, runC, runD, runE, runF, fieldE, storeE, binE, ↓reduceIte, Nat.reduceLT, Nat.reduceLeDiff, Nat.reduceEqDiff, Nat.reduceAdd, Nat.reduceMul, Nat.reduceSub, reduceCtorEq, putAt, unE, Nat.reduceBEq, convE, buildE, List.replicate, Int.reduceLT, Int.reduceLE, Int.reduceToNat, mkE, mapSetE, hN, hF, ty_3, ty_4, ty_9, ty_24, ty_29, ty_31, ty_37, ty_74, ty_97, notIf, isEq, hlen, nt1, ntf, g1, h2, qm, k4, e1, hy, h6, q1, g5, h7, qv]
            refine drawnP_intro (by kernel_rfl) (by kernel_rfl) ?_
            simp only [runA, runB, runC, runD, runE, runF, fieldE, storeE, binE, ↓reduceIte, Nat.reduceLT, Nat.reduceLeDiff, Nat.reduceEqDiff, Nat.reduceAdd, Nat.reduceMul, Nat.reduceSub, reduceCtorEq, putAt, unE, Nat.reduceBEq, convE, buildE, List.replicate, Int.reduceLT, Int.reduceLE, Int.reduceToNat, mkE, mapSetE, hN, hF, ty_3, ty_4, ty_9, ty_24, ty_29, ty_31, ty_37, ty_74, ty_97, notIf, isEq, hlen, nt1, ntf, g1, h2, qm, k4, e1, hy, h6, q1, g5, h7, qv]
            refine ⟨cvs.length - (i + 1), _, by omega, ?_, i + 1, ⟨by omega, hst⟩, rfl, rfl⟩
            rw [hns]
            simp only [runB, finC, finD, AS.get, AS.mem, false_implies, implies_true, ↓reduceIte, Nat.reduceEqDiff, Option.isSome_some, Option.isSome_none, forall_eq_or_imp, forall_eq, reduceCtorEq, Nat.reduceAdd, Nat.reduceMul, List.zip_cons_cons, List.zip_nil_left, List.zip_nil_right, List.forall_mem_nil]
            first | done | simp
        · have g5 : decide ((i : Int) > 0) = true := decide_eq_true (by omega)
          have e6 : IntKind.i64.wrap ((i : Int) - 1) = ((i - 1 : Nat) : Int) := by rw [wrapI (by omega)]; omega
          have hp := hprev (by omega)
          by_cases hsg : p.sg < y.sg
          case neg =>
            have g6 : decide (p.sg ≥ y.sg) = true := decide_eq_true (by omega)
            rw [hbad (by rw [hs, v1, decide_eq_false hi0, decide_eq_false hsg]; simp)]
            simp only [runA, runB, runC, runD, runE, runF, fieldE, storeE, binE, ↓reduceIte, Nat.reduceLT, Nat.reduceLeDiff, Nat.reduceEqDiff, Nat.reduceAdd, Nat.reduceMul, Nat.reduceSub, reduceCtorEq, putAt, unE, Nat.reduceBEq, convE, buildE, List.replicate, Int.reduceLT, Int.reduceLE, Int.reduceToNat, mkE, mapSetE, hN, hF, ty_3, ty_4, ty_9, ty_24, ty_29, ty_31, ty_37, ty_74, ty_97, notIf, isEq, hlen, nt1, ntf, g1, h2, qm, k4, e1, hy, h6, q1, g5, e6, hp, g6]
            refine drawnP_intro (by kernel_rfl) (by kernel_rfl) ?_
            simp only [runA, runB, runC, runD, runE, runF, fieldE, storeE, binE, ↓reduceIte, Nat.reduceLT, Nat.reduceLeDiff, Nat.reduceEqDiff, Nat.reduceAdd, Nat.reduceMul, Nat.reduceSub, reduceCtorEq, putAt, unE, Nat.reduceBEq, convE, buildE, List.replicate, Int.reduceLT, Int.reduceLE, Int.reduceToNat, mkE, mapSetE, hN, hF, ty_3, ty_4, ty_9, ty_24, ty_29, ty_31, ty_37, ty_74, ty_97, notIf, isEq, hlen, nt1, ntf, g1, h2, qm, k4, e1, hy, h6, q1, g5, e6, hp, g6]
            simp only [runB, finC, finD, Option.isSome_some, Option.isSome_none, ↓reduceIte, Nat.reduceEqDiff, Nat.reduceAdd, Nat.reduceMul, forall_eq_or_imp, forall_eq, implies_true, Nat.reduceBEq, reduceCtorEq, false_implies, List.zip_cons_cons, List.zip_nil_left, List.zip_nil_right, Nat.reduceLeDiff, List.forall_mem_nil, rs_65, ty_3, ty_4, ty_9, ty_24, ty_29, ty_31, ty_37, ty_74, ty_97]
          have g6 : decide (p.sg ≥ y.sg) = false := decide_eq_false (by omega)
          cases v2 : validV y roots with
          | false =>
            rw [v2] at qv
            rw [hbad (by rw [hs, v1, decide_eq_false hi0, decide_eq_true hsg, v2]; simp)]
            simp only [runA, runB, runC, runD, runE, runF, fieldE, storeE, binE, ↓reduceIte, Nat.reduceLT, Nat.reduceLeDiff, Nat.reduceEqDiff, Nat.reduceAdd, Nat.reduceMul, Nat.reduceSub, reduceCtorEq, putAt, unE, Nat.reduceBEq, convE, buildE, List.replicate, Int.reduceLT, Int.reduceLE, Int.reduceToNat, mkE, mapSetE, hN, hF, ty_3, ty_4, ty_9, ty_24, ty_29, ty_31, ty_37, ty_74, ty_97, notIf, isEq, hlen, nt1, ntf, g1, h2, qm, k4, e1, hy, h6, q1, g5, e6, hp, g6, h7, qv]
            refine drawnP_intro (by kernel_rfl) (by kernel_rfl) ?_
            simp only [runA, runB, runC, runD, runE, runF, fieldE, storeE, binE, ↓reduceIte, Nat.reduceLT, Nat.reduceLeDiff, Nat.reduceEqDiff, Nat.reduceAdd, Nat.reduceMul, Nat.reduceSub, reduceCtorEq, putAt, unE, Nat.reduceBEq, convE, buildE, List.replicate, Int.reduceLT, Int.reduceLE, Int.reduceToNat, mkE, mapSetE, hN, hF, ty_3, ty_4, ty_9, ty_24, ty_29, ty_31, ty_37, ty_74, ty_97, notIf, isEq, hlen, nt1, ntf, g1, h2, qm, k4, e1, hy, h6, q1, g5, e6, hp, g6, h7, qv]
            simp only [runB, finC, finD, Option.isSome_some, Option.isSome_none, ↓reduceIte, Nat.reduceEqDiff, Nat.reduceAdd, Nat.reduceMul, forall_eq_or_imp, forall_eq, implies_true, Nat.reduceBEq, reduceCtorEq, false_implies, List.zip_cons_cons, List.zip_nil_left, List.zip_nil_right, Nat.reduceLeDiff, List.forall_mem_nil, rs_65, ty_3, ty_4, ty_9, ty_24, ty_29, ty_31, ty_37, ty_74, ty_97]
          | true =>
            rw [v2] at qv
            have hst := hnext (by rw [hs, v1, decide_eq_false hi0, decide_eq_true hsg, v2]; simp)
            simp only [runA, runB, runC, runD, runE, runF, fieldE, storeE, binE, ↓reduceIte, Nat.reduceLT, Nat.reduceLeDiff, Nat.reduceEqDiff, Nat.reduceAdd, Nat.reduceMul, Nat.reduceSub, reduceCtorEq, putAt, unE, Nat.reduceBEq, convE, buildE, List.replicate, Int.reduceLT, Int.reduceLE, Int.reduceToNat, mkE, mapSetE, hN, hF, ty_3, ty_4, ty_9, ty_24, ty_29, ty_31, ty_37, ty_74, ty_97, notIf, isEq, hlen, nt1, ntf, g1, h2, qm, k4, e1, hy, h6, q1, g5, e6, hp, g6, h7, qv]
            refine drawnP_intro (by kernel_rfl) (by kernel_rfl) ?_
            simp only [runA, runB, runC, runD, runE, runF, fieldE, storeE, binE, ↓reduceIte, Nat.reduceLT, Nat.reduceLeDiff, Nat.reduceEqDiff, Nat.reduceAdd, Nat.reduceMul, Nat.reduceSub, reduceCtorEq, putAt, unE, Nat.reduceBEq, convE, buildE, List.replicate, Int.reduceLT, Int.reduceLE, Int.reduceToNat, mkE, mapSetE, hN, hF, ty_3, ty_4, ty_9, ty_24, ty_29, ty_31, ty_37, ty_74, ty_97, notIf, isEq, hlen, nt1, ntf, g1, h2, qm, k4, e1, hy, h6, q1, g5, e6, hp, g6, h7, qv]
            refine ⟨cvs.length - (i + 1), _, by omega, ?_, i + 1, ⟨by omega, hst⟩, rfl, rfl⟩
            rw [hns]
            simp only [runB, finC, finD, AS.get, AS.mem, false_implies, implies_true, ↓reduceIte, Nat.reduceEqDiff, Option.isSome_some, Option.isSome_none, forall_eq_or_imp, forall_eq, reduceCtorEq, Nat.reduceAdd, Nat.reduceMul, List.zip_cons_cons, List.zip_nil_left, List.zip_nil_right, List.forall_mem_nil]
            first | done | simp

end Go.Proofs.YtenmlgalcjkdbaaGreat.AM
