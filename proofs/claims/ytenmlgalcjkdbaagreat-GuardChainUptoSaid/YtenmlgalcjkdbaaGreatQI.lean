/-
  QI: Gu7 Gu8 Gu9.
-/
import Derived.Test.YtenmlgalcjkdbaaGreatQH
import Derived.Test.YtenmlgalcjkdbaaGreatQF
import Derived.Test.YtenmlgalcjkdbaaGreatQD
set_option linter.unusedVariables false
set_option linter.unusedSimpArgs false
namespace Go.Proofs.YtenmlgalcjkdbaaGreat.AM
open Go

variable {Γ : FuncId → Contract}


def lckS (s : Gs) (m : Mk) : Gs := if hiM m s.lo then { s with lo := m } else s
noncomputable def lckC : Contract := mkC (α := Gs × Mk) (fun p => True) (fun p => [p.1.av, p.2.av]) (fun p => []) (fun p => ⟨[.pv (Gs.av (lckS p.1 p.2)), .pv (.c (.bool (hiM p.2 ⟨p.1.lo.vw, p.1.lo.ht, p.1.lo.bl⟩)))], []⟩)
theorem lck_at (svw : Int) (svovw : Int) (svoht : Int) (svobl : List UInt8) (scovw : Int) (scoht : Int) (scobl : List UInt8) (slovw : Int) (sloht : Int) (slobl : List UInt8) (ssp : Bool) (mvw : Int) (mht : Int) (mbl : List UInt8) : lckC [(.agg [.c (.int .i64 svw), .c (.int .i64 svovw), .c (.int .i64 svoht), .c (.str svobl), .c (.int .i64 scovw), .c (.int .i64 scoht), .c (.str scobl), .c (.int .i64 slovw), .c (.int .i64 sloht), .c (.str slobl), .c (.bool ssp)]), (.agg [.c (.int .i64 mvw), .c (.int .i64 mht), .c (.str mbl)])] [] = some ⟨[.pv (Gs.av (lckS (⟨svw, ⟨svovw, svoht, svobl⟩, ⟨scovw, scoht, scobl⟩, ⟨slovw, sloht, slobl⟩, ssp⟩ : Gs) (⟨mvw, mht, mbl⟩ : Mk))), .pv (.c (.bool (hiM (⟨mvw, mht, mbl⟩ : Mk) ⟨slovw, sloht, slobl⟩)))], []⟩ := by
  exact mkC_at (α := Gs × Mk) (⟨svw, ⟨svovw, svoht, svobl⟩, ⟨scovw, scoht, scobl⟩, ⟨slovw, sloht, slobl⟩, ssp⟩, ⟨mvw, mht, mbl⟩) trivial (by
    rintro ⟨s', m'⟩ _ h ho
    have hh := And.intro h ho
    clear h ho
    simp only [List.cons.injEq, AV.c.injEq, AV.agg.injEq, PC.int.injEq, PC.str.injEq, PC.bool.injEq, PC.sl.injEq, OV.c.injEq, OV.own.injEq, OV.mp.injEq, bytes_iff, texts_iff, true_and, and_true, and_self, beq_self_eq_true, Gs.av_iff, Mk.av_iff] at hh
    simp only [hh])

set_option maxRecDepth 100000 in
set_option maxHeartbeats 4000000 in
theorem lck_sound (hΓ : SoundG Tryz.prog Γ) (h1 : Γ 82 = hiC) : SoundC Tryz.prog 39 lckC := by
  refine sound_fn Tryz.func39 (by kernel_rfl) rfl rfl ?_
  intro args objs r0 hr
  obtain ⟨⟨⟨svw, ⟨v1, v2, v3⟩, ⟨c1, c2, c3⟩, ⟨l1, l2, l3⟩, sp⟩, ⟨m1, m2, m3⟩⟩, _, rfl, rfl, rfl⟩ := mkC_inv hr
  refine ⟨rfl, by show 2 ≤ _; decide, fun E hN hns hF => ?_⟩
  refine vc_sound hΓ mixed _ _ _ ?_
  have hN := hN.trans nt_39
  have q1 := hi_at m1 m2 m3 l1 l2 l3
  unfold lckS Gs.av Mk.av
  dsimp only
  have nt1 : (!true) = false := rfl
  have ntf : (!false) = true := rfl
  cases hh : hiM ⟨m1, m2, m3⟩ ⟨l1, l2, l3⟩ with
  | true =>
    rw [hh] at q1
    rw [if_pos rfl]
    simp only [runA, runB, runC, runD, runE, runF, fieldE, storeE, binE, ↓reduceIte, Nat.reduceLT, Nat.reduceLeDiff, Nat.reduceEqDiff, Nat.reduceAdd, Nat.reduceMul, Nat.reduceSub, reduceCtorEq, putAt, unE, Nat.reduceBEq, convE, buildE, List.replicate, Int.reduceLT, Int.reduceLE, Int.reduceToNat, mkE, mapSetE, hN, hF, ty_3, ty_4, ty_9, ty_74, ty_78, notIf, isEq, h1, q1, nt1]
    simp only [runB, finC, finD, Option.isSome_some, Option.isSome_none, ↓reduceIte, Nat.reduceEqDiff, Nat.reduceAdd, Nat.reduceMul, forall_eq_or_imp, forall_eq, implies_true, Nat.reduceBEq, reduceCtorEq, false_implies, List.zip_cons_cons, List.zip_nil_left, List.zip_nil_right, Nat.reduceLeDiff, List.forall_mem_nil, rs_39, ty_3, ty_4, ty_9, ty_74, ty_78]
  | false =>
    rw [hh] at q1
    rw [if_neg (by simp)]
    simp only [runA, runB, runC, runD, runE, runF, fieldE, storeE, binE, ↓reduceIte, Nat.reduceLT, Nat.reduceLeDiff, Nat.reduceEqDiff, Nat.reduceAdd, Nat.reduceMul, Nat.reduceSub, reduceCtorEq, putAt, unE, Nat.reduceBEq, convE, buildE, List.replicate, Int.reduceLT, Int.reduceLE, Int.reduceToNat, mkE, mapSetE, hN, hF, ty_3, ty_4, ty_9, ty_74, ty_78, notIf, isEq, h1, q1, ntf]
    simp only [runB, finC, finD, Option.isSome_some, Option.isSome_none, ↓reduceIte, Nat.reduceEqDiff, Nat.reduceAdd, Nat.reduceMul, forall_eq_or_imp, forall_eq, implies_true, Nat.reduceBEq, reduceCtorEq, false_implies, List.zip_cons_cons, List.zip_nil_left, List.zip_nil_right, Nat.reduceLeDiff, List.forall_mem_nil, rs_39, ty_3, ty_4, ty_9, ty_74, ty_78]
noncomputable def votC : Contract := mkC (α := Gs × Mk) (fun p => True) (fun p => [p.1.av, p.2.av]) (fun p => []) (fun p => ⟨[.pv (Gs.av { p.1 with vo := p.2 })], []⟩)
theorem vot_at (svw : Int) (svovw : Int) (svoht : Int) (svobl : List UInt8) (scovw : Int) (scoht : Int) (scobl : List UInt8) (slovw : Int) (sloht : Int) (slobl : List UInt8) (ssp : Bool) (mvw : Int) (mht : Int) (mbl : List UInt8) : votC [(.agg [.c (.int .i64 svw), .c (.int .i64 svovw), .c (.int .i64 svoht), .c (.str svobl), .c (.int .i64 scovw), .c (.int .i64 scoht), .c (.str scobl), .c (.int .i64 slovw), .c (.int .i64 sloht), .c (.str slobl), .c (.bool ssp)]), (.agg [.c (.int .i64 mvw), .c (.int .i64 mht), .c (.str mbl)])] [] = some ⟨[.pv (Gs.av { (⟨svw, ⟨svovw, svoht, svobl⟩, ⟨scovw, scoht, scobl⟩, ⟨slovw, sloht, slobl⟩, ssp⟩ : Gs) with vo := (⟨mvw, mht, mbl⟩ : Mk) })], []⟩ := by
  exact mkC_at (α := Gs × Mk) (⟨svw, ⟨svovw, svoht, svobl⟩, ⟨scovw, scoht, scobl⟩, ⟨slovw, sloht, slobl⟩, ssp⟩, ⟨mvw, mht, mbl⟩) trivial (by
    rintro ⟨s', m'⟩ _ h ho
    have hh := And.intro h ho
    clear h ho
    simp only [List.cons.injEq, AV.c.injEq, AV.agg.injEq, PC.int.injEq, PC.str.injEq, PC.bool.injEq, PC.sl.injEq, OV.c.injEq, OV.own.injEq, OV.mp.injEq, bytes_iff, texts_iff, true_and, and_true, and_self, beq_self_eq_true, Gs.av_iff, Mk.av_iff] at hh
    simp only [hh])

set_option maxRecDepth 100000 in
set_option maxHeartbeats 4000000 in
theorem vot_sound  : SoundC Tryz.prog 36 votC := by
  refine sound_fn Tryz.func36 (by kernel_rfl) rfl rfl ?_
  intro args objs r0 hr
  obtain ⟨⟨⟨svw, ⟨v1, v2, v3⟩, ⟨c1, c2, c3⟩, ⟨l1, l2, l3⟩, sp⟩, ⟨m1, m2, m3⟩⟩, _, rfl, rfl, rfl⟩ := mkC_inv hr
  refine ⟨rfl, by show 2 ≤ _; decide, fun E hN hns hF => ?_⟩
  refine vc_sound none0_sound mixed _ _ _ ?_
  have hN := hN.trans nt_36
  unfold Gs.av Mk.av
  dsimp only
  simp only [runA, runB, runC, runD, runE, runF, fieldE, storeE, binE, ↓reduceIte, Nat.reduceLT, Nat.reduceLeDiff, Nat.reduceEqDiff, Nat.reduceAdd, Nat.reduceMul, Nat.reduceSub, reduceCtorEq, putAt, unE, Nat.reduceBEq, convE, buildE, List.replicate, Int.reduceLT, Int.reduceLE, Int.reduceToNat, mkE, mapSetE, hN, hF, ty_3, ty_4, ty_9, ty_74, ty_78, notIf, isEq]
  simp only [runB, finC, finD, Option.isSome_some, Option.isSome_none, ↓reduceIte, Nat.reduceEqDiff, Nat.reduceAdd, Nat.reduceMul, forall_eq_or_imp, forall_eq, implies_true, Nat.reduceBEq, reduceCtorEq, false_implies, List.zip_cons_cons, List.zip_nil_left, List.zip_nil_right, Nat.reduceLeDiff, List.forall_mem_nil, rs_36, ty_3, ty_4, ty_9, ty_74, ty_78]
noncomputable def cmtC : Contract := mkC (α := Gs × Mk) (fun p => True) (fun p => [p.1.av, p.2.av]) (fun p => []) (fun p => ⟨[.pv (Gs.av { p.1 with co := p.2 })], []⟩)
theorem cmt_at (svw : Int) (svovw : Int) (svoht : Int) (svobl : List UInt8) (scovw : Int) (scoht : Int) (scobl : List UInt8) (slovw : Int) (sloht : Int) (slobl : List UInt8) (ssp : Bool) (mvw : Int) (mht : Int) (mbl : List UInt8) : cmtC [(.agg [.c (.int .i64 svw), .c (.int .i64 svovw), .c (.int .i64 svoht), .c (.str svobl), .c (.int .i64 scovw), .c (.int .i64 scoht), .c (.str scobl), .c (.int .i64 slovw), .c (.int .i64 sloht), .c (.str slobl), .c (.bool ssp)]), (.agg [.c (.int .i64 mvw), .c (.int .i64 mht), .c (.str mbl)])] [] = some ⟨[.pv (Gs.av { (⟨svw, ⟨svovw, svoht, svobl⟩, ⟨scovw, scoht, scobl⟩, ⟨slovw, sloht, slobl⟩, ssp⟩ : Gs) with co := (⟨mvw, mht, mbl⟩ : Mk) })], []⟩ := by
  exact mkC_at (α := Gs × Mk) (⟨svw, ⟨svovw, svoht, svobl⟩, ⟨scovw, scoht, scobl⟩, ⟨slovw, sloht, slobl⟩, ssp⟩, ⟨mvw, mht, mbl⟩) trivial (by
    rintro ⟨s', m'⟩ _ h ho
    have hh := And.intro h ho
    clear h ho
    simp only [List.cons.injEq, AV.c.injEq, AV.agg.injEq, PC.int.injEq, PC.str.injEq, PC.bool.injEq, PC.sl.injEq, OV.c.injEq, OV.own.injEq, OV.mp.injEq, bytes_iff, texts_iff, true_and, and_true, and_self, beq_self_eq_true, Gs.av_iff, Mk.av_iff] at hh
    simp only [hh])

set_option maxRecDepth 100000 in
set_option maxHeartbeats 4000000 in
theorem cmt_sound  : SoundC Tryz.prog 38 cmtC := by
  refine sound_fn Tryz.func38 (by kernel_rfl) rfl rfl ?_
  intro args objs r0 hr
  obtain ⟨⟨⟨svw, ⟨v1, v2, v3⟩, ⟨c1, c2, c3⟩, ⟨l1, l2, l3⟩, sp⟩, ⟨m1, m2, m3⟩⟩, _, rfl, rfl, rfl⟩ := mkC_inv hr
  refine ⟨rfl, by show 2 ≤ _; decide, fun E hN hns hF => ?_⟩
  refine vc_sound none0_sound mixed _ _ _ ?_
  have hN := hN.trans nt_38
  unfold Gs.av Mk.av
  dsimp only
  simp only [runA, runB, runC, runD, runE, runF, fieldE, storeE, binE, ↓reduceIte, Nat.reduceLT, Nat.reduceLeDiff, Nat.reduceEqDiff, Nat.reduceAdd, Nat.reduceMul, Nat.reduceSub, reduceCtorEq, putAt, unE, Nat.reduceBEq, convE, buildE, List.replicate, Int.reduceLT, Int.reduceLE, Int.reduceToNat, mkE, mapSetE, hN, hF, ty_3, ty_4, ty_9, ty_74, ty_78, notIf, isEq]
  simp only [runB, finC, finD, Option.isSome_some, Option.isSome_none, ↓reduceIte, Nat.reduceEqDiff, Nat.reduceAdd, Nat.reduceMul, forall_eq_or_imp, forall_eq, implies_true, Nat.reduceBEq, reduceCtorEq, false_implies, List.zip_cons_cons, List.zip_nil_left, List.zip_nil_right, Nat.reduceLeDiff, List.forall_mem_nil, rs_38, ty_3, ty_4, ty_9, ty_74, ty_78]
noncomputable def rmkC : Contract := mkC (α := Blk) (fun p => p.txs.length ≤ 9223372036854775807) (fun p => [p.av]) (fun p => []) (fun p => ⟨[.pv (Mk.av ⟨p.vw, p.ht, nameS p⟩)], []⟩)
theorem rmk_at (bvw : Int) (bht : Int) (bpa : List UInt8) (bjvw : Int) (bjht : Int) (bjbl : List UInt8) (bjvs : List Vt) (btxs : List Txn) (bsig : List UInt8) (g0 : btxs.length ≤ 9223372036854775807) : rmkC [(.agg [.c (.int .i64 bvw), .c (.int .i64 bht), .c (.str bpa), .c (.int .i64 bjvw), .c (.int .i64 bjht), .c (.str bjbl), .c (.sl (votes bjvs)), .c (.sl (trows btxs)), .c (.str bsig)])] [] = some ⟨[.pv (Mk.av ⟨bvw, bht, nameS (⟨bvw, bht, bpa, ⟨bjvw, bjht, bjbl, bjvs⟩, btxs, bsig⟩ : Blk)⟩)], []⟩ := by
  exact mkC_at (α := Blk) ⟨bvw, bht, bpa, ⟨bjvw, bjht, bjbl, bjvs⟩, btxs, bsig⟩ g0 (by
    rintro b' _ h ho
    have hh := And.intro h ho
    clear h ho
    simp only [List.cons.injEq, AV.c.injEq, AV.agg.injEq, PC.int.injEq, PC.str.injEq, PC.bool.injEq, PC.sl.injEq, OV.c.injEq, OV.own.injEq, OV.mp.injEq, bytes_iff, texts_iff, true_and, and_true, and_self, beq_self_eq_true, Blk.av_iff] at hh
    simp only [hh])

set_option maxRecDepth 100000 in
set_option maxHeartbeats 4000000 in
theorem rmk_sound (hΓ : SoundG Tryz.prog Γ) (h1 : Γ 17 = bkNC) : SoundC Tryz.prog 34 rmkC := by
  refine sound_fn Tryz.func34 (by kernel_rfl) rfl rfl ?_
  intro args objs r0 hr
  obtain ⟨⟨vw, ht, pa, ⟨jv, jh, jb, js⟩, txs, sig⟩, hl, rfl, rfl, rfl⟩ := mkC_inv hr
  refine ⟨rfl, by show 1 ≤ _; decide, fun E hN hns hF => ?_⟩
  refine vc_sound hΓ mixed _ _ _ ?_
  have hN := hN.trans nt_34
  have q1 := bkN_at vw ht pa jv jh jb js txs sig hl
  unfold Blk.av Mk.av
  dsimp only
  generalize nameS ⟨vw, ht, pa, ⟨jv, jh, jb, js⟩, txs, sig⟩ = nm at q1 ⊢
  simp only [runA, runB, runC, runD, runE, runF, fieldE, storeE, binE, ↓reduceIte, Nat.reduceLT, Nat.reduceLeDiff, Nat.reduceEqDiff, Nat.reduceAdd, Nat.reduceMul, Nat.reduceSub, reduceCtorEq, putAt, unE, Nat.reduceBEq, convE, buildE, List.replicate, Int.reduceLT, Int.reduceLE, Int.reduceToNat, mkE, mapSetE, hN, hF, ty_3, ty_9, ty_22, ty_31, ty_33, ty_74, notIf, isEq, h1, q1]
  refine drawnP_intro (by kernel_rfl) (by kernel_rfl) ?_
  simp only [runA, runB, runC, runD, runE, runF, fieldE, storeE, binE, ↓reduceIte, Nat.reduceLT, Nat.reduceLeDiff, Nat.reduceEqDiff, Nat.reduceAdd, Nat.reduceMul, Nat.reduceSub, reduceCtorEq, putAt, unE, Nat.reduceBEq, convE, buildE, List.replicate, Int.reduceLT, Int.reduceLE, Int.reduceToNat, mkE, mapSetE, hN, hF, ty_3, ty_9, ty_22, ty_31, ty_33, ty_74, notIf, isEq, h1, q1]
  simp only [runB, finC, finD, Option.isSome_some, Option.isSome_none, ↓reduceIte, Nat.reduceEqDiff, Nat.reduceAdd, Nat.reduceMul, forall_eq_or_imp, forall_eq, implies_true, Nat.reduceBEq, reduceCtorEq, false_implies, List.zip_cons_cons, List.zip_nil_left, List.zip_nil_right, Nat.reduceLeDiff, List.forall_mem_nil, rs_34, ty_3, ty_9, ty_22, ty_31, ty_33, ty_74]

theorem rmk_p (b : Blk) (h : b.txs.length ≤ 9223372036854775807) : rmkC [.agg [.c (.int .i64 b.vw), .c (.int .i64 b.ht), .c (.str b.pa), .c (.int .i64 b.ju.vw), .c (.int .i64 b.ju.ht), .c (.str b.ju.bl), .c (.sl (votes b.ju.vs)), .c (.sl (trows b.txs)), .c (.str b.sig)]] [] = some ⟨[.pv (.agg [.c (.int .i64 b.vw), .c (.int .i64 b.ht), .c (.str (nameS b))])], []⟩ := rmk_at b.vw b.ht b.pa b.ju.vw b.ju.ht b.ju.bl b.ju.vs b.txs b.sig h
theorem okB_ht {b : Blk} (h : okB b) : 0 < b.ht := by
  have := h.2.1.1
  omega
/-! extends, further -/
theorem known_gen {own : List Blk} {a : List UInt8} (h : (walkS own a).2 = true) : atB own genS = none := by
  have hp := walkS_path h
  rcases List.eq_nil_or_concat (walkS own a).1 with e | ⟨A, x, e⟩
  · rw [e] at hp
    have hp : atB own a = none := hp
    have : a = genS := by
      unfold walkS at h e
      rw [walkL_none hp, walkE_nil] at h
      simpa using h
    rw [← this]
    exact hp
  · rw [List.concat_eq_append] at e
    have hx := walkS_last h e
    rw [e] at hp
    have := isPath_split (A := A) (x := x) (T := []) hp
    rw [← hx]
    exact this
theorem ext_trans {own : List Blk} {a b c : List UInt8} (hb : extS own a b = true) (hc : extS own b c = true) : extS own a c = true := by
  obtain ⟨ha, hb'⟩ := extS_of hb
  obtain ⟨kb, hc'⟩ := extS_of hc
  rcases hc' with rfl | rfl | ⟨A2, y, T2, e2, rfl⟩
  · exact hb
  · exact ext_gen ha
  · rcases hb' with rfl | rfl | ⟨A, x, T, e1, rfl⟩
    · exact hc
    · have hp := walkS_path kb
      have hn := known_gen ha
      rw [e2] at hp
      cases A2 with
      | nil => rw [hp.1] at hn; cases hn
      | cons d A2 => have := hp.1; rw [this] at hn; cases hn
    · have hp := walkS_path ha
      rw [e1] at hp
      have hpb : (walkS own x.pa).1 = T := isPath_one (walkS_path kb) (isPath_split hp)
      refine ext_mem ha ?_
      rw [e1, ← hpb, e2]
      simp
/-! what is signed -/
structure Inv (o : List Blk) (s : Gs) (sg : List Mk) (high : Int) : Prop where
  vw : s.vw = 0
  v : s.vo.bl ≠ [] → s.vo.vw = 0 ∧ 0 < s.vo.ht ∧ s.vo.ht = high ∧ (walkS o s.vo.bl).2 = true
  v0 : s.vo.bl = [] → high = 0
  c : s.co.bl ≠ [] → s.co.vw = 0 ∧ 0 < s.co.ht ∧ (walkS o s.co.bl).2 = true
  sg : ∀ x ∈ sg, (s.vo.bl ≠ [] ∧ extS o s.vo.bl x.bl = true) ∨ (s.co.bl ≠ [] ∧ extS o s.co.bl x.bl = true)
  cmp : s.vo.bl ≠ [] → s.co.bl ≠ [] → extS o s.vo.bl s.co.bl = true ∨ extS o s.co.bl s.vo.bl = true
theorem mine_v {o : List Blk} {s : Gs} {sg : List Mk} {high : Int} (I : Inv o s sg high) (h : s.vo.bl ≠ []) : mineM s s.vo = true := by
  obtain ⟨h1, h2, _⟩ := I.v h
  unfold mineM
  rw [show (s.vo.bl == []) = false from beq_eq_false_iff_ne.2 h, decide_eq_true h2, h1, I.vw]
  rfl
theorem mine_c {o : List Blk} {s : Gs} {sg : List Mk} {high : Int} (I : Inv o s sg high) (h : s.co.bl ≠ []) : mineM s s.co = true := by
  obtain ⟨h1, h2, _⟩ := I.c h
  unfold mineM
  rw [show (s.co.bl == []) = false from beq_eq_false_iff_ne.2 h, decide_eq_true h2, h1, I.vw]
  rfl
theorem inv_begin (o : List Blk) : Inv o beg [] 0 := ⟨rfl, fun h => absurd rfl h, fun _ => rfl, fun h => absurd rfl h, by simp, fun h => absurd rfl h⟩
theorem inv_lock {o : List Blk} {s : Gs} {sg : List Mk} {high : Int} (I : Inv o s sg high) (m : Mk) : Inv o (lckS s m) sg high := by
  unfold lckS
  split
  · exact ⟨I.vw, I.v, I.v0, I.c, I.sg, I.cmp⟩
  · exact I
theorem mayV_of {s : Gs} {o : List Blk} {b : Blk} (h : mayV s o b = true) : b.vw = s.vw ∧ (walkS o (nameS b)).2 = true ∧ (mineM s s.vo = true → s.vo.ht < b.ht) ∧ (mineM s s.vo = true → extS o (nameS b) s.vo.bl = true) ∧ (mineM s s.co = true → extS o (nameS b) s.co.bl = true) := by
  unfold mayV at h
  split at h
  · cases h
  · rename_i h1
    split at h
    · cases h
    · rename_i h2
      unfold mayE at h
      simp only [Bool.or_eq_true, bne_iff_ne, not_or, Decidable.not_not, Bool.and_eq_true, Bool.not_eq_true', decide_eq_true_eq, not_and, Int.not_le] at h1 h2 h
      refine ⟨h1.1, by simpa using h2.1, fun k => h2.2 k, fun k => ?_, fun k => ?_⟩
      · have := h.1
        rw [k, Bool.true_and] at this
        simpa using this
      · have := h.2.1
        rw [k, Bool.true_and] at this
        simpa using this
theorem inv_vote {o : List Blk} {s : Gs} {sg : List Mk} {high : Int} (I : Inv o s sg high) {b : Blk} (hb : okB b) (h : mayV s o b = true) : high < b.ht ∧ Inv o { s with vo := ⟨b.vw, b.ht, nameS b⟩ } (sg ++ [⟨b.vw, b.ht, nameS b⟩]) b.ht := by
  obtain ⟨h1, h2, h3, h4, h5⟩ := mayV_of h
  have hne : nameS b ≠ [] := by
    intro e
    have := nameS_len hb
    rw [e] at this
    cases this
  have hpos : 0 < b.ht := okB_ht hb
  refine ⟨?_, I.vw, fun _ => ⟨h1.trans I.vw, hpos, rfl, h2⟩, fun e => absurd e hne, I.c, fun x hx => ?_, fun _ hc => .inl (h5 (mine_c I hc))⟩
  · by_cases hv : s.vo.bl = []
    · rw [I.v0 hv]; exact hpos
    · have := h3 (mine_v I hv)
      rw [(I.v hv).2.2.1] at this
      exact this
  · rcases List.mem_append.1 hx with hx | hx
    · rcases I.sg x hx with ⟨a1, a2⟩ | a
      · exact .inl ⟨hne, ext_trans (h4 (mine_v I a1)) a2⟩
      · exact .inr a
    · simp only [List.mem_singleton] at hx
      subst hx
      exact .inl ⟨hne, ext_self h2⟩
theorem mayC_of {s : Gs} {o : List Blk} {m : Mk} (h : mayC s o m = true) : m.vw = s.vw ∧ (walkS o m.bl).2 = true ∧ (mineM s s.co = true → extS o m.bl s.co.bl = true) ∧ (mineM s s.vo = true → extS o m.bl s.vo.bl = true ∨ extS o s.vo.bl m.bl = true) := by
  unfold mayC at h
  split at h
  · cases h
  · rename_i h1
    split at h
    · cases h
    · rename_i h2
      split at h
      · cases h
      · rename_i h3
        refine ⟨?_, by simpa using h2, fun k => ?_, fun k => ?_⟩
        · simp only [Bool.or_eq_true, bne_iff_ne, not_or, Decidable.not_not] at h1
          exact h1.2.1
        · rw [k, Bool.true_and] at h3
          simp only [Bool.or_eq_true, not_or, Bool.not_eq_true', Bool.not_eq_false] at h3
          exact h3.2
        · rw [k] at h
          simpa using h
theorem inv_commit {o : List Blk} {s : Gs} {sg : List Mk} {high : Int} (I : Inv o s sg high) {b : Blk} (hb : okB b) (h : mayC s o ⟨b.vw, b.ht, nameS b⟩ = true) : Inv o { s with co := ⟨b.vw, b.ht, nameS b⟩ } (sg ++ [⟨b.vw, b.ht, nameS b⟩]) high := by
  obtain ⟨h1, h2, h3, h4⟩ := mayC_of h
  have hne : nameS b ≠ [] := by
    intro e
    have := nameS_len hb
    rw [e] at this
    cases this
  have hpos : 0 < b.ht := okB_ht hb
  refine ⟨I.vw, I.v, I.v0, fun _ => ⟨h1.trans I.vw, hpos, h2⟩, fun x hx => ?_, fun hv _ => (h4 (mine_v I hv)).symm⟩
  rcases List.mem_append.1 hx with hx | hx
  · rcases I.sg x hx with a | ⟨a1, a2⟩
    · exact .inl a
    · exact .inr ⟨hne, ext_trans (h3 (mine_c I a1)) a2⟩
  · simp only [List.mem_singleton] at hx
    subst hx
    exact .inr ⟨hne, ext_self h2⟩
theorem inv_con {o : List Blk} {s : Gs} {sg : List Mk} {high : Int} (I : Inv o s sg high) {x y : Mk} (hx : x ∈ sg) (hy : y ∈ sg) : conS o x.bl y.bl = false := by
  rcases I.sg x hx with ⟨a1, a2⟩ | ⟨a1, a2⟩ <;> rcases I.sg y hy with ⟨b1, b2⟩ | ⟨b1, b2⟩
  · exact three a2 b2
  · rcases I.cmp a1 b1 with h | h
    · exact three a2 (ext_trans h b2)
    · exact three (ext_trans h a2) b2
  · rcases I.cmp b1 a1 with h | h
    · exact three (ext_trans h a2) b2
    · exact three a2 (ext_trans h b2)
  · exact three a2 b2

end Go.Proofs.YtenmlgalcjkdbaaGreat.AM
set_option linter.unusedVariables false
set_option linter.unusedSimpArgs false
namespace Go.Proofs.YtenmlgalcjkdbaaGreat.AM
open Go

variable {Γ : FuncId → Contract}


noncomputable def ownT (l : List Blk) : List Blk := ownI l (min 10 l.length)
def zints (l : List Int) : List (List PC) := l.map fun x => [PC.int .i64 x]
theorem zints_iff {a b : List Int} : zints a = zints b ↔ a = b := ⟨map_inj' fun x y h => by simpa using h, fun h => by rw [h]⟩
theorem zints_length (l : List Int) : (zints l).length = l.length := by simp [zints]
theorem zintsD (l : List Int) (i : Nat) (h : i < l.length) : (zints l)[i]? = some [.int .i64 (l.getD i 0)] := by simp [zints, List.getD, h]
def mrows (l : List Mk) : List (List PC) := l.map fun m => [.int .i64 m.vw, .int .i64 m.ht, .str m.bl]
theorem mrows_length (l : List Mk) : (mrows l).length = l.length := by simp [mrows]
theorem mrows_snoc (l : List Mk) (m : Mk) : mrows l ++ [[.int .i64 m.vw, .int .i64 m.ht, .str m.bl]] = mrows (l ++ [m]) := by simp [mrows]
def zeroM : Mk := ⟨0, 0, []⟩
theorem mrowsD (l : List Mk) (i : Nat) (h : i < l.length) : (mrows l)[i]? = some [.int .i64 (l.getD i zeroM).vw, .int .i64 (l.getD i zeroM).ht, .str (l.getD i zeroM).bl] := by simp [mrows, List.getD, h]
theorem rowsOK_mrows (l : List Mk) : rowsOK 3 (mrows l) := by
  intro r hr
  obtain ⟨t, _, rfl⟩ := List.mem_map.1 hr
  rfl
theorem mv_p (s : Gs) (o : List Blk) (b : Blk) (ho : treeOK o) (h : b.txs.length ≤ 9223372036854775807) : mvC [.agg [.c (.int .i64 s.vw), .c (.int .i64 s.vo.vw), .c (.int .i64 s.vo.ht), .c (.str s.vo.bl), .c (.int .i64 s.co.vw), .c (.int .i64 s.co.ht), .c (.str s.co.bl), .c (.int .i64 s.lo.vw), .c (.int .i64 s.lo.ht), .c (.str s.lo.bl), .c (.bool s.sp)], .ptr 6400000 0, .agg [.c (.int .i64 b.vw), .c (.int .i64 b.ht), .c (.str b.pa), .c (.int .i64 b.ju.vw), .c (.int .i64 b.ju.ht), .c (.str b.ju.bl), .c (.sl (votes b.ju.vs)), .c (.sl (trows b.txs)), .c (.str b.sig)]] [[.mp true (esOf o)]] = some ⟨[.pv (.c (.bool (mayV s o b)))], [[.mp true (esOf o)]]⟩ := mv_at s.vw s.vo.vw s.vo.ht s.vo.bl s.co.vw s.co.ht s.co.bl s.lo.vw s.lo.ht s.lo.bl s.sp o b.vw b.ht b.pa b.ju.vw b.ju.ht b.ju.bl b.ju.vs b.txs b.sig ho h
theorem mc_p (s : Gs) (o : List Blk) (b : Blk) (ho : treeOK o) : mcC [.agg [.c (.int .i64 s.vw), .c (.int .i64 s.vo.vw), .c (.int .i64 s.vo.ht), .c (.str s.vo.bl), .c (.int .i64 s.co.vw), .c (.int .i64 s.co.ht), .c (.str s.co.bl), .c (.int .i64 s.lo.vw), .c (.int .i64 s.lo.ht), .c (.str s.lo.bl), .c (.bool s.sp)], .ptr 6400000 0, .agg [.c (.int .i64 b.vw), .c (.int .i64 b.ht), .c (.str (nameS b))]] [[.mp true (esOf o)]] = some ⟨[.pv (.c (.bool (mayC s o ⟨b.vw, b.ht, nameS b⟩)))], [[.mp true (esOf o)]]⟩ := mc_at s.vw s.vo.vw s.vo.ht s.vo.bl s.co.vw s.co.ht s.co.bl s.lo.vw s.lo.ht s.lo.bl s.sp o b.vw b.ht (nameS b) ho
theorem vot_p (s s' : Gs) (b : Blk) (h : s' = { s with vo := ⟨b.vw, b.ht, nameS b⟩ }) : votC [.agg [.c (.int .i64 s.vw), .c (.int .i64 s.vo.vw), .c (.int .i64 s.vo.ht), .c (.str s.vo.bl), .c (.int .i64 s.co.vw), .c (.int .i64 s.co.ht), .c (.str s.co.bl), .c (.int .i64 s.lo.vw), .c (.int .i64 s.lo.ht), .c (.str s.lo.bl), .c (.bool s.sp)], .agg [.c (.int .i64 b.vw), .c (.int .i64 b.ht), .c (.str (nameS b))]] [] = some ⟨[.pv (.agg [.c (.int .i64 s'.vw), .c (.int .i64 s'.vo.vw), .c (.int .i64 s'.vo.ht), .c (.str s'.vo.bl), .c (.int .i64 s'.co.vw), .c (.int .i64 s'.co.ht), .c (.str s'.co.bl), .c (.int .i64 s'.lo.vw), .c (.int .i64 s'.lo.ht), .c (.str s'.lo.bl), .c (.bool s'.sp)])], []⟩ := by
  subst h
  exact vot_at s.vw s.vo.vw s.vo.ht s.vo.bl s.co.vw s.co.ht s.co.bl s.lo.vw s.lo.ht s.lo.bl s.sp b.vw b.ht (nameS b)
theorem cmt_p (s s' : Gs) (b : Blk) (h : s' = { s with co := ⟨b.vw, b.ht, nameS b⟩ }) : cmtC [.agg [.c (.int .i64 s.vw), .c (.int .i64 s.vo.vw), .c (.int .i64 s.vo.ht), .c (.str s.vo.bl), .c (.int .i64 s.co.vw), .c (.int .i64 s.co.ht), .c (.str s.co.bl), .c (.int .i64 s.lo.vw), .c (.int .i64 s.lo.ht), .c (.str s.lo.bl), .c (.bool s.sp)], .agg [.c (.int .i64 b.vw), .c (.int .i64 b.ht), .c (.str (nameS b))]] [] = some ⟨[.pv (.agg [.c (.int .i64 s'.vw), .c (.int .i64 s'.vo.vw), .c (.int .i64 s'.vo.ht), .c (.str s'.vo.bl), .c (.int .i64 s'.co.vw), .c (.int .i64 s'.co.ht), .c (.str s'.co.bl), .c (.int .i64 s'.lo.vw), .c (.int .i64 s'.lo.ht), .c (.str s'.lo.bl), .c (.bool s'.sp)])], []⟩ := by
  subst h
  exact cmt_at s.vw s.vo.vw s.vo.ht s.vo.bl s.co.vw s.co.ht s.co.bl s.lo.vw s.lo.ht s.lo.bl s.sp b.vw b.ht (nameS b)
theorem lck_p (s s' : Gs) (m : Mk) (h : s' = lckS s m) : lckC [.agg [.c (.int .i64 s.vw), .c (.int .i64 s.vo.vw), .c (.int .i64 s.vo.ht), .c (.str s.vo.bl), .c (.int .i64 s.co.vw), .c (.int .i64 s.co.ht), .c (.str s.co.bl), .c (.int .i64 s.lo.vw), .c (.int .i64 s.lo.ht), .c (.str s.lo.bl), .c (.bool s.sp)], .agg [.c (.int .i64 m.vw), .c (.int .i64 m.ht), .c (.str m.bl)]] [] = some ⟨[.pv (.agg [.c (.int .i64 s'.vw), .c (.int .i64 s'.vo.vw), .c (.int .i64 s'.vo.ht), .c (.str s'.vo.bl), .c (.int .i64 s'.co.vw), .c (.int .i64 s'.co.ht), .c (.str s'.co.bl), .c (.int .i64 s'.lo.vw), .c (.int .i64 s'.lo.ht), .c (.str s'.lo.bl), .c (.bool s'.sp)]), .pv (.c (.bool (hiM m s.lo)))], []⟩ := by
  subst h
  exact lck_at s.vw s.vo.vw s.vo.ht s.vo.bl s.co.vw s.co.ht s.co.bl s.lo.vw s.lo.ht s.lo.bl s.sp m.vw m.ht m.bl
def alive17C : Contract := fun args objs => match args, objs with | [], [] => some ⟨[.pv (.c (.bool true))], []⟩ | _, _ => none
set_option maxHeartbeats 4000000 in
theorem alive17_sound (hΓ : SoundG Tryz.prog Γ) (h1 : Γ 33 = begC) (h2 : Γ 79 = entC) : SoundC Tryz.prog 31 alive17C := by
  refine sound_fn Tryz.func31 (by kernel_rfl) rfl rfl ?_
  intro args objs r hr
  unfold alive17C at hr
  split at hr
  · cases hr
    refine ⟨rfl, by show 0 ≤ _; decide, fun E hN hns hF => ?_⟩
    refine vc_sound hΓ mixed _ _ _ ?_
    have hN := hN.trans nt_31
    have q1 : begC [] [] = some ⟨[.pv beg.av], []⟩ := rfl
    have q2 := ent_at 0 0 0 [] 0 0 [] 0 0 genS false 0
    have q3 := ent_at 0 0 0 [] 0 0 [] 0 0 genS false 3
    have x2 : entS ⟨0, ⟨0, 0, []⟩, ⟨0, 0, []⟩, ⟨0, 0, genS⟩, false⟩ 0 = beg := rfl
    have x3 : entS ⟨0, ⟨0, 0, []⟩, ⟨0, 0, []⟩, ⟨0, 0, genS⟩, false⟩ 3 = ⟨3, ⟨0, 0, []⟩, ⟨0, 0, []⟩, ⟨0, 0, genS⟩, false⟩ := rfl
    have y2 : decide ((0 : Int) < 0) = false := rfl
    have y3 : decide ((0 : Int) < 3) = true := rfl
    rw [x2] at q2
    rw [x3] at q3
    rw [y2] at q2
    rw [y3] at q3
    unfold beg at q1 q2
    unfold Gs.av at q1 q2 q3
    dsimp only at q1 q2 q3
    have hlg : genS.length = 32 := rfl
    have b1 : ((3 : Int) == 3) = true := rfl
    have b2 : (((32 : Nat) : Int) == 32) = true := rfl
    have nt1 : (!true) = false := rfl
    have ntf : (!false) = true := rfl
    generalize genS = g at q1 q2 q3 hlg
    simp only [runA, runB, runC, runD, runE, runF, fieldE, storeE, binE, ↓reduceIte, Nat.reduceLT, Nat.reduceLeDiff, Nat.reduceEqDiff, Nat.reduceAdd, Nat.reduceMul, Nat.reduceSub, reduceCtorEq, putAt, unE, Nat.reduceBEq, convE, buildE, List.replicate, Int.reduceLT, Int.reduceLE, Int.reduceToNat, mkE, mapSetE, hN, hF, ty_3, ty_4, ty_9, ty_74, ty_78, notIf, isEq, h1, h2, q1, q2, q3, hlg, b1, b2, nt1, ntf]
    simp only [runB, finC, finD, Option.isSome_some, Option.isSome_none, ↓reduceIte, Nat.reduceEqDiff, Nat.reduceAdd, Nat.reduceMul, forall_eq_or_imp, forall_eq, implies_true, Nat.reduceBEq, reduceCtorEq, false_implies, List.zip_cons_cons, List.zip_nil_left, List.zip_nil_right, Nat.reduceLeDiff, List.forall_mem_nil, rs_31, ty_3, ty_4, ty_9, ty_74, ty_78]
  · cases hr
noncomputable def laid17C : Contract := mkC (α := List Blk) (fun p => okBl p) (fun p => [.c (.sl (brows p))]) (fun p => []) (fun p => ⟨[.newobj [.mp true (esOf (ownT p))], .pv (.c (.sl (brows (ownT p))))], []⟩)
theorem laid17_at (l : List Blk) (g0 : okBl l) : laid17C [.c (.sl (brows l))] [] = some ⟨[.newobj [.mp true (esOf (ownT l))], .pv (.c (.sl (brows (ownT l))))], []⟩ := by
  exact mkC_at (α := List Blk) l g0 (by
    rintro l' _ h ho
    have hh := And.intro h ho
    clear h ho
    simp only [List.cons.injEq, AV.c.injEq, AV.agg.injEq, PC.int.injEq, PC.str.injEq, PC.bool.injEq, PC.sl.injEq, OV.c.injEq, OV.own.injEq, OV.mp.injEq, bytes_iff, texts_iff, true_and, and_true, and_self, beq_self_eq_true, brows_iff] at hh
    simp only [hh])

set_option maxRecDepth 100000 in
set_option maxHeartbeats 4000000 in
theorem laid17_sound (hΓ : SoundG Tryz.prog Γ) (h1 : Γ 23 = newTC) (h5 : Γ 24 = putTC) : SoundC Tryz.prog 32 laid17C := by
  refine sound_fn Tryz.func32 (by kernel_rfl) rfl rfl ?_
  intro args objs r0 hr
  obtain ⟨l, hl, rfl, rfl, rfl⟩ := mkC_inv hr
  refine ⟨rfl, by show 1 ≤ _; decide, fun E hN hns hF => ?_⟩
  refine vc_sound hΓ mixed _ _ _ ?_
  have hN := hN.trans nt_32
  have hl : okBl l := hl
  have hl1 := hl.1
  simp only [runA, runB, runC, runD, runE, runF, fieldE, storeE, binE, ↓reduceIte, Nat.reduceLT, Nat.reduceLeDiff, Nat.reduceEqDiff, Nat.reduceAdd, Nat.reduceMul, Nat.reduceSub, reduceCtorEq, putAt, unE, Nat.reduceBEq, convE, buildE, List.replicate, Int.reduceLT, Int.reduceLE, Int.reduceToNat, mkE, mapSetE, hN, hF, ty_3, ty_9, ty_22, ty_31, ty_33, ty_57, ty_59, notIf, isEq, h1, newT_at]
  refine AWP.loop (fun k st => ∃ (i : Nat) (o : List Blk), i ≤ min 10 l.length ∧ k = min 10 l.length - i ∧ o = ownI l i ∧ ((o = [] ∧ st = ⟨[(0, .c (.sl (brows l))), (4, .ptr 450 0), (5, .nilsl), (6, .c (.int .i64 (i : Int)))], [(450, .obj [.mp 458] false), (458, .mp true [])]⟩) ∨ st = ⟨[(0, .c (.sl (brows l))), (4, .ptr 450 0), (5, .own 1921 9 (brows o)), (6, .c (.int .i64 (i : Int)))], [(450, .obj [.mp 458] false), (458, .mp true (esOf o)), (1921, .row 9 o.length)]⟩)) ⟨min 10 l.length, _, ?w, 0, [], Nat.zero_le _, rfl, rfl, .inl ⟨rfl, rfl⟩⟩ ?r
  case w =>
    rw [hns]
    simp only [runB, finC, finD, AS.get, AS.mem, false_implies, implies_true, ↓reduceIte, Nat.reduceEqDiff, Option.isSome_some, Option.isSome_none, forall_eq_or_imp, forall_eq, reduceCtorEq, Nat.reduceAdd, Nat.reduceMul, List.zip_cons_cons, List.zip_nil_left, List.zip_nil_right, List.forall_mem_nil, esOf_nil]
    first | done | simp
  case r =>
    rintro k st ⟨i, o, hi, rfl, ho, h⟩
    refine vc_sound hΓ mixed _ _ _ ?_
    have e1 : IntKind.i64.wrap ((i : Int) + 1) = (i : Int) + 1 := wrapI (by omega)
    have hol := (ownI_ok hl i (by omega)).1
    rw [← ho] at hol
    have hbo := brows_length o
    by_cases hlt : i < min 10 l.length
    · have k1 : decide ((i : Int) < (l.length : Int)) = true := decide_eq_true (by omega)
      have k2 : decide ((i : Int) < 10) = true := decide_eq_true (by omega)
      have hlt' : i < l.length := by omega
      have hg := browsD l i hlt'
      have hsm := okBl_getD hl hlt'
      have hsucc := ownI_succ hlt'
      rw [← ho] at hsucc
      unfold Blk.pcs at hg
      generalize l.getD i zeroBk = y at hg hsm hsucc
      have q5 := putT_p o y ⟨by omega, by omega⟩
      cases hP : putB' o y with
      | false =>
        have hO : putO o y = o := by unfold putO; rw [hP]; rfl
        rw [hP, hO] at q5
        rw [hO] at hsucc
        rcases h with ⟨rfl, rfl⟩ | rfl
        · rw [esOf_nil] at q5
          simp only [runA, runB, runC, runD, runE, runF, fieldE, storeE, binE, ↓reduceIte, Nat.reduceLT, Nat.reduceLeDiff, Nat.reduceEqDiff, Nat.reduceAdd, Nat.reduceMul, Nat.reduceSub, reduceCtorEq, putAt, unE, Nat.reduceBEq, convE, buildE, List.replicate, Int.reduceLT, Int.reduceLE, Int.reduceToNat, mkE, mapSetE, hN, hF, ty_3, ty_9, ty_22, ty_31, ty_33, ty_57, ty_59, notIf, isEq, k1, k2, e1, hg, h5, q5, brows_length, esOf_nil]
          refine ⟨min 10 l.length - (i + 1), _, by omega, ?_, i + 1, [], by omega, rfl, hsucc.symm, .inl ⟨rfl, rfl⟩⟩
          rw [hns]
          simp only [runB, finC, finD, AS.get, AS.mem, false_implies, implies_true, ↓reduceIte, Nat.reduceEqDiff, Option.isSome_some, Option.isSome_none, forall_eq_or_imp, forall_eq, reduceCtorEq, Nat.reduceAdd, Nat.reduceMul, List.zip_cons_cons, List.zip_nil_left, List.zip_nil_right, List.forall_mem_nil, esOf_nil]
          first | done | simp
        · simp only [runA, runB, runC, runD, runE, runF, fieldE, storeE, binE, ↓reduceIte, Nat.reduceLT, Nat.reduceLeDiff, Nat.reduceEqDiff, Nat.reduceAdd, Nat.reduceMul, Nat.reduceSub, reduceCtorEq, putAt, unE, Nat.reduceBEq, convE, buildE, List.replicate, Int.reduceLT, Int.reduceLE, Int.reduceToNat, mkE, mapSetE, hN, hF, ty_3, ty_9, ty_22, ty_31, ty_33, ty_57, ty_59, notIf, isEq, k1, k2, e1, hg, h5, q5, brows_length]
          refine ⟨min 10 l.length - (i + 1), _, by omega, ?_, i + 1, o, by omega, rfl, hsucc.symm, .inr rfl⟩
          rw [hns]
          simp only [runB, finC, finD, AS.get, AS.mem, false_implies, implies_true, ↓reduceIte, Nat.reduceEqDiff, Option.isSome_some, Option.isSome_none, forall_eq_or_imp, forall_eq, reduceCtorEq, Nat.reduceAdd, Nat.reduceMul, List.zip_cons_cons, List.zip_nil_left, List.zip_nil_right, List.forall_mem_nil]
          first | done | simp
      | true =>
        have hO : putO o y = o ++ [y] := by unfold putO; rw [hP]; rfl
        rw [hP, hO] at q5
        rw [hO] at hsucc
        have hsn := brows_snoc o y
        have hone := brows_one y
        have hrow := rowsOK_brows [y]
        have h1l : (brows [y]).length = 1 := rfl
        rcases h with ⟨rfl, rfl⟩ | rfl
        · rw [esOf_nil] at q5
          rw [List.nil_append] at q5 hsucc
          simp only [runA, runB, runC, runD, runE, runF, fieldE, storeE, binE, ↓reduceIte, Nat.reduceLT, Nat.reduceLeDiff, Nat.reduceEqDiff, Nat.reduceAdd, Nat.reduceMul, Nat.reduceSub, reduceCtorEq, putAt, unE, Nat.reduceBEq, convE, buildE, List.replicate, Int.reduceLT, Int.reduceLE, Int.reduceToNat, mkE, mapSetE, hN, hF, ty_3, ty_9, ty_22, ty_31, ty_33, ty_57, ty_59, notIf, isEq, k1, k2, e1, hg, h5, q5, brows_length, hone, hrow, h1l, esOf_nil]
          refine ⟨min 10 l.length - (i + 1), _, by omega, ?_, i + 1, [y], by omega, rfl, hsucc.symm, .inr rfl⟩
          rw [hns]
          simp only [runB, finC, finD, AS.get, AS.mem, false_implies, implies_true, ↓reduceIte, Nat.reduceEqDiff, Option.isSome_some, Option.isSome_none, forall_eq_or_imp, forall_eq, reduceCtorEq, Nat.reduceAdd, Nat.reduceMul, List.zip_cons_cons, List.zip_nil_left, List.zip_nil_right, List.forall_mem_nil, List.length_cons, List.length_nil, Nat.zero_add]
          first | done | simp
        · have hrow2 : rowsOK 9 [[.int .i64 y.vw, .int .i64 y.ht, .str y.pa, .int .i64 y.ju.vw, .int .i64 y.ju.ht, .str y.ju.bl, .sl (votes y.ju.vs), .sl (trows y.txs), .str y.sig]] := rowsOK_brows [y]
          have hby : (o.length + 1) * 128 ≤ 140737488355328 := by omega
          simp only [runA, runB, runC, runD, runE, runF, fieldE, storeE, binE, ↓reduceIte, Nat.reduceLT, Nat.reduceLeDiff, Nat.reduceEqDiff, Nat.reduceAdd, Nat.reduceMul, Nat.reduceSub, reduceCtorEq, putAt, unE, Nat.reduceBEq, convE, buildE, List.replicate, Int.reduceLT, Int.reduceLE, Int.reduceToNat, mkE, mapSetE, hN, hF, ty_3, ty_9, ty_22, ty_31, ty_33, ty_57, ty_59, notIf, isEq, k1, k2, e1, hg, h5, q5, brows_length, hrow2, hby, hsn]
          refine ⟨min 10 l.length - (i + 1), _, by omega, ?_, i + 1, o ++ [y], by omega, rfl, hsucc.symm, .inr rfl⟩
          rw [hns]
          simp only [runB, finC, finD, AS.get, AS.mem, false_implies, implies_true, ↓reduceIte, Nat.reduceEqDiff, Option.isSome_some, Option.isSome_none, forall_eq_or_imp, forall_eq, reduceCtorEq, Nat.reduceAdd, Nat.reduceMul, List.zip_cons_cons, List.zip_nil_left, List.zip_nil_right, List.forall_mem_nil, List.length_append, List.length_cons, List.length_nil, Nat.zero_add]
          first | done | simp
    · have hii : i = min 10 l.length := by omega
      have hS : ownT l = o := by rw [ho, hii]; rfl
      rw [hS]
      by_cases hll : i < l.length
      · have k1 : decide ((i : Int) < (l.length : Int)) = true := decide_eq_true (by omega)
        have k2 : decide ((i : Int) < 10) = false := decide_eq_false (by omega)
        rcases h with ⟨rfl, rfl⟩ | rfl
        · rw [esOf_nil]
          rw [brows_nil]
          simp only [runA, runB, runC, runD, runE, runF, fieldE, storeE, binE, ↓reduceIte, Nat.reduceLT, Nat.reduceLeDiff, Nat.reduceEqDiff, Nat.reduceAdd, Nat.reduceMul, Nat.reduceSub, reduceCtorEq, putAt, unE, Nat.reduceBEq, convE, buildE, List.replicate, Int.reduceLT, Int.reduceLE, Int.reduceToNat, mkE, mapSetE, hN, hF, ty_3, ty_9, ty_22, ty_31, ty_33, ty_57, ty_59, notIf, isEq, k1, k2, brows_length, esOf_nil]
          simp only [runB, finC, finD, Option.isSome_some, Option.isSome_none, ↓reduceIte, Nat.reduceEqDiff, Nat.reduceAdd, Nat.reduceMul, forall_eq_or_imp, forall_eq, implies_true, Nat.reduceBEq, reduceCtorEq, false_implies, List.zip_cons_cons, List.zip_nil_left, List.zip_nil_right, Nat.reduceLeDiff, List.forall_mem_nil, rs_32, ty_3, ty_9, ty_22, ty_31, ty_33, ty_57, ty_59, esOf_nil]
        · simp only [runA, runB, runC, runD, runE, runF, fieldE, storeE, binE, ↓reduceIte, Nat.reduceLT, Nat.reduceLeDiff, Nat.reduceEqDiff, Nat.reduceAdd, Nat.reduceMul, Nat.reduceSub, reduceCtorEq, putAt, unE, Nat.reduceBEq, convE, buildE, List.replicate, Int.reduceLT, Int.reduceLE, Int.reduceToNat, mkE, mapSetE, hN, hF, ty_3, ty_9, ty_22, ty_31, ty_33, ty_57, ty_59, notIf, isEq, k1, k2, brows_length]
          simp only [runB, finC, finD, Option.isSome_some, Option.isSome_none, ↓reduceIte, Nat.reduceEqDiff, Nat.reduceAdd, Nat.reduceMul, forall_eq_or_imp, forall_eq, implies_true, Nat.reduceBEq, reduceCtorEq, false_implies, List.zip_cons_cons, List.zip_nil_left, List.zip_nil_right, Nat.reduceLeDiff, List.forall_mem_nil, rs_32, ty_3, ty_9, ty_22, ty_31, ty_33, ty_57, ty_59]
      · have k1 : decide ((i : Int) < (l.length : Int)) = false := decide_eq_false (by omega)
        rcases h with ⟨rfl, rfl⟩ | rfl
        · rw [esOf_nil]
          rw [brows_nil]
          simp only [runA, runB, runC, runD, runE, runF, fieldE, storeE, binE, ↓reduceIte, Nat.reduceLT, Nat.reduceLeDiff, Nat.reduceEqDiff, Nat.reduceAdd, Nat.reduceMul, Nat.reduceSub, reduceCtorEq, putAt, unE, Nat.reduceBEq, convE, buildE, List.replicate, Int.reduceLT, Int.reduceLE, Int.reduceToNat, mkE, mapSetE, hN, hF, ty_3, ty_9, ty_22, ty_31, ty_33, ty_57, ty_59, notIf, isEq, k1, brows_length, esOf_nil]
          simp only [runB, finC, finD, Option.isSome_some, Option.isSome_none, ↓reduceIte, Nat.reduceEqDiff, Nat.reduceAdd, Nat.reduceMul, forall_eq_or_imp, forall_eq, implies_true, Nat.reduceBEq, reduceCtorEq, false_implies, List.zip_cons_cons, List.zip_nil_left, List.zip_nil_right, Nat.reduceLeDiff, List.forall_mem_nil, rs_32, ty_3, ty_9, ty_22, ty_31, ty_33, ty_57, ty_59, esOf_nil]
        · simp only [runA, runB, runC, runD, runE, runF, fieldE, storeE, binE, ↓reduceIte, Nat.reduceLT, Nat.reduceLeDiff, Nat.reduceEqDiff, Nat.reduceAdd, Nat.reduceMul, Nat.reduceSub, reduceCtorEq, putAt, unE, Nat.reduceBEq, convE, buildE, List.replicate, Int.reduceLT, Int.reduceLE, Int.reduceToNat, mkE, mapSetE, hN, hF, ty_3, ty_9, ty_22, ty_31, ty_33, ty_57, ty_59, notIf, isEq, k1, brows_length]
          simp only [runB, finC, finD, Option.isSome_some, Option.isSome_none, ↓reduceIte, Nat.reduceEqDiff, Nat.reduceAdd, Nat.reduceMul, forall_eq_or_imp, forall_eq, implies_true, Nat.reduceBEq, reduceCtorEq, false_implies, List.zip_cons_cons, List.zip_nil_left, List.zip_nil_right, Nat.reduceLeDiff, List.forall_mem_nil, rs_32, ty_3, ty_9, ty_22, ty_31, ty_33, ty_57, ty_59]

end Go.Proofs.YtenmlgalcjkdbaaGreat.AM
set_option linter.unusedVariables false
set_option linter.unusedSimpArgs false
namespace Go.Proofs.YtenmlgalcjkdbaaGreat.AM
open Go

variable {Γ : FuncId → Contract}

noncomputable def chain17C : Contract := mkC (α := List Blk × List Int × Mk) (fun p => okBl p.1 ∧ p.2.1.length ≤ 1048576) (fun p => [.c (.sl (brows p.1)), .c (.sl (zints p.2.1)), p.2.2.av]) (fun p => []) (fun p => ⟨[.pv (.c (.bool true))], []⟩)
theorem chain17_at (l : List Blk) (zs : List Int) (lkvw : Int) (lkht : Int) (lkbl : List UInt8) (g0 : okBl l) (g1 : zs.length ≤ 1048576) : chain17C [.c (.sl (brows l)), .c (.sl (zints zs)), (.agg [.c (.int .i64 lkvw), .c (.int .i64 lkht), .c (.str lkbl)])] [] = some ⟨[.pv (.c (.bool true))], []⟩ := by
  exact mkC_at (α := List Blk × List Int × Mk) (l, zs, ⟨lkvw, lkht, lkbl⟩) ⟨g0, g1⟩ (by
    rintro ⟨l', zs', lk'⟩ _ h ho
    have hh := And.intro h ho
    clear h ho
    simp only [List.cons.injEq, AV.c.injEq, AV.agg.injEq, PC.int.injEq, PC.str.injEq, PC.bool.injEq, PC.sl.injEq, OV.c.injEq, OV.own.injEq, OV.mp.injEq, bytes_iff, texts_iff, true_and, and_true, and_self, beq_self_eq_true, brows_iff, zints_iff, Mk.av_iff] at hh
    simp only [hh])

set_option maxRecDepth 100000 in
set_option maxHeartbeats 4000000 in
theorem chain17_sound (hΓ : SoundG Tryz.prog Γ) (h1 : Γ 31 = alive17C) (h2 : Γ 32 = laid17C) (h3 : Γ 33 = begC) (h4 : Γ 34 = rmkC) (h5 : Γ 35 = mvC) (h6 : Γ 36 = votC) (h7 : Γ 37 = mcC) (h8 : Γ 38 = cmtC) (h9 : Γ 39 = lckC) (hA : Γ 27 = rcflC) : SoundC Tryz.prog 5 chain17C := by
  refine sound_fn Tryz.func5 (by kernel_rfl) rfl rfl ?_
  intro args objs r0 hr
  obtain ⟨⟨l, zs, ⟨k1, k2, k3⟩⟩, ⟨hl, hh⟩, rfl, rfl, rfl⟩ := mkC_inv hr
  refine ⟨rfl, by show 3 ≤ _; decide, fun E hN hns hF => ?_⟩
  refine vc_sound hΓ mixed _ _ _ ?_
  have hN := hN.trans nt_5
  have hl : okBl l := hl
  have hh : zs.length ≤ 1048576 := hh
  have q0 : alive17C [] [] = some ⟨[.pv (.c (.bool true))], []⟩ := rfl
  have q1 := laid17_at l hl
  have hmin : min 10 l.length ≤ l.length := by omega
  have hio := ownI_ok hl _ hmin
  have ht : treeOK (ownT l) := ownI_tree hl hmin
  have hR : okR (ownT l) := ⟨ownI_tl hl hmin, Nat.le_trans hio.1 (by omega), fun b hb => (hio.2 b hb).1⟩
  have hob : ∀ b ∈ ownT l, okB b ∧ b.txs.length ≤ 1048576 := fun b hb => ⟨(hio.2 b hb).1, (hio.2 b hb).2.1⟩
  have ho10 : (ownT l).length ≤ 10 := Nat.le_trans hio.1 (by omega)
  generalize ownT l = o at q1 ht hR hob ho10
  have hbo := brows_length o
  have hzl := zints_length zs
  have q3 : begC [] [] = some ⟨[.pv (.agg [.c (.int .i64 beg.vw), .c (.int .i64 beg.vo.vw), .c (.int .i64 beg.vo.ht), .c (.str beg.vo.bl), .c (.int .i64 beg.co.vw), .c (.int .i64 beg.co.ht), .c (.str beg.co.bl), .c (.int .i64 beg.lo.vw), .c (.int .i64 beg.lo.ht), .c (.str beg.lo.bl), .c (.bool beg.sp)])], []⟩ := rfl
  have nt1 : (!true) = false := rfl
  have ntf : (!false) = true := rfl
  unfold Mk.av
  dsimp only
  obtain ⟨s0, hs0⟩ : ∃ s0, s0 = beg := ⟨_, rfl⟩
  rw [← hs0] at q3
  simp only [runA, runB, runC, runD, runE, runF, fieldE, storeE, binE, ↓reduceIte, Nat.reduceLT, Nat.reduceLeDiff, Nat.reduceEqDiff, Nat.reduceAdd, Nat.reduceMul, Nat.reduceSub, reduceCtorEq, putAt, unE, Nat.reduceBEq, convE, buildE, List.replicate, Int.reduceLT, Int.reduceLE, Int.reduceToNat, mkE, mapSetE, hN, hF, ty_3, ty_4, ty_9, ty_22, ty_31, ty_33, ty_57, ty_59, ty_69, ty_74, ty_78, ty_80, notIf, isEq, h1, q0, h2, q1, h3, q3, nt1]
  refine AWP.loop (fun k st => ∃ (i : Nat) (s : Gs) (sg : List Mk) (hg : Int), i ≤ min 30 zs.length ∧ k = min 30 zs.length - i ∧ sg.length ≤ i ∧ Inv o s sg hg ∧ st = ⟨[(1, .c (.sl (zints zs))), (5, .ptr 320 0), (7, .ptr 1410 0), (8, .c (.sl (brows o))), (9, .ptr 576 0), (10, .own 5761 3 (mrows sg)), (11, .c (.int .i64 hg)), (12, .c (.int .i64 (i : Int)))], [(320, .obj [.c (.int .i64 k1), .c (.int .i64 k2), .c (.str k3)] false), (576, .obj [.c (.int .i64 s.vw), .c (.int .i64 s.vo.vw), .c (.int .i64 s.vo.ht), .c (.str s.vo.bl), .c (.int .i64 s.co.vw), .c (.int .i64 s.co.ht), .c (.str s.co.bl), .c (.int .i64 s.lo.vw), .c (.int .i64 s.lo.ht), .c (.str s.lo.bl), .c (.bool s.sp)] false), (1410, .obj [.mp 1418] false), (1418, .mp true (esOf o)), (5761, .row 3 sg.length)]⟩) ⟨min 30 zs.length, _, ?w, 0, s0, [], 0, Nat.zero_le _, rfl, Nat.le_refl _, by rw [hs0]; exact inv_begin o, rfl⟩ ?r
  case w =>
    have z1 : mrows [] = [] := rfl
    rw [hns]
    simp only [runB, finC, finD, AS.get, AS.mem, false_implies, implies_true, ↓reduceIte, Nat.reduceEqDiff, Option.isSome_some, Option.isSome_none, forall_eq_or_imp, forall_eq, reduceCtorEq, Nat.reduceAdd, Nat.reduceMul, List.zip_cons_cons, List.zip_nil_left, List.zip_nil_right, List.forall_mem_nil, z1, List.length_nil]
    first | done | simp
  case r =>
    rintro k st ⟨i, s, sg, hg, hi, rfl, hsl, I, rfl⟩
    refine vc_sound hΓ mixed _ _ _ ?_
    by_cases hrun : i < min 30 zs.length ∧ 0 < o.length
    case neg =>
      have hls := mrows_length sg
      by_cases c1 : i < zs.length
      · have g1 : decide ((i : Int) < (zs.length : Int)) = true := decide_eq_true (by omega)
        by_cases c2 : i < 30
        · have g2 : decide ((i : Int) < 30) = true := decide_eq_true (by omega)
          have g3 : decide ((o.length : Int) > 0) = false := decide_eq_false (by omega)
          simp only [runA, runB, runC, runD, runE, runF, fieldE, storeE, binE, ↓reduceIte, Nat.reduceLT, Nat.reduceLeDiff, Nat.reduceEqDiff, Nat.reduceAdd, Nat.reduceMul, Nat.reduceSub, reduceCtorEq, putAt, unE, Nat.reduceBEq, convE, buildE, List.replicate, Int.reduceLT, Int.reduceLE, Int.reduceToNat, mkE, mapSetE, hN, hF, ty_3, ty_4, ty_9, ty_22, ty_31, ty_33, ty_57, ty_59, ty_69, ty_74, ty_78, ty_80, notIf, isEq, hbo, hzl, hls, g1, g2, g3]
          refine AWP.loop (fun k st => ∃ j : Nat, j ≤ sg.length ∧ k = sg.length - j ∧ st = ⟨[(8, .c (.sl (brows o))), (10, .c (.sl (mrows sg))), (16, .c (.int .i64 (j : Int)))], [(1410, .obj [.mp 1418] false), (1418, .mp true (esOf o))]⟩) ⟨sg.length, _, ?w1, 0, Nat.zero_le _, rfl, rfl⟩ ?r1
          case w1 =>
            rw [hns]
            simp only [runB, finC, finD, AS.get, AS.mem, false_implies, implies_true, ↓reduceIte, Nat.reduceEqDiff, Option.isSome_some, Option.isSome_none, forall_eq_or_imp, forall_eq, reduceCtorEq, Nat.reduceAdd, Nat.reduceMul, List.zip_cons_cons, List.zip_nil_left, List.zip_nil_right, List.forall_mem_nil]
            first | done | simp
          case r1 =>
            rintro k st ⟨j, hj, rfl, rfl⟩
            refine vc_sound hΓ mixed _ _ _ ?_
            by_cases hlt : j < sg.length
            · have k1 : decide ((j : Int) < (sg.length : Int)) = true := decide_eq_true (by omega)
              have e1 : IntKind.i64.wrap ((j : Int) + 1) = (j : Int) + 1 := wrapI (by omega)
              simp only [runA, runB, runC, runD, runE, runF, fieldE, storeE, binE, ↓reduceIte, Nat.reduceLT, Nat.reduceLeDiff, Nat.reduceEqDiff, Nat.reduceAdd, Nat.reduceMul, Nat.reduceSub, reduceCtorEq, putAt, unE, Nat.reduceBEq, convE, buildE, List.replicate, Int.reduceLT, Int.reduceLE, Int.reduceToNat, mkE, mapSetE, hN, hF, ty_3, ty_4, ty_9, ty_22, ty_31, ty_33, ty_57, ty_59, ty_69, ty_74, ty_78, ty_80, notIf, isEq, hbo, hzl, hls, k1]
              refine AWP.loop (fun k' st => ∃ k : Nat, k ≤ j ∧ k' = j - k ∧ st = ⟨[(8, .c (.sl (brows o))), (10, .c (.sl (mrows sg))), (16, .c (.int .i64 (j : Int))), (17, .c (.int .i64 (k : Int)))], [(1410, .obj [.mp 1418] false), (1418, .mp true (esOf o))]⟩) ⟨j, _, ?w2, 0, Nat.zero_le _, rfl, rfl⟩ ?r2
              case w2 =>
                rw [hns]
                simp only [runB, finC, finD, AS.get, AS.mem, false_implies, implies_true, ↓reduceIte, Nat.reduceEqDiff, Option.isSome_some, Option.isSome_none, forall_eq_or_imp, forall_eq, reduceCtorEq, Nat.reduceAdd, Nat.reduceMul, List.zip_cons_cons, List.zip_nil_left, List.zip_nil_right, List.forall_mem_nil]
                first | done | simp
              case r2 =>
                rintro k' st ⟨k, hk, rfl, rfl⟩
                refine vc_sound hΓ mixed _ _ _ ?_
                by_cases hkj : k < j
                · have k3 : decide ((k : Int) < (j : Int)) = true := decide_eq_true (by omega)
                  have e2 : IntKind.i64.wrap ((k : Int) + 1) = (k : Int) + 1 := wrapI (by omega)
                  have hg1 := mrowsD sg j hlt
                  have hg2 := mrowsD sg k (by omega)
                  have hcf := inv_con I (x := sg.getD j zeroM) (y := sg.getD k zeroM) (by rw [List.getD, List.getElem?_eq_getElem hlt]; exact List.getElem_mem _) (by rw [List.getD, List.getElem?_eq_getElem (show k < sg.length by omega)]; exact List.getElem_mem _)
                  have qA := rcfl_at o (sg.getD j zeroM).bl (sg.getD k zeroM).bl hR
                  rw [hcf] at qA
                  generalize sg.getD j zeroM = a1 at hg1 qA
                  generalize sg.getD k zeroM = a2 at hg2 qA
                  simp only [runA, runB, runC, runD, runE, runF, fieldE, storeE, binE, ↓reduceIte, Nat.reduceLT, Nat.reduceLeDiff, Nat.reduceEqDiff, Nat.reduceAdd, Nat.reduceMul, Nat.reduceSub, reduceCtorEq, putAt, unE, Nat.reduceBEq, convE, buildE, List.replicate, Int.reduceLT, Int.reduceLE, Int.reduceToNat, mkE, mapSetE, hN, hF, ty_3, ty_4, ty_9, ty_22, ty_31, ty_33, ty_57, ty_59, ty_69, ty_74, ty_78, ty_80, notIf, isEq, hbo, hzl, hls, k3, e2, hg1, hg2, hA, qA]
                  refine drawnP_intro (by kernel_rfl) (by kernel_rfl) ?_
                  simp only [runA, runB, runC, runD, runE, runF, fieldE, storeE, binE, ↓reduceIte, Nat.reduceLT, Nat.reduceLeDiff, Nat.reduceEqDiff, Nat.reduceAdd, Nat.reduceMul, Nat.reduceSub, reduceCtorEq, putAt, unE, Nat.reduceBEq, convE, buildE, List.replicate, Int.reduceLT, Int.reduceLE, Int.reduceToNat, mkE, mapSetE, hN, hF, ty_3, ty_4, ty_9, ty_22, ty_31, ty_33, ty_57, ty_59, ty_69, ty_74, ty_78, ty_80, notIf, isEq, hbo, hzl, hls, k3, e2, hg1, hg2, hA, qA]
                  refine ⟨j - (k + 1), _, by omega, ?_, k + 1, by omega, rfl, rfl⟩
                  rw [hns]
                  simp only [runB, finC, finD, AS.get, AS.mem, false_implies, implies_true, ↓reduceIte, Nat.reduceEqDiff, Option.isSome_some, Option.isSome_none, forall_eq_or_imp, forall_eq, reduceCtorEq, Nat.reduceAdd, Nat.reduceMul, List.zip_cons_cons, List.zip_nil_left, List.zip_nil_right, List.forall_mem_nil]
                  first | done | simp
                · have k3 : decide ((k : Int) < (j : Int)) = false := decide_eq_false (by omega)
                  simp only [runA, runB, runC, runD, runE, runF, fieldE, storeE, binE, ↓reduceIte, Nat.reduceLT, Nat.reduceLeDiff, Nat.reduceEqDiff, Nat.reduceAdd, Nat.reduceMul, Nat.reduceSub, reduceCtorEq, putAt, unE, Nat.reduceBEq, convE, buildE, List.replicate, Int.reduceLT, Int.reduceLE, Int.reduceToNat, mkE, mapSetE, hN, hF, ty_3, ty_4, ty_9, ty_22, ty_31, ty_33, ty_57, ty_59, ty_69, ty_74, ty_78, ty_80, notIf, isEq, hbo, hzl, hls, k3, e1]
                  refine ⟨sg.length - (j + 1), _, by omega, ?_, j + 1, by omega, rfl, rfl⟩
                  rw [hns]
                  simp only [runB, finC, finD, AS.get, AS.mem, false_implies, implies_true, ↓reduceIte, Nat.reduceEqDiff, Option.isSome_some, Option.isSome_none, forall_eq_or_imp, forall_eq, reduceCtorEq, Nat.reduceAdd, Nat.reduceMul, List.zip_cons_cons, List.zip_nil_left, List.zip_nil_right, List.forall_mem_nil]
                  first | done | simp
            · have k1 : decide ((j : Int) < (sg.length : Int)) = false := decide_eq_false (by omega)
              simp only [runA, runB, runC, runD, runE, runF, fieldE, storeE, binE, ↓reduceIte, Nat.reduceLT, Nat.reduceLeDiff, Nat.reduceEqDiff, Nat.reduceAdd, Nat.reduceMul, Nat.reduceSub, reduceCtorEq, putAt, unE, Nat.reduceBEq, convE, buildE, List.replicate, Int.reduceLT, Int.reduceLE, Int.reduceToNat, mkE, mapSetE, hN, hF, ty_3, ty_4, ty_9, ty_22, ty_31, ty_33, ty_57, ty_59, ty_69, ty_74, ty_78, ty_80, notIf, isEq, hbo, hzl, hls, k1]
              simp only [runB, finC, finD, Option.isSome_some, Option.isSome_none, ↓reduceIte, Nat.reduceEqDiff, Nat.reduceAdd, Nat.reduceMul, forall_eq_or_imp, forall_eq, implies_true, Nat.reduceBEq, reduceCtorEq, false_implies, List.zip_cons_cons, List.zip_nil_left, List.zip_nil_right, Nat.reduceLeDiff, List.forall_mem_nil, rs_5, ty_3, ty_4, ty_9, ty_22, ty_31, ty_33, ty_57, ty_59, ty_69, ty_74, ty_78, ty_80]
        · have g2 : decide ((i : Int) < 30) = false := decide_eq_false (by omega)
          simp only [runA, runB, runC, runD, runE, runF, fieldE, storeE, binE, ↓reduceIte, Nat.reduceLT, Nat.reduceLeDiff, Nat.reduceEqDiff, Nat.reduceAdd, Nat.reduceMul, Nat.reduceSub, reduceCtorEq, putAt, unE, Nat.reduceBEq, convE, buildE, List.replicate, Int.reduceLT, Int.reduceLE, Int.reduceToNat, mkE, mapSetE, hN, hF, ty_3, ty_4, ty_9, ty_22, ty_31, ty_33, ty_57, ty_59, ty_69, ty_74, ty_78, ty_80, notIf, isEq, hbo, hzl, hls, g1, g2]
          refine AWP.loop (fun k st => ∃ j : Nat, j ≤ sg.length ∧ k = sg.length - j ∧ st = ⟨[(8, .c (.sl (brows o))), (10, .c (.sl (mrows sg))), (16, .c (.int .i64 (j : Int)))], [(1410, .obj [.mp 1418] false), (1418, .mp true (esOf o))]⟩) ⟨sg.length, _, ?w1, 0, Nat.zero_le _, rfl, rfl⟩ ?r1
          case w1 =>
            rw [hns]
            simp only [runB, finC, finD, AS.get, AS.mem, false_implies, implies_true, ↓reduceIte, Nat.reduceEqDiff, Option.isSome_some, Option.isSome_none, forall_eq_or_imp, forall_eq, reduceCtorEq, Nat.reduceAdd, Nat.reduceMul, List.zip_cons_cons, List.zip_nil_left, List.zip_nil_right, List.forall_mem_nil]
            first | done | simp
          case r1 =>
            rintro k st ⟨j, hj, rfl, rfl⟩
            refine vc_sound hΓ mixed _ _ _ ?_
            by_cases hlt : j < sg.length
            · have k1 : decide ((j : Int) < (sg.length : Int)) = true := decide_eq_true (by omega)
              have e1 : IntKind.i64.wrap ((j : Int) + 1) = (j : Int) + 1 := wrapI (by omega)
              simp only [runA, runB, runC, runD, runE, runF, fieldE, storeE, binE, ↓reduceIte, Nat.reduceLT, Nat.reduceLeDiff, Nat.reduceEqDiff, Nat.reduceAdd, Nat.reduceMul, Nat.reduceSub, reduceCtorEq, putAt, unE, Nat.reduceBEq, convE, buildE, List.replicate, Int.reduceLT, Int.reduceLE, Int.reduceToNat, mkE, mapSetE, hN, hF, ty_3, ty_4, ty_9, ty_22, ty_31, ty_33, ty_57, ty_59, ty_69, ty_74, ty_78, ty_80, notIf, isEq, hbo, hzl, hls, k1]
              refine AWP.loop (fun k' st => ∃ k : Nat, k ≤ j ∧ k' = j - k ∧ st = ⟨[(8, .c (.sl (brows o))), (10, .c (.sl (mrows sg))), (16, .c (.int .i64 (j : Int))), (17, .c (.int .i64 (k : Int)))], [(1410, .obj [.mp 1418] false), (1418, .mp true (esOf o))]⟩) ⟨j, _, ?w2, 0, Nat.zero_le _, rfl, rfl⟩ ?r2
              case w2 =>
                rw [hns]
                simp only [runB, finC, finD, AS.get, AS.mem, false_implies, implies_true, ↓reduceIte, Nat.reduceEqDiff, Option.isSome_some, Option.isSome_none, forall_eq_or_imp, forall_eq, reduceCtorEq, Nat.reduceAdd, Nat.reduceMul, List.zip_cons_cons, List.zip_nil_left, List.zip_nil_right, List.forall_mem_nil]
                first | done | simp
              case r2 =>
                rintro k' st ⟨k, hk, rfl, rfl⟩
                refine vc_sound hΓ mixed _ _ _ ?_
                by_cases hkj : k < j
                · have k3 : decide ((k : Int) < (j : Int)) = true := decide_eq_true (by omega)
                  have e2 : IntKind.i64.wrap ((k : Int) + 1) = (k : Int) + 1 := wrapI (by omega)
                  have hg1 := mrowsD sg j hlt
                  have hg2 := mrowsD sg k (by omega)
                  have hcf := inv_con I (x := sg.getD j zeroM) (y := sg.getD k zeroM) (by rw [List.getD, List.getElem?_eq_getElem hlt]; exact List.getElem_mem _) (by rw [List.getD, List.getElem?_eq_getElem (show k < sg.length by omega)]; exact List.getElem_mem _)
                  have qA := rcfl_at o (sg.getD j zeroM).bl (sg.getD k zeroM).bl hR
                  rw [hcf] at qA
                  generalize sg.getD j zeroM = a1 at hg1 qA
                  generalize sg.getD k zeroM = a2 at hg2 qA
                  simp only [runA, runB, runC, runD, runE, runF, fieldE, storeE, binE, ↓reduceIte, Nat.reduceLT, Nat.reduceLeDiff, Nat.reduceEqDiff, Nat.reduceAdd, Nat.reduceMul, Nat.reduceSub, reduceCtorEq, putAt, unE, Nat.reduceBEq, convE, buildE, List.replicate, Int.reduceLT, Int.reduceLE, Int.reduceToNat, mkE, mapSetE, hN, hF, ty_3, ty_4, ty_9, ty_22, ty_31, ty_33, ty_57, ty_59, ty_69, ty_74, ty_78, ty_80, notIf, isEq, hbo, hzl, hls, k3, e2, hg1, hg2, hA, qA]
                  refine drawnP_intro (by kernel_rfl) (by kernel_rfl) ?_
                  simp only [runA, runB, runC, runD, runE, runF, fieldE, storeE, binE, ↓reduceIte, Nat.reduceLT, Nat.reduceLeDiff, Nat.reduceEqDiff, Nat.reduceAdd, Nat.reduceMul, Nat.reduceSub, reduceCtorEq, putAt, unE, Nat.reduceBEq, convE, buildE, List.replicate, Int.reduceLT, Int.reduceLE, Int.reduceToNat, mkE, mapSetE, hN, hF, ty_3, ty_4, ty_9, ty_22, ty_31, ty_33, ty_57, ty_59, ty_69, ty_74, ty_78, ty_80, notIf, isEq, hbo, hzl, hls, k3, e2, hg1, hg2, hA, qA]
                  refine ⟨j - (k + 1), _, by omega, ?_, k + 1, by omega, rfl, rfl⟩
                  rw [hns]
                  simp only [runB, finC, finD, AS.get, AS.mem, false_implies, implies_true, ↓reduceIte, Nat.reduceEqDiff, Option.isSome_some, Option.isSome_none, forall_eq_or_imp, forall_eq, reduceCtorEq, Nat.reduceAdd, Nat.reduceMul, List.zip_cons_cons, List.zip_nil_left, List.zip_nil_right, List.forall_mem_nil]
                  first | done | simp
                · have k3 : decide ((k : Int) < (j : Int)) = false := decide_eq_false (by omega)
                  simp only [runA, runB, runC, runD, runE, runF, fieldE, storeE, binE, ↓reduceIte, Nat.reduceLT, Nat.reduceLeDiff, Nat.reduceEqDiff, Nat.reduceAdd, Nat.reduceMul, Nat.reduceSub, reduceCtorEq, putAt, unE, Nat.reduceBEq, convE, buildE, List.replicate, Int.reduceLT, Int.reduceLE, Int.reduceToNat, mkE, mapSetE, hN, hF, ty_3, ty_4, ty_9, ty_22, ty_31, ty_33, ty_57, ty_59, ty_69, ty_74, ty_78, ty_80, notIf, isEq, hbo, hzl, hls, k3, e1]
                  refine ⟨sg.length - (j + 1), _, by omega, ?_, j + 1, by omega, rfl, rfl⟩
                  rw [hns]
                  simp only [runB, finC, finD, AS.get, AS.mem, false_implies, implies_true, ↓reduceIte, Nat.reduceEqDiff, Option.isSome_some, Option.isSome_none, forall_eq_or_imp, forall_eq, reduceCtorEq, Nat.reduceAdd, Nat.reduceMul, List.zip_cons_cons, List.zip_nil_left, List.zip_nil_right, List.forall_mem_nil]
                  first | done | simp
            · have k1 : decide ((j : Int) < (sg.length : Int)) = false := decide_eq_false (by omega)
              simp only [runA, runB, runC, runD, runE, runF, fieldE, storeE, binE, ↓reduceIte, Nat.reduceLT, Nat.reduceLeDiff, Nat.reduceEqDiff, Nat.reduceAdd, Nat.reduceMul, Nat.reduceSub, reduceCtorEq, putAt, unE, Nat.reduceBEq, convE, buildE, List.replicate, Int.reduceLT, Int.reduceLE, Int.reduceToNat, mkE, mapSetE, hN, hF, ty_3, ty_4, ty_9, ty_22, ty_31, ty_33, ty_57, ty_59, ty_69, ty_74, ty_78, ty_80, notIf, isEq, hbo, hzl, hls, k1]
              simp only [runB, finC, finD, Option.isSome_some, Option.isSome_none, ↓reduceIte, Nat.reduceEqDiff, Nat.reduceAdd, Nat.reduceMul, forall_eq_or_imp, forall_eq, implies_true, Nat.reduceBEq, reduceCtorEq, false_implies, List.zip_cons_cons, List.zip_nil_left, List.zip_nil_right, Nat.reduceLeDiff, List.forall_mem_nil, rs_5, ty_3, ty_4, ty_9, ty_22, ty_31, ty_33, ty_57, ty_59, ty_69, ty_74, ty_78, ty_80]
      · have g1 : decide ((i : Int) < (zs.length : Int)) = false := decide_eq_false (by omega)
        simp only [runA, runB, runC, runD, runE, runF, fieldE, storeE, binE, ↓reduceIte, Nat.reduceLT, Nat.reduceLeDiff, Nat.reduceEqDiff, Nat.reduceAdd, Nat.reduceMul, Nat.reduceSub, reduceCtorEq, putAt, unE, Nat.reduceBEq, convE, buildE, List.replicate, Int.reduceLT, Int.reduceLE, Int.reduceToNat, mkE, mapSetE, hN, hF, ty_3, ty_4, ty_9, ty_22, ty_31, ty_33, ty_57, ty_59, ty_69, ty_74, ty_78, ty_80, notIf, isEq, hbo, hzl, hls, g1]
        refine AWP.loop (fun k st => ∃ j : Nat, j ≤ sg.length ∧ k = sg.length - j ∧ st = ⟨[(8, .c (.sl (brows o))), (10, .c (.sl (mrows sg))), (16, .c (.int .i64 (j : Int)))], [(1410, .obj [.mp 1418] false), (1418, .mp true (esOf o))]⟩) ⟨sg.length, _, ?w1, 0, Nat.zero_le _, rfl, rfl⟩ ?r1
        case w1 =>
          rw [hns]
          simp only [runB, finC, finD, AS.get, AS.mem, false_implies, implies_true, ↓reduceIte, Nat.reduceEqDiff, Option.isSome_some, Option.isSome_none, forall_eq_or_imp, forall_eq, reduceCtorEq, Nat.reduceAdd, Nat.reduceMul, List.zip_cons_cons, List.zip_nil_left, List.zip_nil_right, List.forall_mem_nil]
          first | done | simp
        case r1 =>
          rintro k st ⟨j, hj, rfl, rfl⟩
          refine vc_sound hΓ mixed _ _ _ ?_
          by_cases hlt : j < sg.length
          · have k1 : decide ((j : Int) < (sg.length : Int)) = true := decide_eq_true (by omega)
            have e1 : IntKind.i64.wrap ((j : Int) + 1) = (j : Int) + 1 := wrapI (by omega)
            simp only [runA, runB, runC, runD, runE, runF, fieldE, storeE, binE, ↓reduceIte, Nat.reduceLT, Nat.reduceLeDiff, Nat.reduceEqDiff, Nat.reduceAdd, Nat.reduceMul, Nat.reduceSub, reduceCtorEq, putAt, unE, Nat.reduceBEq, convE, buildE, List.replicate, Int.reduceLT, Int.reduceLE, Int.reduceToNat, mkE, mapSetE, hN, hF, ty_3, ty_4, ty_9, ty_22, ty_31, ty_33, ty_57, ty_59, ty_69, ty_74, ty_78, ty_80, notIf, isEq, hbo, hzl, hls, k1]
            refine AWP.loop (fun k' st => ∃ k : Nat, k ≤ j ∧ k' = j - k ∧ st = ⟨[(8, .c (.sl (brows o))), (10, .c (.sl (mrows sg))), (16, .c (.int .i64 (j : Int))), (17, .c (.int .i64 (k : Int)))], [(1410, .obj [.mp 1418] false), (1418, .mp true (esOf o))]⟩) ⟨j, _, ?w2, 0, Nat.zero_le _, rfl, rfl⟩ ?r2
            case w2 =>
              rw [hns]
              simp only [runB, finC, finD, AS.get, AS.mem, false_implies, implies_true, ↓reduceIte, Nat.reduceEqDiff, Option.isSome_some, Option.isSome_none, forall_eq_or_imp, forall_eq, reduceCtorEq, Nat.reduceAdd, Nat.reduceMul, List.zip_cons_cons, List.zip_nil_left, List.zip_nil_right, List.forall_mem_nil]
              first | done | simp
            case r2 =>
              rintro k' st ⟨k, hk, rfl, rfl⟩
              refine vc_sound hΓ mixed _ _ _ ?_
              by_cases hkj : k < j
              · have k3 : decide ((k : Int) < (j : Int)) = true := decide_eq_true (by omega)
                have e2 : IntKind.i64.wrap ((k : Int) + 1) = (k : Int) + 1 := wrapI (by omega)
                have hg1 := mrowsD sg j hlt
                have hg2 := mrowsD sg k (by omega)
                have hcf := inv_con I (x := sg.getD j zeroM) (y := sg.getD k zeroM) (by rw [List.getD, List.getElem?_eq_getElem hlt]; exact List.getElem_mem _) (by rw [List.getD, List.getElem?_eq_getElem (show k < sg.length by omega)]; exact List.getElem_mem _)
                have qA := rcfl_at o (sg.getD j zeroM).bl (sg.getD k zeroM).bl hR
                rw [hcf] at qA
                generalize sg.getD j zeroM = a1 at hg1 qA
                generalize sg.getD k zeroM = a2 at hg2 qA
                simp only [runA, runB, runC, runD, runE, runF, fieldE, storeE, binE, ↓reduceIte, Nat.reduceLT, Nat.reduceLeDiff, Nat.reduceEqDiff, Nat.reduceAdd, Nat.reduceMul, Nat.reduceSub, reduceCtorEq, putAt, unE, Nat.reduceBEq, convE, buildE, List.replicate, Int.reduceLT, Int.reduceLE, Int.reduceToNat, mkE, mapSetE, hN, hF, ty_3, ty_4, ty_9, ty_22, ty_31, ty_33, ty_57, ty_59, ty_69, ty_74, ty_78, ty_80, notIf, isEq, hbo, hzl, hls, k3, e2, hg1, hg2, hA, qA]
                refine drawnP_intro (by kernel_rfl) (by kernel_rfl) ?_
                simp only [runA, runB, runC, runD, runE, runF, fieldE, storeE, binE, ↓reduceIte, Nat.reduceLT, Nat.reduceLeDiff, Nat.reduceEqDiff, Nat.reduceAdd, Nat.reduceMul, Nat.reduceSub, reduceCtorEq, putAt, unE, Nat.reduceBEq, convE, buildE, List.replicate, Int.reduceLT, Int.reduceLE, Int.reduceToNat, mkE, mapSetE, hN, hF, ty_3, ty_4, ty_9, ty_22, ty_31, ty_33, ty_57, ty_59, ty_69, ty_74, ty_78, ty_80, notIf, isEq, hbo, hzl, hls, k3, e2, hg1, hg2, hA, qA]
                refine ⟨j - (k + 1), _, by omega, ?_, k + 1, by omega, rfl, rfl⟩
                rw [hns]
                simp only [runB, finC, finD, AS.get, AS.mem, false_implies, implies_true, ↓reduceIte, Nat.reduceEqDiff, Option.isSome_some, Option.isSome_none, forall_eq_or_imp, forall_eq, reduceCtorEq, Nat.reduceAdd, Nat.reduceMul, List.zip_cons_cons, List.zip_nil_left, List.zip_nil_right, List.forall_mem_nil]
                first | done | simp
              · have k3 : decide ((k : Int) < (j : Int)) = false := decide_eq_false (by omega)
                simp only [runA, runB, runC, runD, runE, runF, fieldE, storeE, binE, ↓reduceIte, Nat.reduceLT, Nat.reduceLeDiff, Nat.reduceEqDiff, Nat.reduceAdd, Nat.reduceMul, Nat.reduceSub, reduceCtorEq, putAt, unE, Nat.reduceBEq, convE, buildE, List.replicate, Int.reduceLT, Int.reduceLE, Int.reduceToNat, mkE, mapSetE, hN, hF, ty_3, ty_4, ty_9, ty_22, ty_31, ty_33, ty_57, ty_59, ty_69, ty_74, ty_78, ty_80, notIf, isEq, hbo, hzl, hls, k3, e1]
                refine ⟨sg.length - (j + 1), _, by omega, ?_, j + 1, by omega, rfl, rfl⟩
                rw [hns]
                simp only [runB, finC, finD, AS.get, AS.mem, false_implies, implies_true, ↓reduceIte, Nat.reduceEqDiff, Option.isSome_some, Option.isSome_none, forall_eq_or_imp, forall_eq, reduceCtorEq, Nat.reduceAdd, Nat.reduceMul, List.zip_cons_cons, List.zip_nil_left, List.zip_nil_right, List.forall_mem_nil]
                first | done | simp
          · have k1 : decide ((j : Int) < (sg.length : Int)) = false := decide_eq_false (by omega)
            simp only [runA, runB, runC, runD, runE, runF, fieldE, storeE, binE, ↓reduceIte, Nat.reduceLT, Nat.reduceLeDiff, Nat.reduceEqDiff, Nat.reduceAdd, Nat.reduceMul, Nat.reduceSub, reduceCtorEq, putAt, unE, Nat.reduceBEq, convE, buildE, List.replicate, Int.reduceLT, Int.reduceLE, Int.reduceToNat, mkE, mapSetE, hN, hF, ty_3, ty_4, ty_9, ty_22, ty_31, ty_33, ty_57, ty_59, ty_69, ty_74, ty_78, ty_80, notIf, isEq, hbo, hzl, hls, k1]
            simp only [runB, finC, finD, Option.isSome_some, Option.isSome_none, ↓reduceIte, Nat.reduceEqDiff, Nat.reduceAdd, Nat.reduceMul, forall_eq_or_imp, forall_eq, implies_true, Nat.reduceBEq, reduceCtorEq, false_implies, List.zip_cons_cons, List.zip_nil_left, List.zip_nil_right, Nat.reduceLeDiff, List.forall_mem_nil, rs_5, ty_3, ty_4, ty_9, ty_22, ty_31, ty_33, ty_57, ty_59, ty_69, ty_74, ty_78, ty_80]
    obtain ⟨hlt, hpos⟩ := hrun
    have g1 : decide ((i : Int) < (zs.length : Int)) = true := decide_eq_true (by omega)
    have g2 : decide ((i : Int) < 30) = true := decide_eq_true (by omega)
    have g3 : decide ((o.length : Int) > 0) = true := decide_eq_true (by omega)
    have e5 : IntKind.i64.wrap ((i : Int) + 1) = (i : Int) + 1 := wrapI (by omega)
    have hz := zintsD zs i (by omega)
    generalize zs.getD i 0 = x at hz
    have e0 : IntKind.i64.wrap (4 * (o.length : Int)) = 4 * (o.length : Int) := wrapI (by omega)
    have z0 : ((4 * (o.length : Int)) = 0) = False := eq_false (by omega)
    have z4 : ((4 : Int) = 0) = False := by simp
    obtain ⟨q, hq⟩ : ∃ q, q = x.tmod (4 * (o.length : Int)) := ⟨_, rfl⟩
    have hq1 : -(4 * (o.length : Int)) < q ∧ q < 4 * (o.length : Int) := by rw [hq]; exact ⟨Int.lt_tmod_of_pos x (by omega), Int.tmod_lt_of_pos x (by omega)⟩
    have hq0 : x.tmod (4 * (o.length : Int)) = q := hq.symm
    have e1 : IntKind.i64.wrap (q + 4 * (o.length : Int)) = q + 4 * (o.length : Int) := wrapI (by omega)
    obtain ⟨m, hm⟩ : ∃ m : Nat, (q + 4 * (o.length : Int)).tmod (4 * (o.length : Int)) = (m : Int) := ⟨((q + 4 * (o.length : Int)).tmod (4 * (o.length : Int))).toNat, by rw [Int.tmod_eq_emod_of_nonneg (by omega)]; have := Int.emod_nonneg (q + 4 * (o.length : Int)) (b := 4 * (o.length : Int)) (by omega); omega⟩
    have hml : m < 4 * o.length := by have := Int.tmod_lt_of_pos (q + 4 * (o.length : Int)) (b := 4 * (o.length : Int)) (by omega); omega
    have ed : IntKind.i64.wrap ((m : Int).tdiv 4) = ((m / 4 : Nat) : Int) := by
      rw [Int.tdiv_eq_ediv_of_nonneg (by omega), wrapI (by omega)]
      omega
    have er : (m : Int).tmod 4 = ((m % 4 : Nat) : Int) := by
      rw [Int.tmod_eq_emod_of_nonneg (by omega)]
      omega
    have hdl : m / 4 < o.length := by omega
    have hgb := browsD o (m / 4) hdl
    have hmem : o.getD (m / 4) zeroBk ∈ o := by rw [List.getD, List.getElem?_eq_getElem hdl]; exact List.getElem_mem _
    obtain ⟨hkb, htx⟩ := hob _ hmem
    unfold Blk.pcs at hgb
    clear hmem
    generalize o.getD (m / 4) zeroBk = b at hgb hkb htx
    generalize m / 4 = d at ed hgb hdl
    have q4 := rmk_p b (by omega)
    have hr4 : m % 4 < 4 := Nat.mod_lt _ (by omega)
    generalize m % 4 = r at er hr4
    have hls := mrows_length sg
    have hby : (sg.length + 1) * 32 ≤ 140737488355328 := by omega
    have hrow : rowsOK 3 [[.int .i64 b.vw, .int .i64 b.ht, .str (nameS b)]] := rowsOK_mrows [⟨b.vw, b.ht, nameS b⟩]
    have hsn : mrows sg ++ [[.int .i64 b.vw, .int .i64 b.ht, .str (nameS b)]] = mrows (sg ++ [⟨b.vw, b.ht, nameS b⟩]) := mrows_snoc sg ⟨b.vw, b.ht, nameS b⟩
    rcases (show r = 0 ∨ r = 1 ∨ r = 2 ∨ r = 3 by omega) with rfl | rfl | rfl | rfl
    · have r0 : (((0 : Nat) : Int) == 0) = true := rfl
      have q5 := mv_p s o b ht (by omega)
      cases hv : mayV s o b with
      | false =>
        rw [hv] at q5
        simp only [runA, runB, runC, runD, runE, runF, fieldE, storeE, binE, ↓reduceIte, Nat.reduceLT, Nat.reduceLeDiff, Nat.reduceEqDiff, Nat.reduceAdd, Nat.reduceMul, Nat.reduceSub, reduceCtorEq, putAt, unE, Nat.reduceBEq, convE, buildE, List.replicate, Int.reduceLT, Int.reduceLE, Int.reduceToNat, mkE, mapSetE, hN, hF, ty_3, ty_4, ty_9, ty_22, ty_31, ty_33, ty_57, ty_59, ty_69, ty_74, ty_78, ty_80, notIf, isEq, g1, g2, g3, hbo, hzl, hz, e0, z0, z4, hq0, e1, hm, ed, er, e5, hgb, h4, q4, nt1, ntf, r0, h5, q5]
        refine ⟨min 30 zs.length - (i + 1), _, by omega, ?_, i + 1, s, sg, hg, by omega, rfl, ?_, I, rfl⟩
        · rw [hns]
          simp only [runB, finC, finD, AS.get, AS.mem, false_implies, implies_true, ↓reduceIte, Nat.reduceEqDiff, Option.isSome_some, Option.isSome_none, forall_eq_or_imp, forall_eq, reduceCtorEq, Nat.reduceAdd, Nat.reduceMul, List.zip_cons_cons, List.zip_nil_left, List.zip_nil_right, List.forall_mem_nil, List.length_append, List.length_cons, List.length_nil, Nat.zero_add]
          first | done | simp
        · first | omega | (simp only [List.length_append, List.length_cons, List.length_nil]; omega)
      | true =>
        rw [hv] at q5
        obtain ⟨hhi, I2⟩ := inv_vote I hkb hv
        have k5 : decide (b.ht ≤ hg) = false := decide_eq_false (by omega)
        obtain ⟨s', hs'⟩ : ∃ s' : Gs, s' = { s with vo := ⟨b.vw, b.ht, nameS b⟩ } := ⟨_, rfl⟩
        have q6 := vot_p s s' b hs'
        rw [← hs'] at I2
        simp only [runA, runB, runC, runD, runE, runF, fieldE, storeE, binE, ↓reduceIte, Nat.reduceLT, Nat.reduceLeDiff, Nat.reduceEqDiff, Nat.reduceAdd, Nat.reduceMul, Nat.reduceSub, reduceCtorEq, putAt, unE, Nat.reduceBEq, convE, buildE, List.replicate, Int.reduceLT, Int.reduceLE, Int.reduceToNat, mkE, mapSetE, hN, hF, ty_3, ty_4, ty_9, ty_22, ty_31, ty_33, ty_57, ty_59, ty_69, ty_74, ty_78, ty_80, notIf, isEq, g1, g2, g3, hbo, hzl, hz, e0, z0, z4, hq0, e1, hm, ed, er, e5, hgb, h4, q4, nt1, ntf, r0, h5, q5, k5, h6, q6, hls, hby, hrow, hsn]
        refine ⟨min 30 zs.length - (i + 1), _, by omega, ?_, i + 1, s', sg ++ [⟨b.vw, b.ht, nameS b⟩], b.ht, by omega, rfl, ?_, I2, rfl⟩
        · rw [hns]
          simp only [runB, finC, finD, AS.get, AS.mem, false_implies, implies_true, ↓reduceIte, Nat.reduceEqDiff, Option.isSome_some, Option.isSome_none, forall_eq_or_imp, forall_eq, reduceCtorEq, Nat.reduceAdd, Nat.reduceMul, List.zip_cons_cons, List.zip_nil_left, List.zip_nil_right, List.forall_mem_nil, List.length_append, List.length_cons, List.length_nil, Nat.zero_add]
          first | done | simp
        · first | omega | (simp only [List.length_append, List.length_cons, List.length_nil]; omega)
    · have r0 : (((1 : Nat) : Int) == 0) = false := rfl
      have r1 : (((1 : Nat) : Int) == 1) = true := rfl
      have q7 := mc_p s o b ht
      cases hv : mayC s o ⟨b.vw, b.ht, nameS b⟩ with
      | false =>
        rw [hv] at q7
        simp only [runA, runB, runC, runD, runE, runF, fieldE, storeE, binE, ↓reduceIte, Nat.reduceLT, Nat.reduceLeDiff, Nat.reduceEqDiff, Nat.reduceAdd, Nat.reduceMul, Nat.reduceSub, reduceCtorEq, putAt, unE, Nat.reduceBEq, convE, buildE, List.replicate, Int.reduceLT, Int.reduceLE, Int.reduceToNat, mkE, mapSetE, hN, hF, ty_3, ty_4, ty_9, ty_22, ty_31, ty_33, ty_57, ty_59, ty_69, ty_74, ty_78, ty_80, notIf, isEq, g1, g2, g3, hbo, hzl, hz, e0, z0, z4, hq0, e1, hm, ed, er, e5, hgb, h4, q4, nt1, ntf, r0, r1, h7, q7]
        refine ⟨min 30 zs.length - (i + 1), _, by omega, ?_, i + 1, s, sg, hg, by omega, rfl, ?_, I, rfl⟩
        · rw [hns]
          simp only [runB, finC, finD, AS.get, AS.mem, false_implies, implies_true, ↓reduceIte, Nat.reduceEqDiff, Option.isSome_some, Option.isSome_none, forall_eq_or_imp, forall_eq, reduceCtorEq, Nat.reduceAdd, Nat.reduceMul, List.zip_cons_cons, List.zip_nil_left, List.zip_nil_right, List.forall_mem_nil, List.length_append, List.length_cons, List.length_nil, Nat.zero_add]
          first | done | simp
        · first | omega | (simp only [List.length_append, List.length_cons, List.length_nil]; omega)
      | true =>
        rw [hv] at q7
        have I2 := inv_commit I hkb hv
        obtain ⟨s', hs'⟩ : ∃ s' : Gs, s' = { s with co := ⟨b.vw, b.ht, nameS b⟩ } := ⟨_, rfl⟩
        have q8 := cmt_p s s' b hs'
        rw [← hs'] at I2
        simp only [runA, runB, runC, runD, runE, runF, fieldE, storeE, binE, ↓reduceIte, Nat.reduceLT, Nat.reduceLeDiff, Nat.reduceEqDiff, Nat.reduceAdd, Nat.reduceMul, Nat.reduceSub, reduceCtorEq, putAt, unE, Nat.reduceBEq, convE, buildE, List.replicate, Int.reduceLT, Int.reduceLE, Int.reduceToNat, mkE, mapSetE, hN, hF, ty_3, ty_4, ty_9, ty_22, ty_31, ty_33, ty_57, ty_59, ty_69, ty_74, ty_78, ty_80, notIf, isEq, g1, g2, g3, hbo, hzl, hz, e0, z0, z4, hq0, e1, hm, ed, er, e5, hgb, h4, q4, nt1, ntf, r0, r1, h7, q7, h8, q8, hls, hby, hrow, hsn]
        refine ⟨min 30 zs.length - (i + 1), _, by omega, ?_, i + 1, s', sg ++ [⟨b.vw, b.ht, nameS b⟩], hg, by omega, rfl, ?_, I2, rfl⟩
        · rw [hns]
          simp only [runB, finC, finD, AS.get, AS.mem, false_implies, implies_true, ↓reduceIte, Nat.reduceEqDiff, Option.isSome_some, Option.isSome_none, forall_eq_or_imp, forall_eq, reduceCtorEq, Nat.reduceAdd, Nat.reduceMul, List.zip_cons_cons, List.zip_nil_left, List.zip_nil_right, List.forall_mem_nil, List.length_append, List.length_cons, List.length_nil, Nat.zero_add]
          first | done | simp
        · first | omega | (simp only [List.length_append, List.length_cons, List.length_nil]; omega)
    · have r0 : (((2 : Nat) : Int) == 0) = false := rfl
      have r1 : (((2 : Nat) : Int) == 1) = false := rfl
      have r2 : (((2 : Nat) : Int) == 2) = true := rfl
      have I2 := inv_lock I ⟨b.vw, b.ht, nameS b⟩
      obtain ⟨s', hs'⟩ : ∃ s' : Gs, s' = lckS s ⟨b.vw, b.ht, nameS b⟩ := ⟨_, rfl⟩
      have q9 := lck_p s s' ⟨b.vw, b.ht, nameS b⟩ hs'
      rw [← hs'] at I2
      dsimp only at q9
      simp only [runA, runB, runC, runD, runE, runF, fieldE, storeE, binE, ↓reduceIte, Nat.reduceLT, Nat.reduceLeDiff, Nat.reduceEqDiff, Nat.reduceAdd, Nat.reduceMul, Nat.reduceSub, reduceCtorEq, putAt, unE, Nat.reduceBEq, convE, buildE, List.replicate, Int.reduceLT, Int.reduceLE, Int.reduceToNat, mkE, mapSetE, hN, hF, ty_3, ty_4, ty_9, ty_22, ty_31, ty_33, ty_57, ty_59, ty_69, ty_74, ty_78, ty_80, notIf, isEq, g1, g2, g3, hbo, hzl, hz, e0, z0, z4, hq0, e1, hm, ed, er, e5, hgb, h4, q4, nt1, ntf, r0, r1, r2, h9, q9]
      refine ⟨min 30 zs.length - (i + 1), _, by omega, ?_, i + 1, s', sg, hg, by omega, rfl, ?_, I2, rfl⟩
      · rw [hns]
        simp only [runB, finC, finD, AS.get, AS.mem, false_implies, implies_true, ↓reduceIte, Nat.reduceEqDiff, Option.isSome_some, Option.isSome_none, forall_eq_or_imp, forall_eq, reduceCtorEq, Nat.reduceAdd, Nat.reduceMul, List.zip_cons_cons, List.zip_nil_left, List.zip_nil_right, List.forall_mem_nil, List.length_append, List.length_cons, List.length_nil, Nat.zero_add]
        first | done | simp
      · first | omega | (simp only [List.length_append, List.length_cons, List.length_nil]; omega)
    · have r0 : (((3 : Nat) : Int) == 0) = false := rfl
      have r1 : (((3 : Nat) : Int) == 1) = false := rfl
      have r2 : (((3 : Nat) : Int) == 2) = false := rfl
      by_cases h20 : i = 20
      · have g20 : ((i : Int) == 20) = true := by simp; omega
        have I2 := inv_lock I ⟨k1, k2, k3⟩
        obtain ⟨s', hs'⟩ : ∃ s' : Gs, s' = lckS s ⟨k1, k2, k3⟩ := ⟨_, rfl⟩
        have q9 := lck_p s s' ⟨k1, k2, k3⟩ hs'
        rw [← hs'] at I2
        dsimp only at q9
        simp only [runA, runB, runC, runD, runE, runF, fieldE, storeE, binE, ↓reduceIte, Nat.reduceLT, Nat.reduceLeDiff, Nat.reduceEqDiff, Nat.reduceAdd, Nat.reduceMul, Nat.reduceSub, reduceCtorEq, putAt, unE, Nat.reduceBEq, convE, buildE, List.replicate, Int.reduceLT, Int.reduceLE, Int.reduceToNat, mkE, mapSetE, hN, hF, ty_3, ty_4, ty_9, ty_22, ty_31, ty_33, ty_57, ty_59, ty_69, ty_74, ty_78, ty_80, notIf, isEq, g1, g2, g3, hbo, hzl, hz, e0, z0, z4, hq0, e1, hm, ed, er, e5, hgb, h4, q4, nt1, ntf, r0, r1, r2, g20, h9, q9]
        refine ⟨min 30 zs.length - (i + 1), _, by omega, ?_, i + 1, s', sg, hg, by omega, rfl, ?_, I2, rfl⟩
        · rw [hns]
          simp only [runB, finC, finD, AS.get, AS.mem, false_implies, implies_true, ↓reduceIte, Nat.reduceEqDiff, Option.isSome_some, Option.isSome_none, forall_eq_or_imp, forall_eq, reduceCtorEq, Nat.reduceAdd, Nat.reduceMul, List.zip_cons_cons, List.zip_nil_left, List.zip_nil_right, List.forall_mem_nil, List.length_append, List.length_cons, List.length_nil, Nat.zero_add]
          first | done | simp
        · first | omega | (simp only [List.length_append, List.length_cons, List.length_nil]; omega)
      · have g20 : ((i : Int) == 20) = false := by simp; omega
        simp only [runA, runB, runC, runD, runE, runF, fieldE, storeE, binE, ↓reduceIte, Nat.reduceLT, Nat.reduceLeDiff, Nat.reduceEqDiff, Nat.reduceAdd, Nat.reduceMul, Nat.reduceSub, reduceCtorEq, putAt, unE, Nat.reduceBEq, convE, buildE, List.replicate, Int.reduceLT, Int.reduceLE, Int.reduceToNat, mkE, mapSetE, hN, hF, ty_3, ty_4, ty_9, ty_22, ty_31, ty_33, ty_57, ty_59, ty_69, ty_74, ty_78, ty_80, notIf, isEq, g1, g2, g3, hbo, hzl, hz, e0, z0, z4, hq0, e1, hm, ed, er, e5, hgb, h4, q4, nt1, ntf, r0, r1, r2, g20]
        refine ⟨min 30 zs.length - (i + 1), _, by omega, ?_, i + 1, s, sg, hg, by omega, rfl, ?_, I, rfl⟩
        · rw [hns]
          simp only [runB, finC, finD, AS.get, AS.mem, false_implies, implies_true, ↓reduceIte, Nat.reduceEqDiff, Option.isSome_some, Option.isSome_none, forall_eq_or_imp, forall_eq, reduceCtorEq, Nat.reduceAdd, Nat.reduceMul, List.zip_cons_cons, List.zip_nil_left, List.zip_nil_right, List.forall_mem_nil, List.length_append, List.length_cons, List.length_nil, Nat.zero_add]
          first | done | simp
        · first | omega | (simp only [List.length_append, List.length_cons, List.length_nil]; omega)

end Go.Proofs.YtenmlgalcjkdbaaGreat.AM
