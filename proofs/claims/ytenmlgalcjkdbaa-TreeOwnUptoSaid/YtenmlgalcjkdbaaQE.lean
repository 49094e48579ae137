/-
  QE: TrE TrF TrG Tw4.
-/
import Derived.Test.YtenmlgalcjkdbaaQD
set_option linter.unusedVariables false
set_option linter.unusedSimpArgs false
namespace Go.Proofs.Ytenmlgalcjkdbaa.AM
open Go

variable {Γ : FuncId → Contract}



variable {Γ : FuncId → Contract}


theorem eqg_sTx : Try.prog.eqGuardType Try.prog.depth 47 = false := by kernel_rfl
theorem eq_sTx (y : Txn) : eqE Try.prog 10000 47 [.int .i64 y.fr, .int .i64 y.to, .int .i64 y.am, .int .i64 y.no, .str y.sig] [.int .i64 y.fr, .int .i64 y.to, .int .i64 y.am, .int .i64 y.no, .str y.sig] = some true := by
  have h : eqE Try.prog 10000 47 [.int .i64 y.fr, .int .i64 y.to, .int .i64 y.am, .int .i64 y.no, .str y.sig] [.int .i64 y.fr, .int .i64 y.to, .int .i64 y.am, .int .i64 y.no, .str y.sig] = some ((y.fr == y.fr) && ((y.to == y.to) && ((y.am == y.am) && ((y.no == y.no) && ((y.sig == y.sig) && true))))) := by kernel_rfl
  rw [h]
  simp
noncomputable def sTxC : Contract := mkC (α := List Txn) (fun l => l.length ≤ 9223372036854775807) (fun l => [.c (.sl (trows l)), .c (.sl (trows l))]) (fun _ => []) (fun _ => ⟨[.pv (.c (.bool true))], []⟩)
theorem sTx_at (l : List Txn) (h : l.length ≤ 9223372036854775807) : sTxC [.c (.sl (trows l)), .c (.sl (trows l))] [] = some ⟨[.pv (.c (.bool true))], []⟩ := mkC_at (α := List Txn) l h (fun _ _ _ _ => rfl)
set_option maxHeartbeats 4000000 in
theorem sTx_sound : SoundC Try.prog 60 sTxC := by
  refine sound_fn Try.func60 (by kernel_rfl) rfl rfl ?_
  intro args objs r0 hr
  obtain ⟨l, hl, rfl, rfl, rfl⟩ := mkC_inv hr
  refine ⟨rfl, by show 2 ≤ _; decide, fun E hN hns hF => ?_⟩
  refine vc_sound none0_sound mixed _ _ _ ?_
  have hN := hN.trans nt_60
  have hl : l.length ≤ 9223372036854775807 := hl
  have g0 : ((l.length : Int) != (l.length : Int)) = false := by simp
  have nt1 : (!true) = false := rfl
  simp only [runA, runB, runC, runD, runE, runF, fieldE, storeE, binE, ↓reduceIte, Nat.reduceLT, Nat.reduceLeDiff, Nat.reduceEqDiff, Nat.reduceAdd, Nat.reduceMul, Nat.reduceSub, reduceCtorEq, putAt, unE, Nat.reduceBEq, convE, buildE, List.replicate, Int.reduceLT, Int.reduceLE, Int.reduceToNat, mkE, mapSetE, hN, hF, ty_3, ty_4, ty_9, ty_25, ty_47, notIf, isEq, trows_length, g0]
  refine AWP.loop (fun k st => ∃ i : Nat, i ≤ l.length ∧ k = l.length - i ∧ st = ⟨[(0, .c (.sl (trows l))), (1, .c (.sl (trows l))), (5, .c (.int .i64 (i : Int)))], []⟩) ⟨l.length, _, ?w, 0, Nat.zero_le _, rfl, rfl⟩ ?r
  case w =>
    rw [hns]
    simp only [runB, finC, finD, AS.get, AS.mem, false_implies, implies_true, ↓reduceIte, Nat.reduceEqDiff, Option.isSome_some, Option.isSome_none, forall_eq_or_imp, forall_eq, reduceCtorEq, Nat.reduceAdd, Nat.reduceMul, List.zip_cons_cons, List.zip_nil_left, List.zip_nil_right, List.forall_mem_nil]
    first | done | simp
  case r =>
    rintro k st ⟨i, hi, rfl, rfl⟩
    refine vc_sound none0_sound mixed _ _ _ ?_
    by_cases hlt : i < l.length
    · have k1 : decide ((i : Int) < (l.length : Int)) = true := decide_eq_true (by omega)
      have e1 : IntKind.i64.wrap ((i : Int) + 1) = (i : Int) + 1 := wrapI (by omega)
      have hg := trowsD l i hlt
      unfold Txn.pcs at hg
      have hq := eq_sTx (l.getD i zeroT)
      generalize l.getD i zeroT = y at hg hq
      simp only [runA, runB, runC, runD, runE, runF, fieldE, storeE, binE, ↓reduceIte, Nat.reduceLT, Nat.reduceLeDiff, Nat.reduceEqDiff, Nat.reduceAdd, Nat.reduceMul, Nat.reduceSub, reduceCtorEq, putAt, unE, Nat.reduceBEq, convE, buildE, List.replicate, Int.reduceLT, Int.reduceLE, Int.reduceToNat, mkE, mapSetE, hN, hF, ty_3, ty_4, ty_9, ty_25, ty_47, notIf, isEq, k1, e1, hg, eqg_sTx, hq, nt1, trows_length]
      refine drawnP_intro (by kernel_rfl) (by kernel_rfl) ?_
      simp only [runA, runB, runC, runD, runE, runF, fieldE, storeE, binE, ↓reduceIte, Nat.reduceLT, Nat.reduceLeDiff, Nat.reduceEqDiff, Nat.reduceAdd, Nat.reduceMul, Nat.reduceSub, reduceCtorEq, putAt, unE, Nat.reduceBEq, convE, buildE, List.replicate, Int.reduceLT, Int.reduceLE, Int.reduceToNat, mkE, mapSetE, hN, hF, ty_3, ty_4, ty_9, ty_25, ty_47, notIf, isEq, k1, e1, hg, eqg_sTx, hq, nt1, trows_length]
      refine ⟨l.length - (i + 1), _, by omega, ?_, i + 1, by omega, rfl, rfl⟩
      rw [hns]
      simp only [runB, finC, finD, AS.get, AS.mem, false_implies, implies_true, ↓reduceIte, Nat.reduceEqDiff, Option.isSome_some, Option.isSome_none, forall_eq_or_imp, forall_eq, reduceCtorEq, Nat.reduceAdd, Nat.reduceMul, List.zip_cons_cons, List.zip_nil_left, List.zip_nil_right, List.forall_mem_nil]
      first | done | simp
    · have k1 : decide ((i : Int) < (l.length : Int)) = false := decide_eq_false (by omega)
      simp only [runA, runB, runC, runD, runE, runF, fieldE, storeE, binE, ↓reduceIte, Nat.reduceLT, Nat.reduceLeDiff, Nat.reduceEqDiff, Nat.reduceAdd, Nat.reduceMul, Nat.reduceSub, reduceCtorEq, putAt, unE, Nat.reduceBEq, convE, buildE, List.replicate, Int.reduceLT, Int.reduceLE, Int.reduceToNat, mkE, mapSetE, hN, hF, ty_3, ty_4, ty_9, ty_25, ty_47, notIf, isEq, k1, trows_length]
      simp only [runB, finC, finD, Option.isSome_some, Option.isSome_none, ↓reduceIte, Nat.reduceEqDiff, Nat.reduceAdd, Nat.reduceMul, forall_eq_or_imp, forall_eq, implies_true, Nat.reduceBEq, reduceCtorEq, false_implies, List.zip_cons_cons, List.zip_nil_left, List.zip_nil_right, Nat.reduceLeDiff, List.forall_mem_nil, rs_60, ty_3, ty_4, ty_9, ty_25, ty_47]

theorem eqg_sVo : Try.prog.eqGuardType Try.prog.depth 122 = false := by kernel_rfl
theorem eq_sVo (y : Vt) : eqE Try.prog 10000 122 [.int .i64 y.kd, .int .i64 y.vw, .int .i64 y.ht, .str y.bl, .int .i64 y.tk, .int .i64 y.sg, .str y.sig] [.int .i64 y.kd, .int .i64 y.vw, .int .i64 y.ht, .str y.bl, .int .i64 y.tk, .int .i64 y.sg, .str y.sig] = some true := by
  have h : eqE Try.prog 10000 122 [.int .i64 y.kd, .int .i64 y.vw, .int .i64 y.ht, .str y.bl, .int .i64 y.tk, .int .i64 y.sg, .str y.sig] [.int .i64 y.kd, .int .i64 y.vw, .int .i64 y.ht, .str y.bl, .int .i64 y.tk, .int .i64 y.sg, .str y.sig] = some ((y.kd == y.kd) && ((y.vw == y.vw) && ((y.ht == y.ht) && ((y.bl == y.bl) && ((y.tk == y.tk) && ((y.sg == y.sg) && ((y.sig == y.sig) && true))))))) := by kernel_rfl
  rw [h]
  simp
noncomputable def sVoC : Contract := mkC (α := List Vt) (fun l => l.length ≤ 9223372036854775807) (fun l => [.c (.sl (votes l)), .c (.sl (votes l))]) (fun _ => []) (fun _ => ⟨[.pv (.c (.bool true))], []⟩)
theorem sVo_at (l : List Vt) (h : l.length ≤ 9223372036854775807) : sVoC [.c (.sl (votes l)), .c (.sl (votes l))] [] = some ⟨[.pv (.c (.bool true))], []⟩ := mkC_at (α := List Vt) l h (fun _ _ _ _ => rfl)
set_option maxHeartbeats 4000000 in
theorem sVo_sound : SoundC Try.prog 90 sVoC := by
  refine sound_fn Try.func90 (by kernel_rfl) rfl rfl ?_
  intro args objs r0 hr
  obtain ⟨l, hl, rfl, rfl, rfl⟩ := mkC_inv hr
  refine ⟨rfl, by show 2 ≤ _; decide, fun E hN hns hF => ?_⟩
  refine vc_sound none0_sound mixed _ _ _ ?_
  have hN := hN.trans nt_90
  have hl : l.length ≤ 9223372036854775807 := hl
  have g0 : ((l.length : Int) != (l.length : Int)) = false := by simp
  have nt1 : (!true) = false := rfl
  simp only [runA, runB, runC, runD, runE, runF, fieldE, storeE, binE, ↓reduceIte, Nat.reduceLT, Nat.reduceLeDiff, Nat.reduceEqDiff, Nat.reduceAdd, Nat.reduceMul, Nat.reduceSub, reduceCtorEq, putAt, unE, Nat.reduceBEq, convE, buildE, List.replicate, Int.reduceLT, Int.reduceLE, Int.reduceToNat, mkE, mapSetE, hN, hF, ty_3, ty_4, ty_9, ty_22, ty_122, notIf, isEq, votes_length, g0]
  refine AWP.loop (fun k st => ∃ i : Nat, i ≤ l.length ∧ k = l.length - i ∧ st = ⟨[(0, .c (.sl (votes l))), (1, .c (.sl (votes l))), (5, .c (.int .i64 (i : Int)))], []⟩) ⟨l.length, _, ?w, 0, Nat.zero_le _, rfl, rfl⟩ ?r
  case w =>
    rw [hns]
    simp only [runB, finC, finD, AS.get, AS.mem, false_implies, implies_true, ↓reduceIte, Nat.reduceEqDiff, Option.isSome_some, Option.isSome_none, forall_eq_or_imp, forall_eq, reduceCtorEq, Nat.reduceAdd, Nat.reduceMul, List.zip_cons_cons, List.zip_nil_left, List.zip_nil_right, List.forall_mem_nil]
    first | done | simp
  case r =>
    rintro k st ⟨i, hi, rfl, rfl⟩
    refine vc_sound none0_sound mixed _ _ _ ?_
    by_cases hlt : i < l.length
    · have k1 : decide ((i : Int) < (l.length : Int)) = true := decide_eq_true (by omega)
      have e1 : IntKind.i64.wrap ((i : Int) + 1) = (i : Int) + 1 := wrapI (by omega)
      have hg := votesD l i hlt
      unfold Vt.pcs at hg
      have hq := eq_sVo (l.getD i zeroV)
      generalize l.getD i zeroV = y at hg hq
      simp only [runA, runB, runC, runD, runE, runF, fieldE, storeE, binE, ↓reduceIte, Nat.reduceLT, Nat.reduceLeDiff, Nat.reduceEqDiff, Nat.reduceAdd, Nat.reduceMul, Nat.reduceSub, reduceCtorEq, putAt, unE, Nat.reduceBEq, convE, buildE, List.replicate, Int.reduceLT, Int.reduceLE, Int.reduceToNat, mkE, mapSetE, hN, hF, ty_3, ty_4, ty_9, ty_22, ty_122, notIf, isEq, k1, e1, hg, eqg_sVo, hq, nt1, votes_length]
      refine drawnP_intro (by kernel_rfl) (by kernel_rfl) ?_
      simp only [runA, runB, runC, runD, runE, runF, fieldE, storeE, binE, ↓reduceIte, Nat.reduceLT, Nat.reduceLeDiff, Nat.reduceEqDiff, Nat.reduceAdd, Nat.reduceMul, Nat.reduceSub, reduceCtorEq, putAt, unE, Nat.reduceBEq, convE, buildE, List.replicate, Int.reduceLT, Int.reduceLE, Int.reduceToNat, mkE, mapSetE, hN, hF, ty_3, ty_4, ty_9, ty_22, ty_122, notIf, isEq, k1, e1, hg, eqg_sVo, hq, nt1, votes_length]
      refine ⟨l.length - (i + 1), _, by omega, ?_, i + 1, by omega, rfl, rfl⟩
      rw [hns]
      simp only [runB, finC, finD, AS.get, AS.mem, false_implies, implies_true, ↓reduceIte, Nat.reduceEqDiff, Option.isSome_some, Option.isSome_none, forall_eq_or_imp, forall_eq, reduceCtorEq, Nat.reduceAdd, Nat.reduceMul, List.zip_cons_cons, List.zip_nil_left, List.zip_nil_right, List.forall_mem_nil]
      first | done | simp
    · have k1 : decide ((i : Int) < (l.length : Int)) = false := decide_eq_false (by omega)
      simp only [runA, runB, runC, runD, runE, runF, fieldE, storeE, binE, ↓reduceIte, Nat.reduceLT, Nat.reduceLeDiff, Nat.reduceEqDiff, Nat.reduceAdd, Nat.reduceMul, Nat.reduceSub, reduceCtorEq, putAt, unE, Nat.reduceBEq, convE, buildE, List.replicate, Int.reduceLT, Int.reduceLE, Int.reduceToNat, mkE, mapSetE, hN, hF, ty_3, ty_4, ty_9, ty_22, ty_122, notIf, isEq, k1, votes_length]
      simp only [runB, finC, finD, Option.isSome_some, Option.isSome_none, ↓reduceIte, Nat.reduceEqDiff, Nat.reduceAdd, Nat.reduceMul, forall_eq_or_imp, forall_eq, implies_true, Nat.reduceBEq, reduceCtorEq, false_implies, List.zip_cons_cons, List.zip_nil_left, List.zip_nil_right, Nat.reduceLeDiff, List.forall_mem_nil, rs_90, ty_3, ty_4, ty_9, ty_22, ty_122]


variable {Γ : FuncId → Contract}


noncomputable def sCtC : Contract := mkC (α := Ct) (fun c => c.vs.length ≤ 9223372036854775807) (fun c => [c.av, c.av]) (fun _ => []) (fun _ => ⟨[.pv (.c (.bool true))], []⟩)
theorem sCt_at (c : Ct) (h : c.vs.length ≤ 9223372036854775807) : sCtC [.agg [.c (.int .i64 c.vw), .c (.int .i64 c.ht), .c (.str c.bl), .c (.sl (votes c.vs))], .agg [.c (.int .i64 c.vw), .c (.int .i64 c.ht), .c (.str c.bl), .c (.sl (votes c.vs))]] [] = some ⟨[.pv (.c (.bool true))], []⟩ := mkC_at (α := Ct) c h (fun _ _ _ _ => rfl)
set_option maxRecDepth 100000 in
set_option maxHeartbeats 4000000 in
theorem sCt_sound (hΓ : SoundG Try.prog Γ) (h1 : Γ 90 = sVoC) : SoundC Try.prog 61 sCtC := by
  refine sound_fn Try.func61 (by kernel_rfl) rfl rfl ?_
  intro args objs r0 hr
  obtain ⟨c, hl, rfl, rfl, rfl⟩ := mkC_inv hr
  refine ⟨rfl, by show 2 ≤ _; decide, fun E hN hns hF => ?_⟩
  refine vc_sound hΓ mixed _ _ _ ?_
  have hN := hN.trans nt_61
  have hl : c.vs.length ≤ 9223372036854775807 := hl
  have hbs : ∀ x : List UInt8, (x == x) = true := fun x => by simp
  have hbi : ∀ x : Int, (x == x) = true := fun x => by simp
  have q1 := sVo_at c.vs hl
  unfold Ct.av
  simp only [runA, runB, runC, runD, runE, runF, fieldE, storeE, binE, ↓reduceIte, Nat.reduceLT, Nat.reduceLeDiff, Nat.reduceEqDiff, Nat.reduceAdd, Nat.reduceMul, Nat.reduceSub, reduceCtorEq, putAt, unE, Nat.reduceBEq, convE, buildE, List.replicate, Int.reduceLT, Int.reduceLE, Int.reduceToNat, mkE, mapSetE, hN, hF, ty_3, ty_4, ty_9, ty_22, ty_24, ty_122, notIf, isEq, hbs, hbi, h1, q1]
  simp only [runB, finC, finD, Option.isSome_some, Option.isSome_none, ↓reduceIte, Nat.reduceEqDiff, Nat.reduceAdd, Nat.reduceMul, forall_eq_or_imp, forall_eq, implies_true, Nat.reduceBEq, reduceCtorEq, false_implies, List.zip_cons_cons, List.zip_nil_left, List.zip_nil_right, Nat.reduceLeDiff, List.forall_mem_nil, rs_61, ty_3, ty_4, ty_9, ty_22, ty_24, ty_122]

noncomputable def sBkC : Contract := mkC (α := Blk) (fun b => b.txs.length ≤ 9223372036854775807 ∧ b.ju.vs.length ≤ 9223372036854775807) (fun b => [b.av, b.av]) (fun _ => []) (fun _ => ⟨[.pv (.c (.bool true))], []⟩)
theorem sBk_at (b : Blk) (h : b.txs.length ≤ 9223372036854775807 ∧ b.ju.vs.length ≤ 9223372036854775807) : sBkC [.agg [.c (.int .i64 b.vw), .c (.int .i64 b.ht), .c (.str b.pa), .c (.int .i64 b.ju.vw), .c (.int .i64 b.ju.ht), .c (.str b.ju.bl), .c (.sl (votes b.ju.vs)), .c (.sl (trows b.txs)), .c (.str b.sig)], .agg [.c (.int .i64 b.vw), .c (.int .i64 b.ht), .c (.str b.pa), .c (.int .i64 b.ju.vw), .c (.int .i64 b.ju.ht), .c (.str b.ju.bl), .c (.sl (votes b.ju.vs)), .c (.sl (trows b.txs)), .c (.str b.sig)]] [] = some ⟨[.pv (.c (.bool true))], []⟩ := mkC_at (α := Blk) b h (fun _ _ _ _ => rfl)
set_option maxRecDepth 100000 in
set_option maxHeartbeats 4000000 in
theorem sBk_sound (hΓ : SoundG Try.prog Γ) (h1 : Γ 60 = sTxC) (h2 : Γ 61 = sCtC) : SoundC Try.prog 26 sBkC := by
  refine sound_fn Try.func26 (by kernel_rfl) rfl rfl ?_
  intro args objs r0 hr
  obtain ⟨b, hl, rfl, rfl, rfl⟩ := mkC_inv hr
  refine ⟨rfl, by show 2 ≤ _; decide, fun E hN hns hF => ?_⟩
  refine vc_sound hΓ mixed _ _ _ ?_
  have hN := hN.trans nt_26
  have hl : b.txs.length ≤ 9223372036854775807 ∧ b.ju.vs.length ≤ 9223372036854775807 := hl
  have hbs : ∀ x : List UInt8, (x == x) = true := fun x => by simp
  have hbi : ∀ x : Int, (x == x) = true := fun x => by simp
  have q1 := sTx_at b.txs hl.1
  have q2 := sCt_at b.ju hl.2
  unfold Blk.av
  simp only [runA, runB, runC, runD, runE, runF, fieldE, storeE, binE, ↓reduceIte, Nat.reduceLT, Nat.reduceLeDiff, Nat.reduceEqDiff, Nat.reduceAdd, Nat.reduceMul, Nat.reduceSub, reduceCtorEq, putAt, unE, Nat.reduceBEq, convE, buildE, List.replicate, Int.reduceLT, Int.reduceLE, Int.reduceToNat, mkE, mapSetE, hN, hF, ty_3, ty_4, ty_9, ty_22, ty_24, ty_25, ty_27, ty_47, notIf, isEq, hbs, hbi, h1, h2, q1, q2]
  simp only [runB, finC, finD, Option.isSome_some, Option.isSome_none, ↓reduceIte, Nat.reduceEqDiff, Nat.reduceAdd, Nat.reduceMul, forall_eq_or_imp, forall_eq, implies_true, Nat.reduceBEq, reduceCtorEq, false_implies, List.zip_cons_cons, List.zip_nil_left, List.zip_nil_right, Nat.reduceLeDiff, List.forall_mem_nil, rs_26, ty_3, ty_4, ty_9, ty_22, ty_24, ty_25, ty_27, ty_47]


variable {Γ : FuncId → Contract}


def orC (C D : Contract) : Contract := fun args objs => match C args objs with | some r => some r | none => D args objs
theorem orC_sound {P : Program} {f : FuncId} {C D : Contract} (h1 : SoundC P f C) (h2 : SoundC P f D) : SoundC P f (orC C D) := by
  refine ⟨h1.1, fun args objs r h => ?_⟩
  unfold orC at h
  split at h
  · rename_i r' hr; cases h; exact h1.2 args objs r hr
  · exact h2.2 args objs r h
theorem orC_l {C D : Contract} {a : List AV} {o : List (List OV)} {r : CRes} (h : C a o = some r) : orC C D a o = some r := by simp only [orC, h]
theorem orC_r {C D : Contract} {a : List AV} {o : List (List OV)} (h : C a o = none) : orC C D a o = D a o := by simp only [orC, h]
theorem mkC_none {α : Type} {ok : α → Prop} {A : α → List AV} {O : α → List (List OV)} {R : α → CRes} {xs : List AV} {os : List (List OV)} (h : ∀ a, os ≠ O a) : mkC ok A O R xs os = none := by
  cases hc : mkC ok A O R xs os with
  | none => rfl
  | some r =>
    obtain ⟨a, _, _, h2, _⟩ := mkC_inv hc
    exact absurd h2 (h a)
noncomputable def putA : Contract := orC putTC (orC putTM (orC putNX putZX))
noncomputable def getA : Contract := orC getTC getX
theorem putA_p (o : List Blk) (b : Blk) (h : smB b) : putA [.ptr 6400000 0, .agg [.c (.int .i64 b.vw), .c (.int .i64 b.ht), .c (.str b.pa), .c (.int .i64 b.ju.vw), .c (.int .i64 b.ju.ht), .c (.str b.ju.bl), .c (.sl (votes b.ju.vs)), .c (.sl (trows b.txs)), .c (.str b.sig)]] [[.mp true (esOf o)]] = some ⟨[.pv (.c (.bool (putB' o b)))], [[.mp true (esOf (putO o b))]]⟩ := orC_l (putT_p o b h)
theorem putA_m (o : List Blk) (b : Blk) (h : smB b ∧ 0 < b.txs.length) : putA [.ptr 6400000 0, .agg [.c (.int .i64 b.vw), .c (.int .i64 b.ht), .c (.str b.pa), .c (.int .i64 b.ju.vw), .c (.int .i64 b.ju.ht), .c (.str b.ju.bl), .c (.sl (votes b.ju.vs)), .msl 6400064 0 b.txs.length false, .c (.str b.sig)]] [[.mp true (esOf o)], (trows b.txs).flatten.map .c] = some ⟨[.pv (.c (.bool (putB' o b)))], [[.mp true (esOf (putO o b))], (trows b.txs).flatten.map .c]⟩ := by
  unfold putA
  rw [orC_r (C := putTC) (mkC_none fun a e => absurd (congrArg List.length e) (by simp))]
  exact orC_l (putTM_at o b h)
theorem putA_n (b : Blk) (h : smB b) : putA [.nilptr, .agg [.c (.int .i64 b.vw), .c (.int .i64 b.ht), .c (.str b.pa), .c (.int .i64 b.ju.vw), .c (.int .i64 b.ju.ht), .c (.str b.ju.bl), .c (.sl (votes b.ju.vs)), .c (.sl (trows b.txs)), .c (.str b.sig)]] [] = some ⟨[.pv (.c (.bool false))], []⟩ := by
  unfold putA
  rw [orC_r (C := putTC) (mkC_none fun a e => by cases e), orC_r (C := putTM) (mkC_none fun a e => by cases e)]
  exact orC_l (putN_at b h)
theorem putA_z (b : Blk) (h : smB b) : putA [.ptr 6400000 0, .agg [.c (.int .i64 b.vw), .c (.int .i64 b.ht), .c (.str b.pa), .c (.int .i64 b.ju.vw), .c (.int .i64 b.ju.ht), .c (.str b.ju.bl), .c (.sl (votes b.ju.vs)), .c (.sl (trows b.txs)), .c (.str b.sig)]] [[.nilmp]] = some ⟨[.pv (.c (.bool false))], [[.nilmp]]⟩ := by
  unfold putA
  rw [orC_r (C := putTC) (mkC_none fun a e => by cases e), orC_r (C := putTM) (mkC_none fun a e => by cases e), orC_r (C := putNX) (mkC_none fun a e => by cases e)]
  exact putZ_at b h
theorem getA_p (o : List Blk) (s : List UInt8) (h : treeOK o) : getA [.ptr 6400000 0, .c (.str s)] [[.mp true (esOf o)]] = some ⟨[.pv (gotB o s).av, .pv (.c (.bool (atB o s).isSome))], [[.mp true (esOf o)]]⟩ := orC_l (getT_at o s h)
theorem getA_n (s : List UInt8) : getA [.nilptr, .c (.str s)] [] = some ⟨[.pv (.agg [.c (.int .i64 0), .c (.int .i64 0), .c (.str []), .c (.int .i64 0), .c (.int .i64 0), .c (.str []), .c (.sl []), .c (.sl []), .c (.str [])]), .pv (.c (.bool false))], []⟩ := by
  unfold getA
  rw [orC_r (C := getTC) (mkC_none fun a e => by cases e)]
  rfl
theorem getA_z (s : List UInt8) : getA [.ptr 6400000 0, .c (.str s)] [[.nilmp]] = some ⟨[.pv (.agg [.c (.int .i64 0), .c (.int .i64 0), .c (.str []), .c (.int .i64 0), .c (.int .i64 0), .c (.str []), .c (.sl []), .c (.sl []), .c (.str [])]), .pv (.c (.bool false))], [[.nilmp]]⟩ := by
  unfold getA
  rw [orC_r (C := getTC) (mkC_none fun a e => by cases e)]
  rfl
theorem ch_n (s : List UInt8) : chnX [.nilptr, .c (.str s)] [] = some ⟨[.pv (.c (.sl [])), .pv (.c (.bool false))], []⟩ := rfl
theorem ch_z (s : List UInt8) : chnX [.ptr 6400000 0, .c (.str s)] [[.nilmp]] = some ⟨[.pv (.c (.sl [])), .pv (.c (.bool false))], [[.nilmp]]⟩ := rfl
theorem ex_n (s u : List UInt8) : extX [.nilptr, .c (.str s), .c (.str u)] [] = some ⟨[.pv (.c (.bool false))], []⟩ := rfl
theorem ex_z (s u : List UInt8) : extX [.ptr 6400000 0, .c (.str s), .c (.str u)] [[.nilmp]] = some ⟨[.pv (.c (.bool false))], [[.nilmp]]⟩ := rfl
theorem ln_n : lenX [.nilptr] [] = some ⟨[.pv (.c (.int .i64 0))], []⟩ := rfl
theorem ln_z : lenX [.ptr 6400000 0] [[.nilmp]] = some ⟨[.pv (.c (.int .i64 0))], [[.nilmp]]⟩ := rfl
/-- What was put is found; nothing else is there. -/
theorem own_one (b : Blk) : (putB' [] b = true ∧ putO [] b = [b] ∧ okB b ∧ gotB [b] (nameS b) = b ∧ (atB [b] (nameS b)).isSome = true) ∨ (putB' [] b = false ∧ putO [] b = [] ∧ (atB [] (nameS b)).isSome = false) := by
  by_cases h : okB b
  · have h1 : putB' [] b = true := by
      unfold putB'
      rw [decide_eq_true h]
      rfl
    have h2 : atB [b] (nameS b) = some b := by
      unfold atB
      rw [List.find?_cons, beq_self_eq_true]
    refine .inl ⟨h1, by unfold putO; rw [h1]; rfl, h, got_some h2, by rw [h2]; rfl⟩
  · have h1 : putB' [] b = false := by
      unfold putB'
      rw [decide_eq_false h]
      rfl
    exact .inr ⟨h1, by unfold putO; rw [h1]; rfl, rfl⟩
noncomputable def towC : Contract := mkC (α := Blk) smB (fun b => [b.av]) (fun _ => []) (fun _ => ⟨[.pv (.c (.bool true))], []⟩)

theorem treeOK_one {b : Blk} (h : okB b) (hs : smB b) : treeOK [b] := ⟨by simp, fun x hx => by
  rw [List.mem_singleton] at hx
  subst hx
  exact ⟨h, hs⟩⟩

set_option maxRecDepth 100000 in
set_option maxHeartbeats 16000000 in
theorem tow_sound (hΓ : SoundG Try.prog Γ) (h1 : Γ 14 = alive14C) (h2 : Γ 19 = newTC) (h3 : Γ 20 = putA) (h4 : Γ 24 = getA) (h5 : Γ 25 = bkNC) (h6 : Γ 26 = sBkC) (h7 : Γ 27 = genC) (h8 : Γ 21 = chnX) (h9 : Γ 17 = extX) (hL : Γ 23 = lenX) : SoundC Try.prog 6 towC := by
  refine sound_fnA ⟨[19, 62], []⟩ Try.func6 (by kernel_rfl) rfl rfl ?_
  intro args objs r0 hr
  obtain ⟨⟨vw, ht, pa, ⟨jv, jh, jb, js⟩, txs, sig⟩, hl, rfl, rfl, rfl⟩ := mkC_inv hr
  refine ⟨rfl, by show 1 ≤ _; decide, fun E hN hns hF => ?_⟩
  refine vc_sound hΓ mixed _ _ _ ?_
  have hN := hN.trans nt_6
  have hl : smB ⟨vw, ht, pa, ⟨jv, jh, jb, js⟩, txs, sig⟩ := hl
  have hl1 : txs.length ≤ 1099511627776 := hl.1
  have qa : alive14C [] [] = some ⟨[.pv (.c (.bool true))], []⟩ := rfl
  have q7 : genC [] [] = some ⟨[.pv (.c (.str genS))], []⟩ := rfl
  have q5 := bkN_at vw ht pa jv jh jb js txs sig (by omega)
  have q3n := putA_n ⟨vw, ht, pa, ⟨jv, jh, jb, js⟩, txs, sig⟩ hl
  have q3z := putA_z ⟨vw, ht, pa, ⟨jv, jh, jb, js⟩, txs, sig⟩ hl
  have q6 := sBk_at ⟨vw, ht, pa, ⟨jv, jh, jb, js⟩, txs, sig⟩ (by unfold smB at hl; dsimp only at hl ⊢; omega)
  have hes : esOf [] = [] := rfl
  have hone := own_one ⟨vw, ht, pa, ⟨jv, jh, jb, js⟩, txs, sig⟩
  have q4 : ∀ o, treeOK o → _ := fun o h => getA_p o (nameS ⟨vw, ht, pa, ⟨jv, jh, jb, js⟩, txs, sig⟩) h
  unfold Blk.av at q4 ⊢
  dsimp only at q3n q3z q6 ⊢
  have hz := rowsOK_trows txs
  refine (Decidable.em (txs.length = 0)).elim (fun h0 => ?e) (fun h0 => ?f)
  case' e =>
    have h0 : txs = [] := List.length_eq_zero_iff.1 h0
    have ht0 : trows txs = [] := by rw [h0]; rfl
    have q3 := putA_p [] ⟨vw, ht, pa, ⟨jv, jh, jb, js⟩, txs, sig⟩ hl
    rw [hes] at q3
    dsimp only at q3
    rw [ht0] at q3
    have k1 : decide (0 < txs.length) = false := by rw [h0]; rfl
    have k2 : (txs.length * 48 ≤ 140737488355328) = True := eq_true (by omega)
    simp only [runA, runB, runC, runD, runE, runF, fieldE, storeE, binE, ↓reduceIte, Nat.reduceLT, Nat.reduceLeDiff, Nat.reduceEqDiff, Nat.reduceAdd, Nat.reduceMul, Nat.reduceSub, reduceCtorEq, putAt, unE, Nat.reduceBEq, convE, buildE, List.replicate, Int.reduceLT, Int.reduceLE, Int.reduceToNat, mkE, mapSetE, hN, hF, ty_3, ty_4, ty_9, ty_24, ty_25, ty_27, ty_33, ty_47, ty_51, ty_53, ty_54, notIf, isEq, Option.isSome_some, Option.bind_some, appendM, newLooseE, trows_length, Nat.zero_lt_succ, callA, argsA, cellsA, c_At, c_E, c_back, h1, qa, h2, newT_at, h3, h4, h5, q5, h6, h7, q7, h8, h9, hL, ch_n, ch_z, ex_n, ex_z, ln_n, ln_z, getA_n, getA_z, q3, hz, k1, k2]
    iterate 2 (try (refine drawnP_intro (by kernel_rfl) (by kernel_rfl) ?_; simp only [runA, runB, runC, runD, runE, runF, fieldE, storeE, binE, ↓reduceIte, Nat.reduceLT, Nat.reduceLeDiff, Nat.reduceEqDiff, Nat.reduceAdd, Nat.reduceMul, Nat.reduceSub, reduceCtorEq, putAt, unE, Nat.reduceBEq, convE, buildE, List.replicate, Int.reduceLT, Int.reduceLE, Int.reduceToNat, mkE, mapSetE, hN, hF, ty_3, ty_4, ty_9, ty_24, ty_25, ty_27, ty_33, ty_47, ty_51, ty_53, ty_54, notIf, isEq, Option.isSome_some, Option.bind_some, appendM, newLooseE, trows_length, Nat.zero_lt_succ, callA, argsA, cellsA, c_At, c_E, c_back, h1, qa, h2, newT_at, h3, h4, h5, q5, h6, h7, q7, h8, h9, hL, ch_n, ch_z, ex_n, ex_z, ln_n, ln_z, getA_n, getA_z, q3, hz, k1, k2]))
  case' f =>
    have h0 : 0 < txs.length := by omega
    have q3 := putA_m [] ⟨vw, ht, pa, ⟨jv, jh, jb, js⟩, txs, sig⟩ ⟨hl, h0⟩
    rw [hes] at q3
    dsimp only at q3
    have k1 : decide (0 < txs.length) = true := decide_eq_true h0
    have k2 : (txs.length * 48 ≤ 140737488355328) = True := eq_true (by omega)
    simp only [runA, runB, runC, runD, runE, runF, fieldE, storeE, binE, ↓reduceIte, Nat.reduceLT, Nat.reduceLeDiff, Nat.reduceEqDiff, Nat.reduceAdd, Nat.reduceMul, Nat.reduceSub, reduceCtorEq, putAt, unE, Nat.reduceBEq, convE, buildE, List.replicate, Int.reduceLT, Int.reduceLE, Int.reduceToNat, mkE, mapSetE, hN, hF, ty_3, ty_4, ty_9, ty_24, ty_25, ty_27, ty_33, ty_47, ty_51, ty_53, ty_54, notIf, isEq, Option.isSome_some, Option.bind_some, appendM, newLooseE, trows_length, Nat.zero_lt_succ, callA, argsA, cellsA, c_At, c_E, c_back, h1, qa, h2, newT_at, h3, h4, h5, q5, h6, h7, q7, h8, h9, hL, ch_n, ch_z, ex_n, ex_z, ln_n, ln_z, getA_n, getA_z, q3, hz, k1, k2]
    iterate 2 (try (refine drawnP_intro (by kernel_rfl) (by kernel_rfl) ?_; simp only [runA, runB, runC, runD, runE, runF, fieldE, storeE, binE, ↓reduceIte, Nat.reduceLT, Nat.reduceLeDiff, Nat.reduceEqDiff, Nat.reduceAdd, Nat.reduceMul, Nat.reduceSub, reduceCtorEq, putAt, unE, Nat.reduceBEq, convE, buildE, List.replicate, Int.reduceLT, Int.reduceLE, Int.reduceToNat, mkE, mapSetE, hN, hF, ty_3, ty_4, ty_9, ty_24, ty_25, ty_27, ty_33, ty_47, ty_51, ty_53, ty_54, notIf, isEq, Option.isSome_some, Option.bind_some, appendM, newLooseE, trows_length, Nat.zero_lt_succ, callA, argsA, cellsA, c_At, c_E, c_back, h1, qa, h2, newT_at, h3, h4, h5, q5, h6, h7, q7, h8, h9, hL, ch_n, ch_z, ex_n, ex_z, ln_n, ln_z, getA_n, getA_z, q3, hz, k1, k2]))
  case' e =>
    refine AWP.loop1 ?_
    refine vc_sound hΓ mixed _ _ _ ?_
    have c0 : decide ((0 : Int) < ((0 : Nat) : Int)) = false := rfl
  case' f =>
    refine AWP.loop (fun c st => ∃ (i : Nat) (rows : List (List PC)), i ≤ txs.length ∧ c = txs.length - i ∧ rowsOK 5 rows ∧ rows.length = txs.length ∧ st = ⟨[(1, .ptr 64 0), (3, .ptr 192 0), (4, .ptr 1538 0), (5, .c (.bool (putB' [] ⟨vw, ht, pa, ⟨jv, jh, jb, js⟩, txs, sig⟩))), (6, .c (.int .i64 (i : Int)))], [(64, .obj [.c (.int .i64 vw), .c (.int .i64 ht), .c (.str pa), .c (.int .i64 jv), .c (.int .i64 jh), .c (.str jb), .c (.sl (votes js)), .c (.sl (trows txs)), .c (.str sig)] false), (192, .obj [.c (.int .i64 vw), .c (.int .i64 ht), .c (.str pa), .c (.int .i64 jv), .c (.int .i64 jh), .c (.str jb), .c (.sl (votes js)), .msl 1408 0 txs.length false, .c (.str sig)] false), (1408, .obj (rows.flatten.map .c) false), (1538, .obj [.mp 1546] false), (1546, .mp true (esOf (putO [] ⟨vw, ht, pa, ⟨jv, jh, jb, js⟩, txs, sig⟩)))]⟩) ⟨txs.length, _, ?w, 0, trows txs, Nat.zero_le _, rfl, hz, trows_length txs, rfl⟩ ?r
  case w =>
    rw [hns]
    simp only [runB, finC, finD, AS.get, AS.mem, false_implies, implies_true, ↓reduceIte, Nat.reduceEqDiff, Option.isSome_some, Option.isSome_none, forall_eq_or_imp, forall_eq, reduceCtorEq, Nat.reduceAdd, Nat.reduceMul, List.zip_cons_cons, List.zip_nil_left, List.zip_nil_right, List.forall_mem_nil, c_amds]
    first | done | simp
  case' r =>
    rintro c st ⟨i, rows, hi, rfl, hro, hrl, rfl⟩
    refine vc_sound hΓ mixed _ _ _ ?_
    have hfl := flat_len hro
    rw [hrl] at hfl
    refine (Decidable.em (i < txs.length)).elim (fun hlt => ?inn) (fun hlt => ?out)
  case inn =>
    have c0 : decide ((i : Int) < (txs.length : Int)) = true := decide_eq_true (by omega)
    have hi2 : ((i : Int) < (txs.length : Int)) = True := eq_true (by omega)
    have hi3 : (i * 5 + 5 ≤ txs.length * 5) = True := eq_true (by omega)
    have e1 : IntKind.i64.wrap ((i : Int) + 1) = (i : Int) + 1 := wrapI (by omega)
    have hput : putAt (rows.flatten.map AV.c) (i * 5) [.c (.int .i64 0), .c (.int .i64 0), .c (.int .i64 0), .c (.int .i64 0), .c (.str [])] = (rows.set i [.int .i64 0, .int .i64 0, .int .i64 0, .int .i64 0, .str []]).flatten.map .c := @flat_put 5 (by decide) rows i [.int .i64 0, .int .i64 0, .int .i64 0, .int .i64 0, .str []] hro rfl (by omega)
    have hro2 : rowsOK 5 (rows.set i [.int .i64 0, .int .i64 0, .int .i64 0, .int .i64 0, .str []]) := fun r hr => by
      rcases List.mem_or_eq_of_mem_set hr with h | h
      · exact hro r h
      · rw [h]; rfl
    simp only [runA, runB, runC, runD, runE, runF, fieldE, storeE, binE, ↓reduceIte, Nat.reduceLT, Nat.reduceLeDiff, Nat.reduceEqDiff, Nat.reduceAdd, Nat.reduceMul, Nat.reduceSub, reduceCtorEq, unE, Nat.reduceBEq, convE, buildE, List.replicate, Int.reduceLT, Int.reduceLE, Int.reduceToNat, mkE, mapSetE, hN, hF, ty_3, ty_4, ty_9, ty_24, ty_25, ty_27, ty_33, ty_47, ty_51, ty_53, ty_54, notIf, isEq, c0, hi2, hi3, hfl, hput, e1]
    iterate 2 (try (refine drawnP_intro (by kernel_rfl) (by kernel_rfl) ?_; simp only [runA, runB, runC, runD, runE, runF, fieldE, storeE, binE, ↓reduceIte, Nat.reduceLT, Nat.reduceLeDiff, Nat.reduceEqDiff, Nat.reduceAdd, Nat.reduceMul, Nat.reduceSub, reduceCtorEq, unE, Nat.reduceBEq, convE, buildE, List.replicate, Int.reduceLT, Int.reduceLE, Int.reduceToNat, mkE, mapSetE, hN, hF, ty_3, ty_4, ty_9, ty_24, ty_25, ty_27, ty_33, ty_47, ty_51, ty_53, ty_54, notIf, isEq, c0, hi2, hi3, hfl, hput, e1]))
    refine ⟨txs.length - (i + 1), _, by omega, ?_, i + 1, rows.set i [.int .i64 0, .int .i64 0, .int .i64 0, .int .i64 0, .str []], by omega, rfl, hro2, by rw [List.length_set]; exact hrl, rfl⟩
    rw [hns]
    simp only [runB, finC, finD, AS.get, AS.mem, false_implies, implies_true, ↓reduceIte, Nat.reduceEqDiff, Option.isSome_some, Option.isSome_none, forall_eq_or_imp, forall_eq, reduceCtorEq, Nat.reduceAdd, Nat.reduceMul, List.zip_cons_cons, List.zip_nil_left, List.zip_nil_right, List.forall_mem_nil, c_amds]
    first | done | (simp; done) | (refine ⟨by omega, by simp⟩; done) | (simp; omega) | omega
  case' out =>
    have c0 : decide ((i : Int) < (txs.length : Int)) = false := decide_eq_false (by omega)
  all_goals
    refine hone.elim (fun hh => ?_) (fun hh => ?_)
    all_goals
      first
        | (obtain ⟨p1, p2, p3, p4, p5⟩ := hh
           have q4 := getA_p _ (nameS ⟨vw, ht, pa, ⟨jv, jh, jb, js⟩, txs, sig⟩) (treeOK_one p3 hl)
           rw [p4, p5] at q4
           unfold Blk.av at q4
           dsimp only at q4)
        | (obtain ⟨p1, p2, p5⟩ := hh
           have q4 := getA_p [] (nameS ⟨vw, ht, pa, ⟨jv, jh, jb, js⟩, txs, sig⟩) treeOK_nil
           rw [show gotB [] (nameS ⟨vw, ht, pa, ⟨jv, jh, jb, js⟩, txs, sig⟩) = zeroBk from rfl, p5] at q4
           unfold Blk.av zeroBk at q4
           dsimp only at q4
           simp only [votes_nil, trows_nil] at q4)
      simp only [p1, p2]
      simp only [runA, runB, runC, runD, runE, runF, fieldE, storeE, binE, ↓reduceIte, Nat.reduceLT, Nat.reduceLeDiff, Nat.reduceEqDiff, Nat.reduceAdd, Nat.reduceMul, Nat.reduceSub, reduceCtorEq, putAt, unE, Nat.reduceBEq, convE, buildE, List.replicate, Int.reduceLT, Int.reduceLE, Int.reduceToNat, mkE, mapSetE, hN, hF, ty_3, ty_4, ty_9, ty_24, ty_25, ty_27, ty_33, ty_47, ty_51, ty_53, ty_54, notIf, isEq, Option.isSome_some, Option.bind_some, appendM, newLooseE, trows_length, Nat.zero_lt_succ, callA, argsA, cellsA, c_At, c_E, c_back, h1, qa, h2, newT_at, h3, h4, h5, q5, h6, h7, q7, h8, h9, hL, ch_n, ch_z, ex_n, ex_z, ln_n, ln_z, getA_n, getA_z, c0, q4, q6, Bool.and_true, Bool.and_false, Bool.not_true, bne_self_eq_false]
      iterate 2 (try (refine drawnP_intro (by kernel_rfl) (by kernel_rfl) ?_; simp only [runA, runB, runC, runD, runE, runF, fieldE, storeE, binE, ↓reduceIte, Nat.reduceLT, Nat.reduceLeDiff, Nat.reduceEqDiff, Nat.reduceAdd, Nat.reduceMul, Nat.reduceSub, reduceCtorEq, putAt, unE, Nat.reduceBEq, convE, buildE, List.replicate, Int.reduceLT, Int.reduceLE, Int.reduceToNat, mkE, mapSetE, hN, hF, ty_3, ty_4, ty_9, ty_24, ty_25, ty_27, ty_33, ty_47, ty_51, ty_53, ty_54, notIf, isEq, Option.isSome_some, Option.bind_some, appendM, newLooseE, trows_length, Nat.zero_lt_succ, callA, argsA, cellsA, c_At, c_E, c_back, h1, qa, h2, newT_at, h3, h4, h5, q5, h6, h7, q7, h8, h9, hL, ch_n, ch_z, ex_n, ex_z, ln_n, ln_z, getA_n, getA_z, c0, q4, q6, Bool.and_true, Bool.and_false, Bool.not_true, bne_self_eq_false]))
      refine AWP.loop (fun c st => ∃ i : Nat, i ≤ 2 ∧ c = 2 - i ∧ st = ⟨[(1, .ptr 64 0), (10, .msl 3968 0 2 true), (11, .c (.int .i64 (i : Int)))], [(64, .obj [.c (.int .i64 vw), .c (.int .i64 ht), .c (.str pa), .c (.int .i64 jv), .c (.int .i64 jh), .c (.str jb), .c (.sl (votes js)), .c (.sl (trows txs)), .c (.str sig)] false), (3968, .obj [.nilptr, .ptr 3904 0] false), (3904, .obj [.nilmp] false)]⟩) ⟨2, _, ?_, 0, by omega, rfl, rfl⟩ ?_
      · rw [hns]
        simp only [runB, finC, finD, AS.get, AS.mem, false_implies, implies_true, ↓reduceIte, Nat.reduceEqDiff, Option.isSome_some, Option.isSome_none, forall_eq_or_imp, forall_eq, reduceCtorEq, Nat.reduceAdd, Nat.reduceMul, List.zip_cons_cons, List.zip_nil_left, List.zip_nil_right, List.forall_mem_nil]
        first | done | simp
      · rintro c st ⟨i, hi, rfl, rfl⟩
        refine vc_sound hΓ mixed _ _ _ ?_
        have z00 : ((0 : Int) != 0) = false := rfl
        have z01 : decide (((0 : Nat) : Int) < ((2 : Nat) : Int)) = true := rfl
        have z10 : decide (((1 : Nat) : Int) < ((2 : Nat) : Int)) = true := rfl
        have z11 : IntKind.i64.wrap (((0 : Nat) : Int) + 1) = ((1 : Nat) : Int) := rfl
        have z12 : IntKind.i64.wrap (((1 : Nat) : Int) + 1) = ((2 : Nat) : Int) := rfl
        have z13 : (((0 : Nat) : Int) < ((2 : Nat) : Int)) = True := eq_true (by decide)
        have z14 : (((1 : Nat) : Int) < ((2 : Nat) : Int)) = True := eq_true (by decide)
        have z15 : decide (((2 : Nat) : Int) < ((2 : Nat) : Int)) = false := rfl
        have hcs : i = 0 ∨ i = 1 ∨ i = 2 := by omega
        rcases hcs with rfl | rfl | rfl
        · skip
          simp only [runA, runB, runC, runD, runE, runF, fieldE, storeE, binE, ↓reduceIte, Nat.reduceLT, Nat.reduceLeDiff, Nat.reduceEqDiff, Nat.reduceAdd, Nat.reduceMul, Nat.reduceSub, reduceCtorEq, putAt, unE, Nat.reduceBEq, convE, buildE, List.replicate, Int.reduceLT, Int.reduceLE, Int.reduceToNat, mkE, mapSetE, hN, hF, ty_3, ty_4, ty_9, ty_24, ty_25, ty_27, ty_33, ty_47, ty_51, ty_53, ty_54, notIf, isEq, Option.isSome_some, Option.bind_some, appendM, newLooseE, trows_length, Nat.zero_lt_succ, callA, argsA, cellsA, c_At, c_E, c_back, h1, qa, h2, newT_at, h3, h4, h5, q5, h6, h7, q7, h8, h9, hL, ch_n, ch_z, ex_n, ex_z, ln_n, ln_z, getA_n, getA_z, q3n, q3z, z00, z01, z10, z11, z12, z13, z14, z15]
          iterate 5 (try (refine drawnP_intro (by kernel_rfl) (by kernel_rfl) ?_; simp only [runA, runB, runC, runD, runE, runF, fieldE, storeE, binE, ↓reduceIte, Nat.reduceLT, Nat.reduceLeDiff, Nat.reduceEqDiff, Nat.reduceAdd, Nat.reduceMul, Nat.reduceSub, reduceCtorEq, putAt, unE, Nat.reduceBEq, convE, buildE, List.replicate, Int.reduceLT, Int.reduceLE, Int.reduceToNat, mkE, mapSetE, hN, hF, ty_3, ty_4, ty_9, ty_24, ty_25, ty_27, ty_33, ty_47, ty_51, ty_53, ty_54, notIf, isEq, Option.isSome_some, Option.bind_some, appendM, newLooseE, trows_length, Nat.zero_lt_succ, callA, argsA, cellsA, c_At, c_E, c_back, h1, qa, h2, newT_at, h3, h4, h5, q5, h6, h7, q7, h8, h9, hL, ch_n, ch_z, ex_n, ex_z, ln_n, ln_z, getA_n, getA_z, q3n, q3z, z00, z01, z10, z11, z12, z13, z14, z15]))
          refine ⟨1, _, by omega, ?_, 1, by omega, rfl, rfl⟩
          rw [hns]
          simp only [runB, finC, finD, AS.get, AS.mem, false_implies, implies_true, ↓reduceIte, Nat.reduceEqDiff, Option.isSome_some, Option.isSome_none, forall_eq_or_imp, forall_eq, reduceCtorEq, Nat.reduceAdd, Nat.reduceMul, List.zip_cons_cons, List.zip_nil_left, List.zip_nil_right, List.forall_mem_nil]
          first | done | (simp; done) | (refine ⟨by omega, by simp⟩; done) | (simp; omega) | omega
        · skip
          simp only [runA, runB, runC, runD, runE, runF, fieldE, storeE, binE, ↓reduceIte, Nat.reduceLT, Nat.reduceLeDiff, Nat.reduceEqDiff, Nat.reduceAdd, Nat.reduceMul, Nat.reduceSub, reduceCtorEq, putAt, unE, Nat.reduceBEq, convE, buildE, List.replicate, Int.reduceLT, Int.reduceLE, Int.reduceToNat, mkE, mapSetE, hN, hF, ty_3, ty_4, ty_9, ty_24, ty_25, ty_27, ty_33, ty_47, ty_51, ty_53, ty_54, notIf, isEq, Option.isSome_some, Option.bind_some, appendM, newLooseE, trows_length, Nat.zero_lt_succ, callA, argsA, cellsA, c_At, c_E, c_back, h1, qa, h2, newT_at, h3, h4, h5, q5, h6, h7, q7, h8, h9, hL, ch_n, ch_z, ex_n, ex_z, ln_n, ln_z, getA_n, getA_z, q3n, q3z, z00, z01, z10, z11, z12, z13, z14, z15]
          iterate 5 (try (refine drawnP_intro (by kernel_rfl) (by kernel_rfl) ?_; simp only [runA, runB, runC, runD, runE, runF, fieldE, storeE, binE, ↓reduceIte, Nat.reduceLT, Nat.reduceLeDiff, Nat.reduceEqDiff, Nat.reduceAdd, Nat.reduceMul, Nat.reduceSub, reduceCtorEq, putAt, unE, Nat.reduceBEq, convE, buildE, List.replicate, Int.reduceLT, Int.reduceLE, Int.reduceToNat, mkE, mapSetE, hN, hF, ty_3, ty_4, ty_9, ty_24, ty_25, ty_27, ty_33, ty_47, ty_51, ty_53, ty_54, notIf, isEq, Option.isSome_some, Option.bind_some, appendM, newLooseE, trows_length, Nat.zero_lt_succ, callA, argsA, cellsA, c_At, c_E, c_back, h1, qa, h2, newT_at, h3, h4, h5, q5, h6, h7, q7, h8, h9, hL, ch_n, ch_z, ex_n, ex_z, ln_n, ln_z, getA_n, getA_z, q3n, q3z, z00, z01, z10, z11, z12, z13, z14, z15]))
          refine ⟨0, _, by omega, ?_, 2, by omega, rfl, rfl⟩
          rw [hns]
          simp only [runB, finC, finD, AS.get, AS.mem, false_implies, implies_true, ↓reduceIte, Nat.reduceEqDiff, Option.isSome_some, Option.isSome_none, forall_eq_or_imp, forall_eq, reduceCtorEq, Nat.reduceAdd, Nat.reduceMul, List.zip_cons_cons, List.zip_nil_left, List.zip_nil_right, List.forall_mem_nil]
          first | done | (simp; done) | (refine ⟨by omega, by simp⟩; done) | (simp; omega) | omega
        · skip
          simp only [runA, runB, runC, runD, runE, runF, fieldE, storeE, binE, ↓reduceIte, Nat.reduceLT, Nat.reduceLeDiff, Nat.reduceEqDiff, Nat.reduceAdd, Nat.reduceMul, Nat.reduceSub, reduceCtorEq, putAt, unE, Nat.reduceBEq, convE, buildE, List.replicate, Int.reduceLT, Int.reduceLE, Int.reduceToNat, mkE, mapSetE, hN, hF, ty_3, ty_4, ty_9, ty_24, ty_25, ty_27, ty_33, ty_47, ty_51, ty_53, ty_54, notIf, isEq, Option.isSome_some, Option.bind_some, appendM, newLooseE, trows_length, Nat.zero_lt_succ, callA, argsA, cellsA, c_At, c_E, c_back, h1, qa, h2, newT_at, h3, h4, h5, q5, h6, h7, q7, h8, h9, hL, ch_n, ch_z, ex_n, ex_z, ln_n, ln_z, getA_n, getA_z, q3n, q3z, z00, z01, z10, z11, z12, z13, z14, z15]
          iterate 5 (try (refine drawnP_intro (by kernel_rfl) (by kernel_rfl) ?_; simp only [runA, runB, runC, runD, runE, runF, fieldE, storeE, binE, ↓reduceIte, Nat.reduceLT, Nat.reduceLeDiff, Nat.reduceEqDiff, Nat.reduceAdd, Nat.reduceMul, Nat.reduceSub, reduceCtorEq, putAt, unE, Nat.reduceBEq, convE, buildE, List.replicate, Int.reduceLT, Int.reduceLE, Int.reduceToNat, mkE, mapSetE, hN, hF, ty_3, ty_4, ty_9, ty_24, ty_25, ty_27, ty_33, ty_47, ty_51, ty_53, ty_54, notIf, isEq, Option.isSome_some, Option.bind_some, appendM, newLooseE, trows_length, Nat.zero_lt_succ, callA, argsA, cellsA, c_At, c_E, c_back, h1, qa, h2, newT_at, h3, h4, h5, q5, h6, h7, q7, h8, h9, hL, ch_n, ch_z, ex_n, ex_z, ln_n, ln_z, getA_n, getA_z, q3n, q3z, z00, z01, z10, z11, z12, z13, z14, z15]))
          simp only [runB, finC, finD, Option.isSome_some, Option.isSome_none, ↓reduceIte, Nat.reduceEqDiff, Nat.reduceAdd, Nat.reduceMul, forall_eq_or_imp, forall_eq, implies_true, Nat.reduceBEq, reduceCtorEq, false_implies, List.zip_cons_cons, List.zip_nil_left, List.zip_nil_right, Nat.reduceLeDiff, List.forall_mem_nil, rs_6]

end Go.Proofs.Ytenmlgalcjkdbaa.AM
