/-
  QO: Dv9 Dve.
-/
import Derived.Test.YtcfijanfcgnnhaaDoorQI
import Derived.Test.YtcfijanfcgnnhaaDoorQJ
set_option linter.unusedVariables false
set_option linter.unusedSimpArgs false
namespace Go.Proofs.YtcfijanfcgnnhaaDoor.AM
open Go

variable {Γ : FuncId → Contract}

def En.av (e : En) : AV := .agg [.c (.str e.kind), .c (.int .i64 e.v.kd), .c (.int .i64 e.v.vw), .c (.int .i64 e.v.ht), .c (.str e.v.bl), .c (.int .i64 e.v.tk), .c (.int .i64 e.v.sg), .c (.str e.v.sig), .c (.int .i64 e.t.fr), .c (.int .i64 e.t.to), .c (.int .i64 e.t.am), .c (.int .i64 e.t.no), .c (.str e.t.sig), .c (.int .i64 e.m.vw), .c (.int .i64 e.m.ht), .c (.str e.m.bl)]
theorem En.av_inj {a b : En} (h : a.av = b.av) : a = b := by
  obtain ⟨ka, ⟨a1, a2, a3, a4, a5, a6, a7⟩, ⟨b1, b2, b3, b4, b5⟩, ⟨c1, c2, c3⟩⟩ := a
  obtain ⟨kb, ⟨d1, d2, d3, d4, d5, d6, d7⟩, ⟨e1, e2, e3, e4, e5⟩, ⟨f1, f2, f3⟩⟩ := b
  unfold En.av at h
  injection h with h
  simp at h
  simp [h]
noncomputable def rgC : Contract := mkC (α := En) (fun _ => True) (fun e => [e.av]) (fun _ => []) (fun e => ⟨[.pv (.c (.bool (rgtS e)))], []⟩)
theorem rg_at (e : En) : rgC [e.av] [] = some ⟨[.pv (.c (.bool (rgtS e)))], []⟩ :=
  mkC_at (α := En) e trivial (by
    rintro y _ h _
    have h' : [y.av] = [e.av] := h
    simp only [List.cons.injEq, and_true] at h'
    rw [En.av_inj h'])

set_option maxRecDepth 100000 in
set_option maxHeartbeats 8000000 in
theorem rg_sound (hΓ : SoundG Tryd.prog Γ) (h1 : Γ 11 = voCkC) (h2 : Γ 15 = txCkC) : SoundC Tryd.prog 19 rgC := by
  refine sound_fn Tryd.func19 (by kernel_rfl) rfl rfl ?_
  intro args objs r0 hr
  obtain ⟨⟨k, v, t, m⟩, _, rfl, rfl, rfl⟩ := mkC_inv hr
  refine ⟨rfl, by show 1 ≤ _; decide, fun E hN hns hF => ?_⟩
  refine vc_sound hΓ mixed _ _ _ ?_
  have hN := hN.trans nt_19
  have q1 := voCk_at v
  have q2 := txCk_at t
  have vs : (voS v == 0) = decide (okV v) := by unfold voS; split <;> simp_all
  have ts : (txS t == 0) = decide (okT t) := by unfold txS; split <;> simp_all
  unfold En.av
  unfold Vt.av at q1
  dsimp only at q1 ⊢
  unfold rgtS
  by_cases c1 : k = wVote
  · subst c1
    rw [if_pos rfl]
    unfold wVote
    simp only [runA, runB, runC, runD, runE, runF, fieldE, storeE, binE, ↓reduceIte, Nat.reduceLT, Nat.reduceLeDiff, Nat.reduceEqDiff, Nat.reduceAdd, Nat.reduceMul, Nat.reduceSub, reduceCtorEq, putAt, unE, Nat.reduceBEq, convE, buildE, List.replicate, Int.reduceLT, Int.reduceLE, Int.reduceToNat, mkE, mapSetE, hN, hF, ty_3, ty_4, ty_9, ty_23, ty_25, ty_27, ty_29, ty_35, notIf, isEq, h1, q1, vs]
    simp only [runB, finC, finD, Option.isSome_some, Option.isSome_none, ↓reduceIte, Nat.reduceEqDiff, Nat.reduceAdd, Nat.reduceMul, forall_eq_or_imp, forall_eq, implies_true, Nat.reduceBEq, reduceCtorEq, false_implies, List.zip_cons_cons, List.zip_nil_left, List.zip_nil_right, Nat.reduceLeDiff, List.forall_mem_nil, rs_19]
  have j1 : (k == [118, 111, 116, 101]) = false := beq_eq_false_iff_ne.2 c1
  rw [if_neg c1]
  by_cases c2 : k = wTx
  · subst c2
    rw [if_pos rfl]
    unfold wTx at j1 ⊢
    simp only [runA, runB, runC, runD, runE, runF, fieldE, storeE, binE, ↓reduceIte, Nat.reduceLT, Nat.reduceLeDiff, Nat.reduceEqDiff, Nat.reduceAdd, Nat.reduceMul, Nat.reduceSub, reduceCtorEq, putAt, unE, Nat.reduceBEq, convE, buildE, List.replicate, Int.reduceLT, Int.reduceLE, Int.reduceToNat, mkE, mapSetE, hN, hF, ty_3, ty_4, ty_9, ty_23, ty_25, ty_27, ty_29, ty_35, notIf, isEq, h2, q2, ts, j1]
    simp only [runB, finC, finD, Option.isSome_some, Option.isSome_none, ↓reduceIte, Nat.reduceEqDiff, Nat.reduceAdd, Nat.reduceMul, forall_eq_or_imp, forall_eq, implies_true, Nat.reduceBEq, reduceCtorEq, false_implies, List.zip_cons_cons, List.zip_nil_left, List.zip_nil_right, Nat.reduceLeDiff, List.forall_mem_nil, rs_19]
  have j2 : (k == [116, 120]) = false := beq_eq_false_iff_ne.2 c2
  rw [if_neg c2]
  by_cases c3 : k = wMark
  · subst c3
    have e3 : decide (wMark = wMark ∧ m.bl.length ≤ 4096) = decide ((m.bl.length : Int) ≤ 4096) := by
      rw [decide_eq_decide]
      constructor
      · intro h; omega
      · intro h; exact ⟨rfl, by omega⟩
    dsimp only
    rw [e3]
    unfold wMark at j1 j2 ⊢
    simp only [runA, runB, runC, runD, runE, runF, fieldE, storeE, binE, ↓reduceIte, Nat.reduceLT, Nat.reduceLeDiff, Nat.reduceEqDiff, Nat.reduceAdd, Nat.reduceMul, Nat.reduceSub, reduceCtorEq, putAt, unE, Nat.reduceBEq, convE, buildE, List.replicate, Int.reduceLT, Int.reduceLE, Int.reduceToNat, mkE, mapSetE, hN, hF, ty_3, ty_4, ty_9, ty_23, ty_25, ty_27, ty_29, ty_35, notIf, isEq, j1, j2]
    simp only [runB, finC, finD, Option.isSome_some, Option.isSome_none, ↓reduceIte, Nat.reduceEqDiff, Nat.reduceAdd, Nat.reduceMul, forall_eq_or_imp, forall_eq, implies_true, Nat.reduceBEq, reduceCtorEq, false_implies, List.zip_cons_cons, List.zip_nil_left, List.zip_nil_right, Nat.reduceLeDiff, List.forall_mem_nil, rs_19]
  have j3 : (k == [109, 97, 114, 107]) = false := beq_eq_false_iff_ne.2 c3
  have e3 : decide (k = wMark ∧ m.bl.length ≤ 4096) = false := decide_eq_false (fun h => c3 h.1)
  dsimp only
  rw [e3]
  simp only [runA, runB, runC, runD, runE, runF, fieldE, storeE, binE, ↓reduceIte, Nat.reduceLT, Nat.reduceLeDiff, Nat.reduceEqDiff, Nat.reduceAdd, Nat.reduceMul, Nat.reduceSub, reduceCtorEq, putAt, unE, Nat.reduceBEq, convE, buildE, List.replicate, Int.reduceLT, Int.reduceLE, Int.reduceToNat, mkE, mapSetE, hN, hF, ty_3, ty_4, ty_9, ty_23, ty_25, ty_27, ty_29, ty_35, notIf, isEq, j1, j2, j3]
  simp only [runB, finC, finD, Option.isSome_some, Option.isSome_none, ↓reduceIte, Nat.reduceEqDiff, Nat.reduceAdd, Nat.reduceMul, forall_eq_or_imp, forall_eq, implies_true, Nat.reduceBEq, reduceCtorEq, false_implies, List.zip_cons_cons, List.zip_nil_left, List.zip_nil_right, Nat.reduceLeDiff, List.forall_mem_nil, rs_19]

open Go Go.RowKit

noncomputable def DR1 : FuncId → Contract := (ext (ext (ext (ext none0 28 clientC) 23 abC) 25 replC) 24 tkC)
theorem DR1_sound : SoundG Tryd.prog DR1 := (ext_sound (ext_sound (ext_sound (ext_sound none0_sound client_sound) ab_sound) repl_sound) tk_sound)
noncomputable def DR2 : FuncId → Contract := (ext (ext DR1 15 txCkC) 11 voCkC)
theorem DR2_sound : SoundG Tryd.prog DR2 := (ext_sound (ext_sound DR1_sound (txCk_sound DR1_sound rfl)) (voCk_sound DR1_sound rfl rfl rfl))
theorem rg_calls (e : En) (w : World) : Calls Tryd.prog 19 #[.agg (enC e)] w fun x w' => x = .returned (.bool (rgtS e)) ∧ Below w.heap.size w w' := by
  have M0 : MRel (cEnv w (fun _ => False) (fun _ _ => none)) ⟨fun _ _ => none, fun _ => none⟩ (look (entryMem 0 [])) w :=
    ⟨fun _ _ _ h => (by cases h), fun n => trivial, fun n n' h h' b e => (by cases e), rfl, rfl, rfl, Nat.le_refl _, Nat.le_refl _, fun _ _ _ => rfl, Know.le_refl _, fun _ _ _ _ => rfl⟩
  have hS : SoundC Tryd.prog 19 rgC := (rg_sound DR2_sound rfl rfl)
  have hx : ∀ (i : Nat) (x : AV) (v : Value), [e.av][i]? = some x → [Value.agg (enC e)][i]? = some v → AR ⟨fun _ _ => none, fun _ => none⟩ x v := by
    intro i x v h1 h2
    match i with
    | 0 =>
      cases h1; cases h2
      refine .agg _ _ rfl fun j y u g1 g2 => ?_
      match j with
      | 0 => cases g1; cases g2; exact .c _ _ (.str _)
      | 1 => cases g1; cases g2; exact .c _ _ (.int _ _)
      | 2 => cases g1; cases g2; exact .c _ _ (.int _ _)
      | 3 => cases g1; cases g2; exact .c _ _ (.int _ _)
      | 4 => cases g1; cases g2; exact .c _ _ (.str _)
      | 5 => cases g1; cases g2; exact .c _ _ (.int _ _)
      | 6 => cases g1; cases g2; exact .c _ _ (.int _ _)
      | 7 => cases g1; cases g2; exact .c _ _ (.str _)
      | 8 => cases g1; cases g2; exact .c _ _ (.int _ _)
      | 9 => cases g1; cases g2; exact .c _ _ (.int _ _)
      | 10 => cases g1; cases g2; exact .c _ _ (.int _ _)
      | 11 => cases g1; cases g2; exact .c _ _ (.int _ _)
      | 12 => cases g1; cases g2; exact .c _ _ (.str _)
      | 13 => cases g1; cases g2; exact .c _ _ (.int _ _)
      | 14 => cases g1; cases g2; exact .c _ _ (.int _ _)
      | 15 => cases g1; cases g2; exact .c _ _ (.str _)
      | j + 16 => cases g1
    | i + 1 => cases h1
  refine Calls.mono ((hS.2 [e.av] [] _ (rg_at e)).2 (fun _ => False) ⟨fun _ _ => none, fun _ => none⟩ w [Value.agg (enC e)] M0 rfl hx) ?_
  rintro x w' ⟨G', v, rfl, hle, M', hv'⟩
  have e1 : v = .bool (rgtS e) := by
    cases hv' with
    | c _ _ h => cases h; rfl
  subst e1
  exact ⟨rfl, M'.os, M'.tape, M'.output, M'.size0, fun k hk => M'.blk k hk (fun h => h)⟩

end Go.Proofs.YtcfijanfcgnnhaaDoor.AM
