/-
  QD: Tr5 Tr7 Tr8 Tw3 Tr9 TrB TrC TrD.
-/
import Derived.Test.YtenmlgalcjkdbaaQC
set_option linter.unusedVariables false
set_option linter.unusedSimpArgs false
namespace Go.Proofs.Ytenmlgalcjkdbaa.AM
open Go

variable {Γ : FuncId → Contract}



variable {Γ : FuncId → Contract}


def isPath (own : List Blk) : List UInt8 → List Blk → Prop
  | nm, [] => atB own nm = none
  | nm, b :: S => atB own nm = some b ∧ isPath own b.pa S
theorem walkL_path (own : List Blk) : ∀ (f : Nat) (acc : List Blk) (nm : List UInt8) (R : List Blk), walkL own f acc nm = some R → ∃ S, R = acc ++ S ∧ isPath own nm S
  | 0, acc, nm, R, h => by
    unfold walkL at h
    split at h
    · rename_i ha; cases h; exact ⟨[], by simp, ha⟩
    · cases h
  | f + 1, acc, nm, R, h => by
    unfold walkL at h
    split at h
    · rename_i ha; cases h; exact ⟨[], by simp, ha⟩
    · rename_i b ha
      split at h
      · split at h
        · obtain ⟨S, rfl, hS⟩ := walkL_path own f _ _ _ h
          exact ⟨b :: S, by simp, ha, hS⟩
        · cases h
      · obtain ⟨S, rfl, hS⟩ := walkL_path own f _ _ _ h
        exact ⟨b :: S, by simp, ha, hS⟩
theorem isPath_one {own : List Blk} : ∀ {S T : List Blk} {nm : List UInt8}, isPath own nm S → isPath own nm T → S = T
  | [], [], _, _, _ => rfl
  | [], _ :: _, nm, h, k => by have e := k.1; rw [show atB own nm = none from h] at e; cases e
  | _ :: _, [], nm, h, k => by have e := h.1; rw [show atB own nm = none from k] at e; cases e
  | b :: S, c :: T, nm, ⟨h1, h2⟩, ⟨k1, k2⟩ => by
    rw [h1] at k1
    cases k1
    rw [isPath_one h2 k2]
theorem isPath_split {own : List Blk} : ∀ {A : List Blk} {x : Blk} {T : List Blk} {nm : List UInt8}, isPath own nm (A ++ x :: T) → isPath own x.pa T
  | [], _, _, _, h => h.2
  | _ :: A, _, _, _, h => isPath_split (A := A) h.2
theorem walkS_path {own : List Blk} {nm : List UInt8} (h : (walkS own nm).2 = true) : isPath own nm (walkS own nm).1 := by
  unfold walkS at h ⊢
  cases hW : walkL own (own.length + 1) [] nm with
  | none => rw [hW] at h; cases h
  | some l =>
    rw [hW] at h
    obtain ⟨S, hl2, hS⟩ := walkL_path own _ _ _ _ hW
    rw [List.nil_append] at hl2
    subst hl2
    rcases List.eq_nil_or_concat l with rfl | ⟨i, p, e⟩
    · exact hS
    · rw [List.concat_eq_append] at e
      subst e
      rw [walkE_snoc] at h ⊢
      split at h
      · rename_i hc
        rw [if_pos hc]
        exact hS
      · cases h
theorem extS_of {own : List Blk} {a b : List UInt8} (h : extS own a b = true) : (walkS own a).2 = true ∧ (b = a ∨ b = genS ∨ ∃ A x T, (walkS own a).1 = A ++ x :: T ∧ x.pa = b) := by
  unfold extS at h
  simp only [Bool.and_eq_true, Bool.or_eq_true, beq_iff_eq, List.any_eq_true] at h
  obtain ⟨h1, (h2 | h2) | ⟨x, hx, hp⟩⟩ := h
  · exact ⟨h1, .inl h2⟩
  · exact ⟨h1, .inr (.inl h2)⟩
  · obtain ⟨A, T, e⟩ := List.append_of_mem hx
    exact ⟨h1, .inr (.inr ⟨A, x, T, e, by simpa [parP] using hp⟩)⟩
theorem ext_gen {own : List Blk} {a : List UInt8} (h : (walkS own a).2 = true) : extS own a genS = true := by
  unfold extS
  simp [h]
theorem ext_self {own : List Blk} {a : List UInt8} (h : (walkS own a).2 = true) : extS own a a = true := by
  unfold extS
  simp [h]
theorem ext_mem {own : List Blk} {a : List UInt8} (h : (walkS own a).2 = true) {x : Blk} (hx : x ∈ (walkS own a).1) : extS own a x.pa = true := by
  unfold extS
  simp only [h, Bool.true_and, Bool.or_eq_true, beq_iff_eq, List.any_eq_true]
  exact .inr ⟨x, hx, by simp [parP]⟩
/-- What two that one extends are to each other. -/
theorem three {own : List Blk} {a b c : List UInt8} (hb : extS own a b = true) (hc : extS own a c = true) : conS own b c = false := by
  obtain ⟨ha, hb'⟩ := extS_of hb
  obtain ⟨_, hc'⟩ := extS_of hc
  have hp := walkS_path ha
  unfold conS
  cases kb : (walkS own b).2 with
  | false => rfl
  | true =>
    cases kc : (walkS own c).2 with
    | false => rfl
    | true =>
      have key : extS own b c = true ∨ extS own c b = true := by
        rcases hb' with rfl | rfl | ⟨A, x, T, e1, rfl⟩
        · exact .inl hc
        · exact .inr (ext_gen kc)
        rcases hc' with rfl | rfl | ⟨A2, y, T2, e2, rfl⟩
        · exact .inr hb
        · exact .inl (ext_gen kb)
        have hpb : (walkS own x.pa).1 = T := by rw [e1] at hp; exact isPath_one (walkS_path kb) (isPath_split hp)
        have hpc : (walkS own y.pa).1 = T2 := by rw [e2] at hp; exact isPath_one (walkS_path kc) (isPath_split hp)
        have hcmp := e1.symm.trans e2
        rcases List.append_eq_append_iff.1 hcmp with ⟨D, h1, h2⟩ | ⟨D, h1, h2⟩
        · cases D with
          | nil =>
            simp only [List.nil_append, List.cons.injEq] at h2
            have hxy : x = y := h2.1
            subst hxy
            exact .inl (ext_self kb)
          | cons d D =>
            simp only [List.cons_append, List.cons.injEq] at h2
            refine .inl (ext_mem kb ?_)
            rw [hpb, h2.2]
            simp
        · cases D with
          | nil =>
            simp only [List.nil_append, List.cons.injEq] at h2
            have hxy : y = x := h2.1
            subst hxy
            exact .inl (ext_self kc)
          | cons d D =>
            simp only [List.cons_append, List.cons.injEq] at h2
            refine .inr (ext_mem kc ?_)
            rw [hpc, h2.2]
            simp
      rcases key with h | h <;> simp [h]

variable {Γ : FuncId → Contract}


theorem putT_p (o : List Blk) (b : Blk) (h : smB b) : putTC [.ptr 6400000 0, .agg [.c (.int .i64 b.vw), .c (.int .i64 b.ht), .c (.str b.pa), .c (.int .i64 b.ju.vw), .c (.int .i64 b.ju.ht), .c (.str b.ju.bl), .c (.sl (votes b.ju.vs)), .c (.sl (trows b.txs)), .c (.str b.sig)]] [[.mp true (esOf o)]] = some ⟨[.pv (.c (.bool (putB' o b)))], [[.mp true (esOf (putO o b))]]⟩ := putT_at o b.vw b.ht b.pa b.ju.vw b.ju.ht b.ju.bl b.ju.vs b.txs b.sig h
theorem newT_at : newTC [] [] = some ⟨[.newobj [.mp true []]], []⟩ := rfl

variable {Γ : FuncId → Contract}

def atX : Contract := fun args objs => match args, objs with
  | [.nilptr, .c (.str s)], [] => some ⟨[.pv (.agg [.c (.int .i64 0), .c (.int .i64 0), .c (.str []), .c (.int .i64 0), .c (.int .i64 0), .c (.str []), .c (.sl []), .c (.sl []), .c (.str [])]), .pv (.c (.bool false))], []⟩
  | [.ptr 6400000 0, .c (.str s)], [[.nilmp]] => some ⟨[.pv (.agg [.c (.int .i64 0), .c (.int .i64 0), .c (.str []), .c (.int .i64 0), .c (.int .i64 0), .c (.str []), .c (.sl []), .c (.sl []), .c (.str [])]), .pv (.c (.bool false))], [[.nilmp]]⟩
  | _, _ => none

set_option maxRecDepth 100000 in
set_option maxHeartbeats 4000000 in
theorem atX_sound  : SoundC Try.prog 57 atX := by
  refine sound_fn Try.func57 (by kernel_rfl) rfl rfl ?_
  intro args objs r0 hr
  unfold atX at hr
  split at hr
  · cases hr
    refine ⟨rfl, by show 2 ≤ _; decide, fun E hN hns hF => ?_⟩
    refine vc_sound none0_sound mixed _ _ _ ?_
    have hN := hN.trans nt_57
    simp only [runA, runB, runC, runD, runE, runF, fieldE, storeE, binE, ↓reduceIte, Nat.reduceLT, Nat.reduceLeDiff, Nat.reduceEqDiff, Nat.reduceAdd, Nat.reduceMul, Nat.reduceSub, reduceCtorEq, putAt, unE, Nat.reduceBEq, convE, buildE, List.replicate, Int.reduceLT, Int.reduceLE, Int.reduceToNat, mkE, mapSetE, hN, hF, ty_3, ty_4, ty_9, ty_24, ty_25, ty_27, ty_33, ty_51, ty_53, notIf, isEq, Option.isSome_some, Option.bind_some]
    simp only [runB, finC, finD, Option.isSome_some, Option.isSome_none, ↓reduceIte, Nat.reduceEqDiff, Nat.reduceAdd, Nat.reduceMul, forall_eq_or_imp, forall_eq, implies_true, Nat.reduceBEq, reduceCtorEq, false_implies, List.zip_cons_cons, List.zip_nil_left, List.zip_nil_right, Nat.reduceLeDiff, List.forall_mem_nil, rs_57, ty_3, ty_4, ty_9, ty_24, ty_25, ty_27, ty_33, ty_51, ty_53, zeroBk, Blk.av, votes_nil, trows_nil]
  · cases hr
    refine ⟨rfl, by show 2 ≤ _; decide, fun E hN hns hF => ?_⟩
    refine vc_sound none0_sound mixed _ _ _ ?_
    have hN := hN.trans nt_57
    simp only [runA, runB, runC, runD, runE, runF, fieldE, storeE, binE, ↓reduceIte, Nat.reduceLT, Nat.reduceLeDiff, Nat.reduceEqDiff, Nat.reduceAdd, Nat.reduceMul, Nat.reduceSub, reduceCtorEq, putAt, unE, Nat.reduceBEq, convE, buildE, List.replicate, Int.reduceLT, Int.reduceLE, Int.reduceToNat, mkE, mapSetE, hN, hF, ty_3, ty_4, ty_9, ty_24, ty_25, ty_27, ty_33, ty_51, ty_53, notIf, isEq, Option.isSome_some, Option.bind_some]
    simp only [runB, finC, finD, Option.isSome_some, Option.isSome_none, ↓reduceIte, Nat.reduceEqDiff, Nat.reduceAdd, Nat.reduceMul, forall_eq_or_imp, forall_eq, implies_true, Nat.reduceBEq, reduceCtorEq, false_implies, List.zip_cons_cons, List.zip_nil_left, List.zip_nil_right, Nat.reduceLeDiff, List.forall_mem_nil, rs_57, ty_3, ty_4, ty_9, ty_24, ty_25, ty_27, ty_33, ty_51, ty_53, zeroBk, Blk.av, votes_nil, trows_nil]
  · cases hr
def lenX : Contract := fun args objs => match args, objs with
  | [.nilptr], [] => some ⟨[.pv (.c (.int .i64 0))], []⟩
  | [.ptr 6400000 0], [[.nilmp]] => some ⟨[.pv (.c (.int .i64 0))], [[.nilmp]]⟩
  | _, _ => none

set_option maxRecDepth 100000 in
set_option maxHeartbeats 4000000 in
theorem lenX_sound  : SoundC Try.prog 23 lenX := by
  refine sound_fn Try.func23 (by kernel_rfl) rfl rfl ?_
  intro args objs r0 hr
  unfold lenX at hr
  split at hr
  · cases hr
    refine ⟨rfl, by show 1 ≤ _; decide, fun E hN hns hF => ?_⟩
    refine vc_sound none0_sound mixed _ _ _ ?_
    have hN := hN.trans nt_23
    simp only [runA, runB, runC, runD, runE, runF, fieldE, storeE, binE, ↓reduceIte, Nat.reduceLT, Nat.reduceLeDiff, Nat.reduceEqDiff, Nat.reduceAdd, Nat.reduceMul, Nat.reduceSub, reduceCtorEq, putAt, unE, Nat.reduceBEq, convE, buildE, List.replicate, Int.reduceLT, Int.reduceLE, Int.reduceToNat, mkE, mapSetE, hN, hF, ty_3, ty_9, ty_27, ty_33, ty_51, ty_53, notIf, isEq, Option.isSome_some, Option.bind_some]
    simp only [runB, finC, finD, Option.isSome_some, Option.isSome_none, ↓reduceIte, Nat.reduceEqDiff, Nat.reduceAdd, Nat.reduceMul, forall_eq_or_imp, forall_eq, implies_true, Nat.reduceBEq, reduceCtorEq, false_implies, List.zip_cons_cons, List.zip_nil_left, List.zip_nil_right, Nat.reduceLeDiff, List.forall_mem_nil, rs_23, ty_3, ty_9, ty_27, ty_33, ty_51, ty_53, zeroBk, Blk.av, votes_nil, trows_nil]
  · cases hr
    refine ⟨rfl, by show 1 ≤ _; decide, fun E hN hns hF => ?_⟩
    refine vc_sound none0_sound mixed _ _ _ ?_
    have hN := hN.trans nt_23
    simp only [runA, runB, runC, runD, runE, runF, fieldE, storeE, binE, ↓reduceIte, Nat.reduceLT, Nat.reduceLeDiff, Nat.reduceEqDiff, Nat.reduceAdd, Nat.reduceMul, Nat.reduceSub, reduceCtorEq, putAt, unE, Nat.reduceBEq, convE, buildE, List.replicate, Int.reduceLT, Int.reduceLE, Int.reduceToNat, mkE, mapSetE, hN, hF, ty_3, ty_9, ty_27, ty_33, ty_51, ty_53, notIf, isEq, Option.isSome_some, Option.bind_some]
    simp only [runB, finC, finD, Option.isSome_some, Option.isSome_none, ↓reduceIte, Nat.reduceEqDiff, Nat.reduceAdd, Nat.reduceMul, forall_eq_or_imp, forall_eq, implies_true, Nat.reduceBEq, reduceCtorEq, false_implies, List.zip_cons_cons, List.zip_nil_left, List.zip_nil_right, Nat.reduceLeDiff, List.forall_mem_nil, rs_23, ty_3, ty_9, ty_27, ty_33, ty_51, ty_53, zeroBk, Blk.av, votes_nil, trows_nil]
  · cases hr
def getX : Contract := fun args objs => match args, objs with
  | [.nilptr, .c (.str s)], [] => some ⟨[.pv (.agg [.c (.int .i64 0), .c (.int .i64 0), .c (.str []), .c (.int .i64 0), .c (.int .i64 0), .c (.str []), .c (.sl []), .c (.sl []), .c (.str [])]), .pv (.c (.bool false))], []⟩
  | [.ptr 6400000 0, .c (.str s)], [[.nilmp]] => some ⟨[.pv (.agg [.c (.int .i64 0), .c (.int .i64 0), .c (.str []), .c (.int .i64 0), .c (.int .i64 0), .c (.str []), .c (.sl []), .c (.sl []), .c (.str [])]), .pv (.c (.bool false))], [[.nilmp]]⟩
  | _, _ => none

theorem cpy_z : cpyC [.agg [.c (.int .i64 0), .c (.int .i64 0), .c (.str []), .c (.int .i64 0), .c (.int .i64 0), .c (.str []), .c (.sl []), .c (.sl []), .c (.str [])]] [] = some ⟨[.pv (.agg [.c (.int .i64 0), .c (.int .i64 0), .c (.str []), .c (.int .i64 0), .c (.int .i64 0), .c (.str []), .c (.sl []), .c (.sl []), .c (.str [])])], []⟩ := cpy_at 0 0 [] 0 0 [] [] [] [] ⟨by simp, by simp⟩
theorem at_n (s : List UInt8) : atX [.nilptr, .c (.str s)] [] = some ⟨[.pv (.agg [.c (.int .i64 0), .c (.int .i64 0), .c (.str []), .c (.int .i64 0), .c (.int .i64 0), .c (.str []), .c (.sl []), .c (.sl []), .c (.str [])]), .pv (.c (.bool false))], []⟩ := rfl
theorem at_z (s : List UInt8) : atX [.ptr 6400000 0, .c (.str s)] [[.nilmp]] = some ⟨[.pv (.agg [.c (.int .i64 0), .c (.int .i64 0), .c (.str []), .c (.int .i64 0), .c (.int .i64 0), .c (.str []), .c (.sl []), .c (.sl []), .c (.str [])]), .pv (.c (.bool false))], [[.nilmp]]⟩ := rfl

set_option maxRecDepth 100000 in
set_option maxHeartbeats 4000000 in
theorem getX_sound (hΓ : SoundG Try.prog Γ) (h1 : Γ 57 = atX) (h2 : Γ 55 = cpyC) : SoundC Try.prog 24 getX := by
  refine sound_fn Try.func24 (by kernel_rfl) rfl rfl ?_
  intro args objs r0 hr
  unfold getX at hr
  split at hr
  · cases hr
    refine ⟨rfl, by show 2 ≤ _; decide, fun E hN hns hF => ?_⟩
    refine vc_sound hΓ mixed _ _ _ ?_
    have hN := hN.trans nt_24
    simp only [runA, runB, runC, runD, runE, runF, fieldE, storeE, binE, ↓reduceIte, Nat.reduceLT, Nat.reduceLeDiff, Nat.reduceEqDiff, Nat.reduceAdd, Nat.reduceMul, Nat.reduceSub, reduceCtorEq, putAt, unE, Nat.reduceBEq, convE, buildE, List.replicate, Int.reduceLT, Int.reduceLE, Int.reduceToNat, mkE, mapSetE, hN, hF, ty_3, ty_4, ty_9, ty_24, ty_25, ty_27, ty_33, notIf, isEq, Option.isSome_some, Option.bind_some, h1, h2, at_n, at_z, cpy_z]
    simp only [runB, finC, finD, Option.isSome_some, Option.isSome_none, ↓reduceIte, Nat.reduceEqDiff, Nat.reduceAdd, Nat.reduceMul, forall_eq_or_imp, forall_eq, implies_true, Nat.reduceBEq, reduceCtorEq, false_implies, List.zip_cons_cons, List.zip_nil_left, List.zip_nil_right, Nat.reduceLeDiff, List.forall_mem_nil, rs_24, ty_3, ty_4, ty_9, ty_24, ty_25, ty_27, ty_33, zeroBk, Blk.av, votes_nil, trows_nil]
  · cases hr
    refine ⟨rfl, by show 2 ≤ _; decide, fun E hN hns hF => ?_⟩
    refine vc_sound hΓ mixed _ _ _ ?_
    have hN := hN.trans nt_24
    simp only [runA, runB, runC, runD, runE, runF, fieldE, storeE, binE, ↓reduceIte, Nat.reduceLT, Nat.reduceLeDiff, Nat.reduceEqDiff, Nat.reduceAdd, Nat.reduceMul, Nat.reduceSub, reduceCtorEq, putAt, unE, Nat.reduceBEq, convE, buildE, List.replicate, Int.reduceLT, Int.reduceLE, Int.reduceToNat, mkE, mapSetE, hN, hF, ty_3, ty_4, ty_9, ty_24, ty_25, ty_27, ty_33, notIf, isEq, Option.isSome_some, Option.bind_some, h1, h2, at_n, at_z, cpy_z]
    simp only [runB, finC, finD, Option.isSome_some, Option.isSome_none, ↓reduceIte, Nat.reduceEqDiff, Nat.reduceAdd, Nat.reduceMul, forall_eq_or_imp, forall_eq, implies_true, Nat.reduceBEq, reduceCtorEq, false_implies, List.zip_cons_cons, List.zip_nil_left, List.zip_nil_right, Nat.reduceLeDiff, List.forall_mem_nil, rs_24, ty_3, ty_4, ty_9, ty_24, ty_25, ty_27, ty_33, zeroBk, Blk.av, votes_nil, trows_nil]
  · cases hr
def wlkX : Contract := fun args objs => match args, objs with
  | [.nilptr, .c (.str s)], [] => some ⟨[.pv (.c (.sl [])), .pv (.c (.bool false))], []⟩
  | [.ptr 6400000 0, .c (.str s)], [[.nilmp]] => some ⟨[.pv (.c (.sl [])), .pv (.c (.bool false))], [[.nilmp]]⟩
  | _, _ => none

/-- A loop that its first round leaves. -/
theorem AWP.loop1 {P : Program} {E : Env} {c : Code} {Q : Exit → AS → Prop} {s : AS} (h : AWP P E c (thenA (fun _ => False) Q) s) : AWP P E (.loop c) Q s := by
  intro G a w R b k cs hro hb hrm
  obtain ⟨e, a₁, w₁, ⟨G1, s1, g2, g3⟩, harr⟩ := h G a w R b (.inLoop c :: k) cs hro hb hrm
  have hx : ∃ e a' w', (∃ G' s', Q e s' ∧ Rel E G' s' a' w') ∧ ArrivesIn (Machine.fenced P (rF E.ro)) P (lone (b.atR a (.code c :: .inLoop c :: k)) cs w) b k cs e a' w' := by
    cases e with
    | normal => exact g2.elim
    | exit id => exact ⟨_, a₁, w₁, ⟨G1, s1, g2, g3⟩, .pass (x := .inLoop c) rfl (fun _ _ => .inl (by simp)) harr⟩
    | goto l => exact ⟨_, a₁, w₁, ⟨G1, s1, g2, g3⟩, .pass (x := .inLoop c) rfl (fun _ _ => .inl (by simp)) harr⟩
    | ret => exact ⟨_, a₁, w₁, ⟨G1, s1, g2, g3⟩, .pass (x := .inLoop c) rfl (fun _ _ => .inl (by simp)) harr⟩
    | panic ch => exact ⟨_, a₁, w₁, ⟨G1, s1, g2, g3⟩, .pass (x := .inLoop c) rfl (fun _ _ => .inl (by simp)) harr⟩
    | outgrown => exact ⟨_, a₁, w₁, ⟨G1, s1, g2, g3⟩, .pass (x := .inLoop c) rfl (fun _ _ => .inl (by simp)) harr⟩
  obtain ⟨e, a', w', hq, harr⟩ := hx
  exact ⟨e, a', w', hq, .of_steps (.one (fenced_calm hb hrm rfl) stepR_loop) harr⟩
theorem wl_n (s : List UInt8) : wlkX [.nilptr, .c (.str s)] [] = some ⟨[.pv (.c (.sl [])), .pv (.c (.bool false))], []⟩ := rfl
theorem wl_z (s : List UInt8) : wlkX [.ptr 6400000 0, .c (.str s)] [[.nilmp]] = some ⟨[.pv (.c (.sl [])), .pv (.c (.bool false))], [[.nilmp]]⟩ := rfl

set_option maxRecDepth 100000 in
set_option maxHeartbeats 4000000 in
theorem wlkX_sound (hΓ : SoundG Try.prog Γ) (h1 : Γ 57 = atX) : SoundC Try.prog 52 wlkX := by
  refine sound_fn Try.func52 (by kernel_rfl) rfl rfl ?_
  intro args objs r0 hr
  unfold wlkX at hr
  split at hr
  · cases hr
    refine ⟨rfl, by show 2 ≤ _; decide, fun E hN hns hF => ?_⟩
    refine vc_sound hΓ mixed _ _ _ ?_
    have hN := hN.trans nt_52
    simp only [runA, runB, runC, runD, runE, runF, fieldE, storeE, binE, ↓reduceIte, Nat.reduceLT, Nat.reduceLeDiff, Nat.reduceEqDiff, Nat.reduceAdd, Nat.reduceMul, Nat.reduceSub, reduceCtorEq, putAt, unE, Nat.reduceBEq, convE, buildE, List.replicate, Int.reduceLT, Int.reduceLE, Int.reduceToNat, mkE, mapSetE, hN, hF, ty_3, ty_4, ty_9, ty_24, ty_25, ty_27, ty_32, ty_33, ty_51, ty_53, notIf, isEq, Option.isSome_some, Option.bind_some, h1, at_n, at_z]
    refine AWP.loop1 ?_
    refine vc_sound hΓ mixed _ _ _ ?_
    have b0 : (((0 : Nat) : Int) == 0) = true := rfl
    simp only [runA, runB, runC, runD, runE, runF, fieldE, storeE, binE, ↓reduceIte, Nat.reduceLT, Nat.reduceLeDiff, Nat.reduceEqDiff, Nat.reduceAdd, Nat.reduceMul, Nat.reduceSub, reduceCtorEq, putAt, unE, Nat.reduceBEq, convE, buildE, List.replicate, Int.reduceLT, Int.reduceLE, Int.reduceToNat, mkE, mapSetE, hN, hF, ty_3, ty_4, ty_9, ty_24, ty_25, ty_27, ty_32, ty_33, ty_51, ty_53, notIf, isEq, Option.isSome_some, Option.bind_some, h1, at_n, at_z, b0]
    simp only [runB, finC, finD, Option.isSome_some, Option.isSome_none, ↓reduceIte, Nat.reduceEqDiff, Nat.reduceAdd, Nat.reduceMul, forall_eq_or_imp, forall_eq, implies_true, Nat.reduceBEq, reduceCtorEq, false_implies, List.zip_cons_cons, List.zip_nil_left, List.zip_nil_right, Nat.reduceLeDiff, List.forall_mem_nil, rs_52, ty_3, ty_4, ty_9, ty_24, ty_25, ty_27, ty_32, ty_33, ty_51, ty_53, zeroBk, Blk.av, votes_nil, trows_nil]
  · cases hr
    refine ⟨rfl, by show 2 ≤ _; decide, fun E hN hns hF => ?_⟩
    refine vc_sound hΓ mixed _ _ _ ?_
    have hN := hN.trans nt_52
    simp only [runA, runB, runC, runD, runE, runF, fieldE, storeE, binE, ↓reduceIte, Nat.reduceLT, Nat.reduceLeDiff, Nat.reduceEqDiff, Nat.reduceAdd, Nat.reduceMul, Nat.reduceSub, reduceCtorEq, putAt, unE, Nat.reduceBEq, convE, buildE, List.replicate, Int.reduceLT, Int.reduceLE, Int.reduceToNat, mkE, mapSetE, hN, hF, ty_3, ty_4, ty_9, ty_24, ty_25, ty_27, ty_32, ty_33, ty_51, ty_53, notIf, isEq, Option.isSome_some, Option.bind_some, h1, at_n, at_z]
    refine AWP.loop1 ?_
    refine vc_sound hΓ mixed _ _ _ ?_
    have b0 : (((0 : Nat) : Int) == 0) = true := rfl
    simp only [runA, runB, runC, runD, runE, runF, fieldE, storeE, binE, ↓reduceIte, Nat.reduceLT, Nat.reduceLeDiff, Nat.reduceEqDiff, Nat.reduceAdd, Nat.reduceMul, Nat.reduceSub, reduceCtorEq, putAt, unE, Nat.reduceBEq, convE, buildE, List.replicate, Int.reduceLT, Int.reduceLE, Int.reduceToNat, mkE, mapSetE, hN, hF, ty_3, ty_4, ty_9, ty_24, ty_25, ty_27, ty_32, ty_33, ty_51, ty_53, notIf, isEq, Option.isSome_some, Option.bind_some, h1, at_n, at_z, b0]
    simp only [runB, finC, finD, Option.isSome_some, Option.isSome_none, ↓reduceIte, Nat.reduceEqDiff, Nat.reduceAdd, Nat.reduceMul, forall_eq_or_imp, forall_eq, implies_true, Nat.reduceBEq, reduceCtorEq, false_implies, List.zip_cons_cons, List.zip_nil_left, List.zip_nil_right, Nat.reduceLeDiff, List.forall_mem_nil, rs_52, ty_3, ty_4, ty_9, ty_24, ty_25, ty_27, ty_32, ty_33, ty_51, ty_53, zeroBk, Blk.av, votes_nil, trows_nil]
  · cases hr
def extX : Contract := fun args objs => match args, objs with
  | [.nilptr, .c (.str s), .c (.str u)], [] => some ⟨[.pv (.c (.bool false))], []⟩
  | [.ptr 6400000 0, .c (.str s), .c (.str u)], [[.nilmp]] => some ⟨[.pv (.c (.bool false))], [[.nilmp]]⟩
  | _, _ => none

set_option maxRecDepth 100000 in
set_option maxHeartbeats 4000000 in
theorem extX_sound (hΓ : SoundG Try.prog Γ) (h1 : Γ 52 = wlkX) : SoundC Try.prog 17 extX := by
  refine sound_fn Try.func17 (by kernel_rfl) rfl rfl ?_
  intro args objs r0 hr
  unfold extX at hr
  split at hr
  · cases hr
    refine ⟨rfl, by show 3 ≤ _; decide, fun E hN hns hF => ?_⟩
    refine vc_sound hΓ mixed _ _ _ ?_
    have hN := hN.trans nt_17
    simp only [runA, runB, runC, runD, runE, runF, fieldE, storeE, binE, ↓reduceIte, Nat.reduceLT, Nat.reduceLeDiff, Nat.reduceEqDiff, Nat.reduceAdd, Nat.reduceMul, Nat.reduceSub, reduceCtorEq, putAt, unE, Nat.reduceBEq, convE, buildE, List.replicate, Int.reduceLT, Int.reduceLE, Int.reduceToNat, mkE, mapSetE, hN, hF, ty_4, ty_9, ty_27, ty_32, ty_33, notIf, isEq, Option.isSome_some, Option.bind_some, h1, wl_n, wl_z]
    simp only [runB, finC, finD, Option.isSome_some, Option.isSome_none, ↓reduceIte, Nat.reduceEqDiff, Nat.reduceAdd, Nat.reduceMul, forall_eq_or_imp, forall_eq, implies_true, Nat.reduceBEq, reduceCtorEq, false_implies, List.zip_cons_cons, List.zip_nil_left, List.zip_nil_right, Nat.reduceLeDiff, List.forall_mem_nil, rs_17, ty_4, ty_9, ty_27, ty_32, ty_33, zeroBk, Blk.av, votes_nil, trows_nil]
  · cases hr
    refine ⟨rfl, by show 3 ≤ _; decide, fun E hN hns hF => ?_⟩
    refine vc_sound hΓ mixed _ _ _ ?_
    have hN := hN.trans nt_17
    simp only [runA, runB, runC, runD, runE, runF, fieldE, storeE, binE, ↓reduceIte, Nat.reduceLT, Nat.reduceLeDiff, Nat.reduceEqDiff, Nat.reduceAdd, Nat.reduceMul, Nat.reduceSub, reduceCtorEq, putAt, unE, Nat.reduceBEq, convE, buildE, List.replicate, Int.reduceLT, Int.reduceLE, Int.reduceToNat, mkE, mapSetE, hN, hF, ty_4, ty_9, ty_27, ty_32, ty_33, notIf, isEq, Option.isSome_some, Option.bind_some, h1, wl_n, wl_z]
    simp only [runB, finC, finD, Option.isSome_some, Option.isSome_none, ↓reduceIte, Nat.reduceEqDiff, Nat.reduceAdd, Nat.reduceMul, forall_eq_or_imp, forall_eq, implies_true, Nat.reduceBEq, reduceCtorEq, false_implies, List.zip_cons_cons, List.zip_nil_left, List.zip_nil_right, Nat.reduceLeDiff, List.forall_mem_nil, rs_17, ty_4, ty_9, ty_27, ty_32, ty_33, zeroBk, Blk.av, votes_nil, trows_nil]
  · cases hr
def chnX : Contract := fun args objs => match args, objs with
  | [.nilptr, .c (.str s)], [] => some ⟨[.pv (.c (.sl [])), .pv (.c (.bool false))], []⟩
  | [.ptr 6400000 0, .c (.str s)], [[.nilmp]] => some ⟨[.pv (.c (.sl [])), .pv (.c (.bool false))], [[.nilmp]]⟩
  | _, _ => none

set_option maxRecDepth 100000 in
set_option maxHeartbeats 4000000 in
theorem chnX_sound (hΓ : SoundG Try.prog Γ) (h1 : Γ 52 = wlkX) : SoundC Try.prog 21 chnX := by
  refine sound_fn Try.func21 (by kernel_rfl) rfl rfl ?_
  intro args objs r0 hr
  unfold chnX at hr
  split at hr
  · cases hr
    refine ⟨rfl, by show 2 ≤ _; decide, fun E hN hns hF => ?_⟩
    refine vc_sound hΓ mixed _ _ _ ?_
    have hN := hN.trans nt_21
    simp only [runA, runB, runC, runD, runE, runF, fieldE, storeE, binE, ↓reduceIte, Nat.reduceLT, Nat.reduceLeDiff, Nat.reduceEqDiff, Nat.reduceAdd, Nat.reduceMul, Nat.reduceSub, reduceCtorEq, putAt, unE, Nat.reduceBEq, convE, buildE, List.replicate, Int.reduceLT, Int.reduceLE, Int.reduceToNat, mkE, mapSetE, hN, hF, ty_3, ty_4, ty_9, ty_24, ty_25, ty_27, ty_32, ty_33, notIf, isEq, Option.isSome_some, Option.bind_some, h1, wl_n, wl_z]
    simp only [runB, finC, finD, Option.isSome_some, Option.isSome_none, ↓reduceIte, Nat.reduceEqDiff, Nat.reduceAdd, Nat.reduceMul, forall_eq_or_imp, forall_eq, implies_true, Nat.reduceBEq, reduceCtorEq, false_implies, List.zip_cons_cons, List.zip_nil_left, List.zip_nil_right, Nat.reduceLeDiff, List.forall_mem_nil, rs_21, ty_3, ty_4, ty_9, ty_24, ty_25, ty_27, ty_32, ty_33, zeroBk, Blk.av, votes_nil, trows_nil]
  · cases hr
    refine ⟨rfl, by show 2 ≤ _; decide, fun E hN hns hF => ?_⟩
    refine vc_sound hΓ mixed _ _ _ ?_
    have hN := hN.trans nt_21
    simp only [runA, runB, runC, runD, runE, runF, fieldE, storeE, binE, ↓reduceIte, Nat.reduceLT, Nat.reduceLeDiff, Nat.reduceEqDiff, Nat.reduceAdd, Nat.reduceMul, Nat.reduceSub, reduceCtorEq, putAt, unE, Nat.reduceBEq, convE, buildE, List.replicate, Int.reduceLT, Int.reduceLE, Int.reduceToNat, mkE, mapSetE, hN, hF, ty_3, ty_4, ty_9, ty_24, ty_25, ty_27, ty_32, ty_33, notIf, isEq, Option.isSome_some, Option.bind_some, h1, wl_n, wl_z]
    simp only [runB, finC, finD, Option.isSome_some, Option.isSome_none, ↓reduceIte, Nat.reduceEqDiff, Nat.reduceAdd, Nat.reduceMul, forall_eq_or_imp, forall_eq, implies_true, Nat.reduceBEq, reduceCtorEq, false_implies, List.zip_cons_cons, List.zip_nil_left, List.zip_nil_right, Nat.reduceLeDiff, List.forall_mem_nil, rs_21, ty_3, ty_4, ty_9, ty_24, ty_25, ty_27, ty_32, ty_33, zeroBk, Blk.av, votes_nil, trows_nil]
  · cases hr
noncomputable def putNX : Contract := mkC (α := Blk) smB (fun b => [.nilptr, b.av]) (fun _ => []) (fun _ => ⟨[.pv (.c (.bool false))], []⟩)
theorem putN_at (b : Blk) (h : smB b) : putNX [.nilptr, .agg [.c (.int .i64 b.vw), .c (.int .i64 b.ht), .c (.str b.pa), .c (.int .i64 b.ju.vw), .c (.int .i64 b.ju.ht), .c (.str b.ju.bl), .c (.sl (votes b.ju.vs)), .c (.sl (trows b.txs)), .c (.str b.sig)]] [] = some ⟨[.pv (.c (.bool false))], []⟩ := mkC_at (α := Blk) b h (fun _ _ _ _ => rfl)

set_option maxRecDepth 100000 in
set_option maxHeartbeats 4000000 in
theorem putN_sound (hΓ : SoundG Try.prog Γ) (h1 : Γ 13 = bkNC) : SoundC Try.prog 20 putNX := by
  refine sound_fn Try.func20 (by kernel_rfl) rfl rfl ?_
  intro args objs r0 hr
  obtain ⟨⟨vw, ht, pa, ⟨jv, jh, jb, js⟩, txs, sig⟩, hl, rfl, rfl, rfl⟩ := mkC_inv hr
  refine ⟨rfl, by show 2 ≤ _; decide, fun E hN hns hF => ?_⟩
  refine vc_sound hΓ mixed _ _ _ ?_
  have hN := hN.trans nt_20
  have hl : smB ⟨vw, ht, pa, ⟨jv, jh, jb, js⟩, txs, sig⟩ := hl
  have q1 := bkN_at vw ht pa jv jh jb js txs sig (by have := hl.1; dsimp only at this; omega)
  generalize nameS ⟨vw, ht, pa, ⟨jv, jh, jb, js⟩, txs, sig⟩ = nm at q1
  unfold Blk.av
  dsimp only
  simp only [runA, runB, runC, runD, runE, runF, fieldE, storeE, binE, ↓reduceIte, Nat.reduceLT, Nat.reduceLeDiff, Nat.reduceEqDiff, Nat.reduceAdd, Nat.reduceMul, Nat.reduceSub, reduceCtorEq, putAt, unE, Nat.reduceBEq, convE, buildE, List.replicate, Int.reduceLT, Int.reduceLE, Int.reduceToNat, mkE, mapSetE, hN, hF, ty_3, ty_4, ty_9, ty_24, ty_25, ty_27, ty_33, ty_51, ty_53, notIf, isEq, Option.isSome_some, Option.bind_some, h1, q1]
  simp only [runB, finC, finD, Option.isSome_some, Option.isSome_none, ↓reduceIte, Nat.reduceEqDiff, Nat.reduceAdd, Nat.reduceMul, forall_eq_or_imp, forall_eq, implies_true, Nat.reduceBEq, reduceCtorEq, false_implies, List.zip_cons_cons, List.zip_nil_left, List.zip_nil_right, Nat.reduceLeDiff, List.forall_mem_nil, rs_20, ty_3, ty_4, ty_9, ty_24, ty_25, ty_27, ty_33, ty_51, ty_53]
noncomputable def putZX : Contract := mkC (α := Blk) smB (fun b => [.ptr 6400000 0, b.av]) (fun _ => [[.nilmp]]) (fun _ => ⟨[.pv (.c (.bool false))], [[.nilmp]]⟩)
theorem putZ_at (b : Blk) (h : smB b) : putZX [.ptr 6400000 0, .agg [.c (.int .i64 b.vw), .c (.int .i64 b.ht), .c (.str b.pa), .c (.int .i64 b.ju.vw), .c (.int .i64 b.ju.ht), .c (.str b.ju.bl), .c (.sl (votes b.ju.vs)), .c (.sl (trows b.txs)), .c (.str b.sig)]] [[.nilmp]] = some ⟨[.pv (.c (.bool false))], [[.nilmp]]⟩ := mkC_at (α := Blk) b h (fun _ _ _ _ => rfl)

set_option maxRecDepth 100000 in
set_option maxHeartbeats 4000000 in
theorem putZ_sound (hΓ : SoundG Try.prog Γ) (h1 : Γ 13 = bkNC) : SoundC Try.prog 20 putZX := by
  refine sound_fn Try.func20 (by kernel_rfl) rfl rfl ?_
  intro args objs r0 hr
  obtain ⟨⟨vw, ht, pa, ⟨jv, jh, jb, js⟩, txs, sig⟩, hl, rfl, rfl, rfl⟩ := mkC_inv hr
  refine ⟨rfl, by show 2 ≤ _; decide, fun E hN hns hF => ?_⟩
  refine vc_sound hΓ mixed _ _ _ ?_
  have hN := hN.trans nt_20
  have hl : smB ⟨vw, ht, pa, ⟨jv, jh, jb, js⟩, txs, sig⟩ := hl
  have q1 := bkN_at vw ht pa jv jh jb js txs sig (by have := hl.1; dsimp only at this; omega)
  generalize nameS ⟨vw, ht, pa, ⟨jv, jh, jb, js⟩, txs, sig⟩ = nm at q1
  unfold Blk.av
  dsimp only
  simp only [runA, runB, runC, runD, runE, runF, fieldE, storeE, binE, ↓reduceIte, Nat.reduceLT, Nat.reduceLeDiff, Nat.reduceEqDiff, Nat.reduceAdd, Nat.reduceMul, Nat.reduceSub, reduceCtorEq, putAt, unE, Nat.reduceBEq, convE, buildE, List.replicate, Int.reduceLT, Int.reduceLE, Int.reduceToNat, mkE, mapSetE, hN, hF, ty_3, ty_4, ty_9, ty_24, ty_25, ty_27, ty_33, ty_51, ty_53, notIf, isEq, Option.isSome_some, Option.bind_some, h1, q1]
  simp only [runB, finC, finD, Option.isSome_some, Option.isSome_none, ↓reduceIte, Nat.reduceEqDiff, Nat.reduceAdd, Nat.reduceMul, forall_eq_or_imp, forall_eq, implies_true, Nat.reduceBEq, reduceCtorEq, false_implies, List.zip_cons_cons, List.zip_nil_left, List.zip_nil_right, Nat.reduceLeDiff, List.forall_mem_nil, rs_20, ty_3, ty_4, ty_9, ty_24, ty_25, ty_27, ty_33, ty_51, ty_53]


variable {Γ : FuncId → Contract}


def nothing : List UInt8 := [110, 111, 116, 104, 105, 110, 103]
theorem treeOK_nil : treeOK [] := ⟨by simp, by simp⟩
theorem exd_gen : exdC [.ptr 6400000 0, .c (.str genS), .c (.str genS)] [[.mp true []]] = some ⟨[.pv (.c (.bool true))], [[.mp true []]]⟩ := by
  have h := exd_at [] genS genS treeOK_nil
  have e : extS [] genS genS = true := by
    unfold extS walkS
    rw [walkL_none (by rfl), walkE_nil]
    simp
  rw [e] at h
  exact h
def alive14C : Contract := fun args objs => match args, objs with | [], [] => some ⟨[.pv (.c (.bool true))], []⟩ | _, _ => none
set_option maxHeartbeats 1000000 in
theorem alive14_sound (hΓ : SoundG Try.prog Γ) (h1 : Γ 19 = newTC) (h2 : Γ 27 = genC) (h3 : Γ 17 = exdC) : SoundC Try.prog 14 alive14C := by
  refine sound_fn Try.func14 (by kernel_rfl) rfl rfl ?_
  intro args objs r hr
  unfold alive14C at hr
  split at hr
  · cases hr
    refine ⟨rfl, by show 0 ≤ _; decide, fun E hN hns hF => ?_⟩
    refine vc_sound hΓ mixed _ _ _ ?_
    have hN := hN.trans nt_14
    have q2 : genC [] [] = some ⟨[.pv (.c (.str genS))], []⟩ := rfl
    have q3 := exd_gen
    generalize genS = g at q2 q3
    simp only [runA, runB, runC, runD, runE, runF, fieldE, storeE, binE, ↓reduceIte, Nat.reduceLT, Nat.reduceLeDiff, Nat.reduceEqDiff, Nat.reduceAdd, Nat.reduceMul, Nat.reduceSub, reduceCtorEq, putAt, unE, Nat.reduceBEq, convE, buildE, List.replicate, Int.reduceLT, Int.reduceLE, Int.reduceToNat, mkE, mapSetE, hN, hF, ty_4, ty_9, ty_33, notIf, isEq, h1, newT_at, h2, q2, h3, q3]
    simp only [runB, finC, finD, Option.isSome_some, Option.isSome_none, ↓reduceIte, Nat.reduceEqDiff, Nat.reduceAdd, Nat.reduceMul, forall_eq_or_imp, forall_eq, implies_true, Nat.reduceBEq, reduceCtorEq, false_implies, List.zip_cons_cons, List.zip_nil_left, List.zip_nil_right, Nat.reduceLeDiff, List.forall_mem_nil, rs_14, ty_4, ty_9, ty_33]
  · cases hr

variable {Γ : FuncId → Contract}



variable {Γ : FuncId → Contract}



variable {Γ : FuncId → Contract}

end Go.Proofs.Ytenmlgalcjkdbaa.AM
