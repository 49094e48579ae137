/-
  QD: Tr5 Tr7 Tr8 Tr9.
-/
import Derived.Test.YtenmlgalcjkdbaaGreatQC
set_option linter.unusedVariables false
set_option linter.unusedSimpArgs false
namespace Go.Proofs.YtenmlgalcjkdbaaGreat.AM
open Go

variable {Γ : FuncId → Contract}


noncomputable def missL (own : List Blk) : Nat → List UInt8 → List UInt8
  | 0, _ => []
  | f + 1, nm => if nm == genS then [] else match atB own nm with
    | none => nm
    | some b => missL own f b.pa
noncomputable def missS (own : List Blk) (nm : List UInt8) : List UInt8 := missL own (own.length + 1) nm
noncomputable def misC : Contract := mkC (α := List Blk × List UInt8) (fun p => treeOK p.1) (fun p => [.ptr 6400000 0, .c (.str p.2)]) (fun p => [[.mp true (esOf p.1)]]) (fun p => ⟨[.pv (.c (.str (missS p.1 p.2)))], [[.mp true (esOf p.1)]]⟩)
theorem mis_at (o : List Blk) (s : List UInt8) (g0 : treeOK o) : misC [.ptr 6400000 0, .c (.str s)] [[.mp true (esOf o)]] = some ⟨[.pv (.c (.str (missS o s)))], [[.mp true (esOf o)]]⟩ := by
  exact mkC_at (α := List Blk × List UInt8) (o, s) g0 (by
    rintro ⟨o', s'⟩ _ h ho
    have hh := And.intro h ho
    clear h ho
    simp only [List.cons.injEq, AV.c.injEq, AV.agg.injEq, PC.int.injEq, PC.str.injEq, PC.bool.injEq, PC.sl.injEq, OV.c.injEq, OV.own.injEq, OV.mp.injEq, bytes_iff, texts_iff, true_and, and_true, and_self, beq_self_eq_true, esOf_iff] at hh
    simp only [hh])

end Go.Proofs.YtenmlgalcjkdbaaGreat.AM
set_option linter.unusedVariables false
set_option linter.unusedSimpArgs false
namespace Go.Proofs.YtenmlgalcjkdbaaGreat.AM
open Go

variable {Γ : FuncId → Contract}


/-! the law of three, plain -/
def isPath (own : List Blk) : List UInt8 → List Blk → Prop
  | nm, [] => atB own nm = none
  | nm, b :: S => atB own nm = some b ∧ isPath own b.pa S
theorem walkL_path (own : List Blk) : ∀ (f : Nat) (acc : List Blk) (nm : List UInt8) (R : List Blk), walkL own f acc nm = some R → ∃ S, R = acc ++ S ∧ isPath own nm S
  | 0, acc, nm, R, h => by
    unfold walkL at h
    split at h
    · rename_i ha; cases h; exact ⟨[], by simp, ha⟩
    · cases h
  | f + 1, acc, nm, R, h => by
    unfold walkL at h
    split at h
    · rename_i ha; cases h; exact ⟨[], by simp, ha⟩
    · rename_i b ha
      split at h
      · split at h
        · obtain ⟨S, rfl, hS⟩ := walkL_path own f _ _ _ h
          exact ⟨b :: S, by simp, ha, hS⟩
        · cases h
      · obtain ⟨S, rfl, hS⟩ := walkL_path own f _ _ _ h
        exact ⟨b :: S, by simp, ha, hS⟩
theorem isPath_one {own : List Blk} : ∀ {S T : List Blk} {nm : List UInt8}, isPath own nm S → isPath own nm T → S = T
  | [], [], _, _, _ => rfl
  | [], _ :: _, nm, h, k => by have e := k.1; rw [show atB own nm = none from h] at e; cases e
  | _ :: _, [], nm, h, k => by have e := h.1; rw [show atB own nm = none from k] at e; cases e
  | b :: S, c :: T, nm, ⟨h1, h2⟩, ⟨k1, k2⟩ => by
    rw [h1] at k1
    cases k1
    rw [isPath_one h2 k2]
theorem isPath_split {own : List Blk} : ∀ {A : List Blk} {x : Blk} {T : List Blk} {nm : List UInt8}, isPath own nm (A ++ x :: T) → isPath own x.pa T
  | [], _, _, _, h => h.2
  | _ :: A, _, _, _, h => isPath_split (A := A) h.2
theorem walkS_path {own : List Blk} {nm : List UInt8} (h : (walkS own nm).2 = true) : isPath own nm (walkS own nm).1 := by
  unfold walkS at h ⊢
  cases hW : walkL own (own.length + 1) [] nm with
  | none => rw [hW] at h; cases h
  | some l =>
    rw [hW] at h
    obtain ⟨S, hl2, hS⟩ := walkL_path own _ _ _ _ hW
    rw [List.nil_append] at hl2
    subst hl2
    rcases List.eq_nil_or_concat l with rfl | ⟨i, p, e⟩
    · exact hS
    · rw [List.concat_eq_append] at e
      subst e
      rw [walkE_snoc] at h ⊢
      split at h
      · rename_i hc
        rw [if_pos hc]
        exact hS
      · cases h
theorem extS_of {own : List Blk} {a b : List UInt8} (h : extS own a b = true) : (walkS own a).2 = true ∧ (b = a ∨ b = genS ∨ ∃ A x T, (walkS own a).1 = A ++ x :: T ∧ x.pa = b) := by
  unfold extS at h
  simp only [Bool.and_eq_true, Bool.or_eq_true, beq_iff_eq, List.any_eq_true] at h
  obtain ⟨h1, (h2 | h2) | ⟨x, hx, hp⟩⟩ := h
  · exact ⟨h1, .inl h2⟩
  · exact ⟨h1, .inr (.inl h2)⟩
  · obtain ⟨A, T, e⟩ := List.append_of_mem hx
    exact ⟨h1, .inr (.inr ⟨A, x, T, e, by simpa [parP] using hp⟩)⟩
theorem ext_gen {own : List Blk} {a : List UInt8} (h : (walkS own a).2 = true) : extS own a genS = true := by
  unfold extS
  simp [h]
theorem ext_self {own : List Blk} {a : List UInt8} (h : (walkS own a).2 = true) : extS own a a = true := by
  unfold extS
  simp [h]
theorem ext_mem {own : List Blk} {a : List UInt8} (h : (walkS own a).2 = true) {x : Blk} (hx : x ∈ (walkS own a).1) : extS own a x.pa = true := by
  unfold extS
  simp only [h, Bool.true_and, Bool.or_eq_true, beq_iff_eq, List.any_eq_true]
  exact .inr ⟨x, hx, by simp [parP]⟩
/-- What two that one extends are to each other. -/
theorem three {own : List Blk} {a b c : List UInt8} (hb : extS own a b = true) (hc : extS own a c = true) : conS own b c = false := by
  obtain ⟨ha, hb'⟩ := extS_of hb
  obtain ⟨_, hc'⟩ := extS_of hc
  have hp := walkS_path ha
  unfold conS
  cases kb : (walkS own b).2 with
  | false => rfl
  | true =>
    cases kc : (walkS own c).2 with
    | false => rfl
    | true =>
      have key : extS own b c = true ∨ extS own c b = true := by
        rcases hb' with rfl | rfl | ⟨A, x, T, e1, rfl⟩
        · exact .inl hc
        · exact .inr (ext_gen kc)
        rcases hc' with rfl | rfl | ⟨A2, y, T2, e2, rfl⟩
        · exact .inr hb
        · exact .inl (ext_gen kb)
        have hpb : (walkS own x.pa).1 = T := by rw [e1] at hp; exact isPath_one (walkS_path kb) (isPath_split hp)
        have hpc : (walkS own y.pa).1 = T2 := by rw [e2] at hp; exact isPath_one (walkS_path kc) (isPath_split hp)
        have hcmp := e1.symm.trans e2
        rcases List.append_eq_append_iff.1 hcmp with ⟨D, h1, h2⟩ | ⟨D, h1, h2⟩
        · cases D with
          | nil =>
            simp only [List.nil_append, List.cons.injEq] at h2
            have hxy : x = y := h2.1
            subst hxy
            exact .inl (ext_self kb)
          | cons d D =>
            simp only [List.cons_append, List.cons.injEq] at h2
            refine .inl (ext_mem kb ?_)
            rw [hpb, h2.2]
            simp
        · cases D with
          | nil =>
            simp only [List.nil_append, List.cons.injEq] at h2
            have hxy : y = x := h2.1
            subst hxy
            exact .inl (ext_self kc)
          | cons d D =>
            simp only [List.cons_append, List.cons.injEq] at h2
            refine .inr (ext_mem kc ?_)
            rw [hpc, h2.2]
            simp
      rcases key with h | h <;> simp [h]
theorem noCon {own : List Blk} {a b : List UInt8} (h : extS own a b = true) : conS own a b = false := by
  unfold conS
  simp [h]

/-! the reference: the first of a name -/
noncomputable def nmIs (name : List UInt8) (b : Blk) : Bool := nameS b == name
noncomputable def atI (l : List Blk) (name : List UInt8) : Int := if name = [] then -1 else idxP (nmIs name) l
theorem atI_lt {l : List Blk} {name : List UInt8} (h : name ≠ []) : decide (atI l name < 0) = (atB l name).isNone := by
  unfold atI
  rw [if_neg h]
  have h1 := idxP_ge (nmIs name) l
  have h2 : l.any (nmIs name) = (atB l name).isSome := by
    unfold atB
    rw [Bool.eq_iff_iff, List.any_eq_true, List.find?_isSome]
    rfl
  rw [h2] at h1
  generalize idxP (nmIs name) l = i at h1 ⊢
  cases ha : atB l name with
  | none =>
    rw [ha] at h1
    simp at h1 ⊢
    exact h1
  | some b =>
    rw [ha] at h1
    simp at h1 ⊢
    exact h1
def okTl (l : List Blk) : Prop := l.length ≤ 9223372036854775807 ∧ ∀ b ∈ l, b.txs.length ≤ 9223372036854775807
theorem okTl_getD {l : List Blk} (h : okTl l) {i : Nat} (hi : i < l.length) : (l.getD i zeroBk).txs.length ≤ 9223372036854775807 := by
  rw [List.getD, List.getElem?_eq_getElem hi]
  exact h.2 _ (List.getElem_mem hi)
theorem bkN_p (b : Blk) (h : b.txs.length ≤ 9223372036854775807) : bkNC [.agg [.c (.int .i64 b.vw), .c (.int .i64 b.ht), .c (.str b.pa), .c (.int .i64 b.ju.vw), .c (.int .i64 b.ju.ht), .c (.str b.ju.bl), .c (.sl (votes b.ju.vs)), .c (.sl (trows b.txs)), .c (.str b.sig)]] [] = some ⟨[.pv (.c (.str (nameS b)))], []⟩ := bkN_at b.vw b.ht b.pa b.ju.vw b.ju.ht b.ju.bl b.ju.vs b.txs b.sig h
noncomputable def at14C : Contract := mkC (α := List Blk × List UInt8) (fun p => okTl p.1) (fun p => [.c (.sl (brows p.1)), .c (.str p.2)]) (fun p => []) (fun p => ⟨[.pv (.c (.int .i64 (atI p.1 p.2)))], []⟩)
theorem at14_at (l : List Blk) (s : List UInt8) (g0 : okTl l) : at14C [.c (.sl (brows l)), .c (.str s)] [] = some ⟨[.pv (.c (.int .i64 (atI l s)))], []⟩ := by
  exact mkC_at (α := List Blk × List UInt8) (l, s) g0 (by
    rintro ⟨l', s'⟩ _ h ho
    have hh := And.intro h ho
    clear h ho
    simp only [List.cons.injEq, AV.c.injEq, AV.agg.injEq, PC.int.injEq, PC.str.injEq, PC.bool.injEq, PC.sl.injEq, OV.c.injEq, OV.own.injEq, OV.mp.injEq, bytes_iff, texts_iff, true_and, and_true, and_self, beq_self_eq_true, brows_iff] at hh
    simp only [hh])

set_option maxRecDepth 100000 in
set_option maxHeartbeats 4000000 in
theorem at14_sound (hΓ : SoundG Tryz.prog Γ) (h1 : Γ 17 = bkNC) : SoundC Tryz.prog 127 at14C := by
  refine sound_fn Tryz.func127 (by kernel_rfl) rfl rfl ?_
  intro args objs r0 hr
  obtain ⟨⟨l, s⟩, hl, rfl, rfl, rfl⟩ := mkC_inv hr
  refine ⟨rfl, by show 2 ≤ _; decide, fun E hN hns hF => ?_⟩
  refine vc_sound hΓ mixed _ _ _ ?_
  have hN := hN.trans nt_127
  have hl : okTl l := hl
  have hl1 := hl.1
  dsimp only
  by_cases hs : s = []
  · have g1 : (s == []) = true := by simp [hs]
    have hS : atI l s = -1 := if_pos hs
    rw [hS]
    simp only [runA, runB, runC, runD, runE, runF, fieldE, storeE, binE, ↓reduceIte, Nat.reduceLT, Nat.reduceLeDiff, Nat.reduceEqDiff, Nat.reduceAdd, Nat.reduceMul, Nat.reduceSub, reduceCtorEq, putAt, unE, Nat.reduceBEq, convE, buildE, List.replicate, Int.reduceLT, Int.reduceLE, Int.reduceToNat, mkE, mapSetE, hN, hF, ty_3, ty_9, ty_22, ty_31, ty_33, ty_57, notIf, isEq]
    refine AWP.loop (fun k st => ∃ i : Nat, i ≤ l.length ∧ k = l.length - i ∧ st = ⟨[(0, .c (.sl (brows l))), (1, .c (.str s)), (5, .c (.int .i64 (i : Int)))], []⟩) ⟨l.length, _, ?w, 0, Nat.zero_le _, rfl, rfl⟩ ?r
    case w =>
      rw [hns]
      simp only [runB, finC, finD, AS.get, AS.mem, false_implies, implies_true, ↓reduceIte, Nat.reduceEqDiff, Option.isSome_some, Option.isSome_none, forall_eq_or_imp, forall_eq, reduceCtorEq, Nat.reduceAdd, Nat.reduceMul, List.zip_cons_cons, List.zip_nil_left, List.zip_nil_right, List.forall_mem_nil]
      first | done | simp
    case r =>
      rintro k st ⟨i, hi, rfl, rfl⟩
      refine vc_sound hΓ mixed _ _ _ ?_
      by_cases hlt : i < l.length
      · have k1 : decide ((i : Int) < (l.length : Int)) = true := by simpa using hlt
        have e1 : IntKind.i64.wrap ((i : Int) + 1) = (i : Int) + 1 := wrapI (by omega)
        simp only [runA, runB, runC, runD, runE, runF, fieldE, storeE, binE, ↓reduceIte, Nat.reduceLT, Nat.reduceLeDiff, Nat.reduceEqDiff, Nat.reduceAdd, Nat.reduceMul, Nat.reduceSub, reduceCtorEq, putAt, unE, Nat.reduceBEq, convE, buildE, List.replicate, Int.reduceLT, Int.reduceLE, Int.reduceToNat, mkE, mapSetE, hN, hF, ty_3, ty_9, ty_22, ty_31, ty_33, ty_57, notIf, isEq, k1, e1, g1, brows_length, Bool.not_true]
        refine ⟨l.length - (i + 1), _, by omega, ?_, i + 1, by omega, rfl, rfl⟩
        rw [hns]
        simp only [runB, finC, finD, AS.get, AS.mem, false_implies, implies_true, ↓reduceIte, Nat.reduceEqDiff, Option.isSome_some, Option.isSome_none, forall_eq_or_imp, forall_eq, reduceCtorEq, Nat.reduceAdd, Nat.reduceMul, List.zip_cons_cons, List.zip_nil_left, List.zip_nil_right, List.forall_mem_nil]
        first | done | simp
      · have k1 : decide ((i : Int) < (l.length : Int)) = false := by simpa using hlt
        simp only [runA, runB, runC, runD, runE, runF, fieldE, storeE, binE, ↓reduceIte, Nat.reduceLT, Nat.reduceLeDiff, Nat.reduceEqDiff, Nat.reduceAdd, Nat.reduceMul, Nat.reduceSub, reduceCtorEq, putAt, unE, Nat.reduceBEq, convE, buildE, List.replicate, Int.reduceLT, Int.reduceLE, Int.reduceToNat, mkE, mapSetE, hN, hF, ty_3, ty_9, ty_22, ty_31, ty_33, ty_57, notIf, isEq, k1, brows_length]
        simp only [runB, finC, finD, Option.isSome_some, Option.isSome_none, ↓reduceIte, Nat.reduceEqDiff, Nat.reduceAdd, Nat.reduceMul, forall_eq_or_imp, forall_eq, implies_true, Nat.reduceBEq, reduceCtorEq, false_implies, List.zip_cons_cons, List.zip_nil_left, List.zip_nil_right, Nat.reduceLeDiff, List.forall_mem_nil, rs_127, ty_3, ty_9, ty_22, ty_31, ty_33, ty_57]
  · have g1 : (s == []) = false := by simp [hs]
    have hS : atI l s = idxP (nmIs s) l := if_neg hs
    rw [hS]
    simp only [runA, runB, runC, runD, runE, runF, fieldE, storeE, binE, ↓reduceIte, Nat.reduceLT, Nat.reduceLeDiff, Nat.reduceEqDiff, Nat.reduceAdd, Nat.reduceMul, Nat.reduceSub, reduceCtorEq, putAt, unE, Nat.reduceBEq, convE, buildE, List.replicate, Int.reduceLT, Int.reduceLE, Int.reduceToNat, mkE, mapSetE, hN, hF, ty_3, ty_9, ty_22, ty_31, ty_33, ty_57, notIf, isEq]
    refine AWP.loop (fun k st => ∃ i : Nat, (i ≤ l.length ∧ ∀ k, k < i → nmIs s (l.getD k zeroBk) = false) ∧ k = l.length - i ∧ st = ⟨[(0, .c (.sl (brows l))), (1, .c (.str s)), (5, .c (.int .i64 (i : Int)))], []⟩) ⟨l.length, _, ?w, 0, ⟨Nat.zero_le _, fun k hk => absurd hk (by omega)⟩, rfl, rfl⟩ ?r
    case w =>
      rw [hns]
      simp only [runB, finC, finD, AS.get, AS.mem, false_implies, implies_true, ↓reduceIte, Nat.reduceEqDiff, Option.isSome_some, Option.isSome_none, forall_eq_or_imp, forall_eq, reduceCtorEq, Nat.reduceAdd, Nat.reduceMul, List.zip_cons_cons, List.zip_nil_left, List.zip_nil_right, List.forall_mem_nil]
      first | done | simp
    case r =>
      rintro k st ⟨i, ⟨hi, h8⟩, rfl, rfl⟩
      refine vc_sound hΓ mixed _ _ _ ?_
      by_cases hlt : i < l.length
      · have k1 : decide ((i : Int) < (l.length : Int)) = true := by simpa using hlt
        have e1 : IntKind.i64.wrap ((i : Int) + 1) = (i : Int) + 1 := wrapI (by omega)
        have hg := browsD l i hlt
        have hd := bkN_p (l.getD i zeroBk) (okTl_getD hl hlt)
        unfold Blk.pcs at hg
        cases hp : nmIs s (l.getD i zeroBk) with
        | false =>
          have h8' : ∀ k, k < i + 1 → nmIs s (l.getD k zeroBk) = false := fun k hk => by
            by_cases e : k = i
            · rw [e]; exact hp
            · exact h8 k (by omega)
          unfold nmIs at hp
          generalize l.getD i zeroBk = y at hg hd hp
          simp only [runA, runB, runC, runD, runE, runF, fieldE, storeE, binE, ↓reduceIte, Nat.reduceLT, Nat.reduceLeDiff, Nat.reduceEqDiff, Nat.reduceAdd, Nat.reduceMul, Nat.reduceSub, reduceCtorEq, putAt, unE, Nat.reduceBEq, convE, buildE, List.replicate, Int.reduceLT, Int.reduceLE, Int.reduceToNat, mkE, mapSetE, hN, hF, ty_3, ty_9, ty_22, ty_31, ty_33, ty_57, notIf, isEq, k1, e1, g1, hg, h1, hd, hp, brows_length, Bool.not_false]
          refine ⟨l.length - (i + 1), _, by omega, ?_, i + 1, ⟨by omega, h8'⟩, rfl, rfl⟩
          rw [hns]
          simp only [runB, finC, finD, AS.get, AS.mem, false_implies, implies_true, ↓reduceIte, Nat.reduceEqDiff, Option.isSome_some, Option.isSome_none, forall_eq_or_imp, forall_eq, reduceCtorEq, Nat.reduceAdd, Nat.reduceMul, List.zip_cons_cons, List.zip_nil_left, List.zip_nil_right, List.forall_mem_nil]
          first | done | simp
        | true =>
          have hR := idxP_some hlt hp h8
          unfold nmIs at hp
          generalize l.getD i zeroBk = y at hg hd hp
          simp only [runA, runB, runC, runD, runE, runF, fieldE, storeE, binE, ↓reduceIte, Nat.reduceLT, Nat.reduceLeDiff, Nat.reduceEqDiff, Nat.reduceAdd, Nat.reduceMul, Nat.reduceSub, reduceCtorEq, putAt, unE, Nat.reduceBEq, convE, buildE, List.replicate, Int.reduceLT, Int.reduceLE, Int.reduceToNat, mkE, mapSetE, hN, hF, ty_3, ty_9, ty_22, ty_31, ty_33, ty_57, notIf, isEq, k1, e1, g1, hg, h1, hd, hp, brows_length, Bool.not_false]
          simp only [runB, finC, finD, Option.isSome_some, Option.isSome_none, ↓reduceIte, Nat.reduceEqDiff, Nat.reduceAdd, Nat.reduceMul, forall_eq_or_imp, forall_eq, implies_true, Nat.reduceBEq, reduceCtorEq, false_implies, List.zip_cons_cons, List.zip_nil_left, List.zip_nil_right, Nat.reduceLeDiff, List.forall_mem_nil, rs_127, ty_3, ty_9, ty_22, ty_31, ty_33, ty_57, hR]
      · have k1 : decide ((i : Int) < (l.length : Int)) = false := by simpa using hlt
        obtain rfl : i = l.length := by omega
        have hR := idxP_none h8
        simp only [runA, runB, runC, runD, runE, runF, fieldE, storeE, binE, ↓reduceIte, Nat.reduceLT, Nat.reduceLeDiff, Nat.reduceEqDiff, Nat.reduceAdd, Nat.reduceMul, Nat.reduceSub, reduceCtorEq, putAt, unE, Nat.reduceBEq, convE, buildE, List.replicate, Int.reduceLT, Int.reduceLE, Int.reduceToNat, mkE, mapSetE, hN, hF, ty_3, ty_9, ty_22, ty_31, ty_33, ty_57, notIf, isEq, k1, brows_length]
        simp only [runB, finC, finD, Option.isSome_some, Option.isSome_none, ↓reduceIte, Nat.reduceEqDiff, Nat.reduceAdd, Nat.reduceMul, forall_eq_or_imp, forall_eq, implies_true, Nat.reduceBEq, reduceCtorEq, false_implies, List.zip_cons_cons, List.zip_nil_left, List.zip_nil_right, Nat.reduceLeDiff, List.forall_mem_nil, rs_127, ty_3, ty_9, ty_22, ty_31, ty_33, ty_57, hR]

end Go.Proofs.YtenmlgalcjkdbaaGreat.AM
set_option linter.unusedVariables false
set_option linter.unusedSimpArgs false
namespace Go.Proofs.YtenmlgalcjkdbaaGreat.AM
open Go

variable {Γ : FuncId → Contract}


def okBl (l : List Blk) : Prop := l.length ≤ 1048576 ∧ ∀ b ∈ l, b.txs.length ≤ 1048576 ∧ b.ju.vs.length ≤ 1048576
theorem okBl_getD {l : List Blk} (h : okBl l) {i : Nat} (hi : i < l.length) : (l.getD i zeroBk).txs.length ≤ 1048576 ∧ (l.getD i zeroBk).ju.vs.length ≤ 1048576 := by
  rw [List.getD, List.getElem?_eq_getElem hi]
  exact h.2 _ (List.getElem_mem hi)
noncomputable def ownI (l : List Blk) (i : Nat) : List Blk := (l.take i).foldl putO []
noncomputable def ownS (l : List Blk) : List Blk := ownI l (min 12 l.length)
theorem ownI_succ {l : List Blk} {i : Nat} (h : i < l.length) : ownI l (i + 1) = putO (ownI l i) (l.getD i zeroBk) := by
  unfold ownI
  rw [List.take_add_one, List.getElem?_eq_getElem h, List.foldl_append, List.getD, List.getElem?_eq_getElem h]
  rfl
theorem ownI_ok {l : List Blk} (hl : okBl l) : ∀ i, i ≤ l.length → (ownI l i).length ≤ i ∧ ∀ b ∈ ownI l i, okB b ∧ (b.txs.length ≤ 1048576 ∧ b.ju.vs.length ≤ 1048576)
  | 0, _ => ⟨by simp [ownI], by simp [ownI]⟩
  | i + 1, h => by
    obtain ⟨h1, h2⟩ := ownI_ok hl i (by omega)
    rw [ownI_succ (by omega)]
    unfold putO
    split
    · rename_i hp
      unfold putB' at hp
      simp only [Bool.and_eq_true, decide_eq_true_eq] at hp
      refine ⟨by simp; omega, fun b hb => ?_⟩
      rcases List.mem_append.1 hb with hb | hb
      · exact h2 b hb
      · simp only [List.mem_singleton] at hb
        subst hb
        exact ⟨hp.1, okBl_getD hl (by omega)⟩
    · exact ⟨by omega, h2⟩
theorem ownI_tree {l : List Blk} (hl : okBl l) {i : Nat} (h : i ≤ l.length) : treeOK (ownI l i) := by
  obtain ⟨h1, h2⟩ := ownI_ok hl i h
  have := hl.1
  exact ⟨by omega, fun b hb => ⟨(h2 b hb).1, by have := (h2 b hb).2.1; omega, by have := (h2 b hb).2.2; omega⟩⟩
theorem ownI_tl {l : List Blk} (hl : okBl l) {i : Nat} (h : i ≤ l.length) : okTl (ownI l i) := by
  obtain ⟨h1, h2⟩ := ownI_ok hl i h
  have := hl.1
  exact ⟨by omega, fun b hb => by have := (h2 b hb).2.1; omega⟩
theorem bkCk_p (b : Blk) (h : b.txs.length ≤ 9223372036854775807) : bkCkC [.agg [.c (.int .i64 b.vw), .c (.int .i64 b.ht), .c (.str b.pa), .c (.int .i64 b.ju.vw), .c (.int .i64 b.ju.ht), .c (.str b.ju.bl), .c (.sl (votes b.ju.vs)), .c (.sl (trows b.txs)), .c (.str b.sig)]] [] = some ⟨[.pv (.c (.int .i64 (bkS b)))], []⟩ := bkCk_at b h
theorem putT_p (o : List Blk) (b : Blk) (h : smB b) : putTC [.ptr 6400000 0, .agg [.c (.int .i64 b.vw), .c (.int .i64 b.ht), .c (.str b.pa), .c (.int .i64 b.ju.vw), .c (.int .i64 b.ju.ht), .c (.str b.ju.bl), .c (.sl (votes b.ju.vs)), .c (.sl (trows b.txs)), .c (.str b.sig)]] [[.mp true (esOf o)]] = some ⟨[.pv (.c (.bool (putB' o b)))], [[.mp true (esOf (putO o b))]]⟩ := putT_at o b.vw b.ht b.pa b.ju.vw b.ju.ht b.ju.bl b.ju.vs b.txs b.sig h
theorem newT_at : newTC [] [] = some ⟨[.newobj [.mp true []]], []⟩ := rfl
theorem esOf_nil : esOf [] = [] := rfl
noncomputable def put14C : Contract := mkC (α := List Blk) (fun p => okBl p) (fun p => [.c (.sl (brows p))]) (fun p => []) (fun p => ⟨[.newobj [.mp true (esOf (ownS p))], .pv (.c (.sl (brows (ownS p)))), .pv (.c (.bool true))], []⟩)
theorem put14_at (l : List Blk) (g0 : okBl l) : put14C [.c (.sl (brows l))] [] = some ⟨[.newobj [.mp true (esOf (ownS l))], .pv (.c (.sl (brows (ownS l)))), .pv (.c (.bool true))], []⟩ := by
  exact mkC_at (α := List Blk) l g0 (by
    rintro l' _ h ho
    have hh := And.intro h ho
    clear h ho
    simp only [List.cons.injEq, AV.c.injEq, AV.agg.injEq, PC.int.injEq, PC.str.injEq, PC.bool.injEq, PC.sl.injEq, OV.c.injEq, OV.own.injEq, OV.mp.injEq, bytes_iff, texts_iff, true_and, and_true, and_self, beq_self_eq_true, brows_iff] at hh
    simp only [hh])

end Go.Proofs.YtenmlgalcjkdbaaGreat.AM
set_option linter.unusedVariables false
set_option linter.unusedSimpArgs false
namespace Go.Proofs.YtenmlgalcjkdbaaGreat.AM
open Go

variable {Γ : FuncId → Contract}


def nothing : List UInt8 := [110, 111, 116, 104, 105, 110, 103]
def nmI (o : List Blk) (n : Int) : Nat := ((n.tmod ((o.length : Int) + 2) + (o.length : Int) + 2).tmod ((o.length : Int) + 2)).toNat
noncomputable def nm14 (o : List Blk) (n : Int) : List UInt8 := if nmI o n = 0 then genS else if nmI o n = 1 then nothing else nameS (o.getD (nmI o n - 2) zeroBk)
def okO (o : List Blk) : Prop := okTl o ∧ o.length ≤ 1048576
noncomputable def name14C : Contract := mkC (α := List Blk × Int) (fun p => okO p.1) (fun p => [.c (.sl (brows p.1)), .c (.int .i64 p.2)]) (fun p => []) (fun p => ⟨[.pv (.c (.str (nm14 p.1 p.2)))], []⟩)
theorem name14_at (o : List Blk) (n : Int) (g0 : okO o) : name14C [.c (.sl (brows o)), .c (.int .i64 n)] [] = some ⟨[.pv (.c (.str (nm14 o n)))], []⟩ := by
  exact mkC_at (α := List Blk × Int) (o, n) g0 (by
    rintro ⟨o', n'⟩ _ h ho
    have hh := And.intro h ho
    clear h ho
    simp only [List.cons.injEq, AV.c.injEq, AV.agg.injEq, PC.int.injEq, PC.str.injEq, PC.bool.injEq, PC.sl.injEq, OV.c.injEq, OV.own.injEq, OV.mp.injEq, bytes_iff, texts_iff, true_and, and_true, and_self, beq_self_eq_true, brows_iff] at hh
    simp only [hh])

theorem treeOK_nil : treeOK [] := ⟨by simp, by simp⟩
theorem exd_gen : exdC [.ptr 6400000 0, .c (.str genS), .c (.str genS)] [[.mp true []]] = some ⟨[.pv (.c (.bool true))], [[.mp true []]]⟩ := by
  have h := exd_at [] genS genS treeOK_nil
  have e : extS [] genS genS = true := by
    unfold extS walkS
    rw [walkL_none (by rfl), walkE_nil]
    simp
  rw [e] at h
  exact h
def alive14C : Contract := fun args objs => match args, objs with | [], [] => some ⟨[.pv (.c (.bool true))], []⟩ | _, _ => none
noncomputable def three14C : Contract := mkC (α := List Blk × Int × Int × Int) (fun p => okBl p.1) (fun p => [.c (.sl (brows p.1)), .c (.int .i64 p.2.1), .c (.int .i64 p.2.2.1), .c (.int .i64 p.2.2.2)]) (fun p => []) (fun p => ⟨[.pv (.c (.bool true))], []⟩)
theorem three14_at (l : List Blk) (x : Int) (y : Int) (z : Int) (g0 : okBl l) : three14C [.c (.sl (brows l)), .c (.int .i64 x), .c (.int .i64 y), .c (.int .i64 z)] [] = some ⟨[.pv (.c (.bool true))], []⟩ := by
  exact mkC_at (α := List Blk × Int × Int × Int) (l, x, y, z) g0 (by
    rintro ⟨l', x', y', z'⟩ _ h ho
    have hh := And.intro h ho
    clear h ho
    simp only [List.cons.injEq, AV.c.injEq, AV.agg.injEq, PC.int.injEq, PC.str.injEq, PC.bool.injEq, PC.sl.injEq, OV.c.injEq, OV.own.injEq, OV.mp.injEq, bytes_iff, texts_iff, true_and, and_true, and_self, beq_self_eq_true, brows_iff] at hh
    simp only [hh])

end Go.Proofs.YtenmlgalcjkdbaaGreat.AM
